/- Which limbos and towers may be: loops. -/
import Derived.Test.YtbmbiiiacajolaaGreatPd
namespace Go.Proofs.YtbmbiiiacajolaaGreat
set_option linter.unusedVariables false
set_option linter.unusedSimpArgs false
set_option linter.unusedSectionVars false
open Go Go.RowKit

def ctsPe : List (Ctr U) := [cSFits, cEFits, cAFits, cHeld1, cHeld2, cSnd15]
theorem hctsPe : ∀ (ci : Nat) (c : Ctr U), ctsPe[ci]? = some c → c.Holds objs Tryz.prog := by
  intro ci c h
  match ci, h with
  | 0, h => cases h; exact hSFits
  | 1, h => cases h; exact hEFits
  | 2, h => cases h; exact hAFits
  | 3, h => cases h; exact hHeld1
  | 4, h => cases h; exact hHeld2
  | 5, h => cases h; exact hSnd15
  | n + 6, h => cases h
/-! ### limbos -/
def liFacts (t l s g w m ea ep ec tp c : Int) : Prop := fits11 t l s g w m c = 0 ∧ fits12 ea ep ec c = 0 ∧ 0 ≤ tp ∧ tp ≤ c - 3 ∧ 1 ≤ c ∧ c ≤ 4096
def liInv (env : List (EV U)) : Prop := ∃ t l s g w m ea ep ec tp c : Int, ∃ x11 x12 x13 : EV U, ∃ V d S : List Int, ∃ cap k : Int, env = [.i t, .i l, .i s, .i g, .i w, .i m, .i ea, .i ep, .i ec, .i tp, .i c, x11, x12, x13, .l (V ++ d), .i V.length, .i cap, .l S, .i k] ∧ V = held13 t l s g w ea ep ec tp ∧ liFacts t l s g w m ea ep ec tp c ∧
  0 ≤ k ∧ k ≤ V.length ∧ (∀ x, x ∈ S ↔ x ∈ V.take k.toNat) ∧ (V.take k.toNat).Nodup
def lLi : LoopS U := { fn := 83, rid := 7, nv := 2, tm := [(44, .int .i64 (.var 18))], hp := [(1, .mp 17)], reb := [], inv := liInv, mu := fun env => (gI env 15 - gI env 18).toNat }
def cxPe0 (P : Program) : Cx U := { cx P ctsPe with join := true, loops := [lLi] }
/-! ### towers -/
def toFacts (n h a t l s g w m ea ep ec tp c : Int) : Prop := okT n h a s = true ∧ fits13 t l s g w m ea ep ec tp c = 0 ∧ 1 ≤ c ∧ c ≤ 4096
def toInv1 (env : List (EV U)) : Prop := ∃ n h a t l s g w m ea ep ec tp c : Int, ∃ x14 x15 x16 x17 x18 : EV U, ∃ k : Nat, ∃ V d : List Int, env = [.i n, .i h, .i a, .i t, .i l, .i s, .i g, .i w, .i m, .i ea, .i ep, .i ec, .i tp, .i c, x14, x15, x16, x17, x18, .i k, .l (V ++ d), .i V.length, .i ((V.length + d.length : Nat) : Int)] ∧ toFacts n h a t l s g w m ea ep ec tp c ∧ k ≤ (s * (4 + a)).toNat ∧ V = held13 t l s g w ea ep ec tp ++ runI n k
def toInv2 (env : List (EV U)) : Prop := ∃ n h a t l s g w m ea ep ec tp c : Int, ∃ x14 x15 x16 x17 x18 x19 x20 x21 x22 : EV U, ∃ k : Nat, ∃ V d : List Int, env = [.i n, .i h, .i a, .i t, .i l, .i s, .i g, .i w, .i m, .i ea, .i ep, .i ec, .i tp, .i c, x14, x15, x16, x17, x18, x19, x20, x21, x22, .i k, .l (V ++ d), .i V.length, .i ((V.length + d.length : Nat) : Int)] ∧ toFacts n h a t l s g w m ea ep ec tp c ∧ k ≤ a.toNat ∧ V = held13 t l s g w ea ep ec tp ++ runI n (s * (4 + a)).toNat ++ runI h k
def toInv3 (env : List (EV U)) : Prop := ∃ n h a t l s g w m ea ep ec tp c : Int, ∃ x14 x15 x16 x17 x18 x19 x20 x21 x22 x23 x27 : EV U, ∃ V d sn : List Int, ∃ cap k : Int, env = [.i n, .i h, .i a, .i t, .i l, .i s, .i g, .i w, .i m, .i ea, .i ep, .i ec, .i tp, .i c, x14, x15, x16, x17, x18, x19, x20, x21, x22, x23, .l (V ++ d), .i V.length, .i cap, x27, .i k, .l sn] ∧ toFacts n h a t l s g w m ea ep ec tp c ∧ V = all15 n h a t l s g w ea ep ec tp ∧
  0 ≤ k ∧ k ≤ V.length ∧ sn = seenL (V.take k.toNat) c ∧ (V.take k.toNat).Nodup ∧ ∀ x ∈ V.take k.toNat, 0 ≤ x ∧ x < c
def lTo1 : LoopS U := { fn := 23, rid := 7, nv := 4, tm := [(29, .junk), (38, .int .i64 (.var 19)), (5, .slice 1 (.var 21) (.var 22))], hp := [(1, .row .i64 3 20)], reb := [(1, 0)], inv := toInv1, mu := fun env => ((gI env 5) * (4 + gI env 2) - gI env 19).toNat }
def lTo2 : LoopS U := { fn := 23, rid := 12, nv := 4, tm := [(29, .junk), (51, .int .i64 (.var 23)), (5, .slice 1 (.var 25) (.var 26))], hp := [(1, .row .i64 3 24)], reb := [(1, 0)], inv := toInv2, mu := fun env => (gI env 2 - gI env 23).toNat }
def lTo3 : LoopS U := { fn := 23, rid := 18, nv := 2, tm := [(66, .int .i64 (.var 28))], hp := [(2, .rb 4 29)], reb := [], inv := toInv3, mu := fun env => (gI env 25 - gI env 28).toNat }
def cxPe1 (P : Program) : Cx U := { cx P (ctsPe ++ [cLFits]) with join := true, loops := [lTo1, lTo2, lTo3] }
end Go.Proofs.YtbmbiiiacajolaaGreat
