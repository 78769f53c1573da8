/- Which arenas, limbos and towers may be: loops. -/
import Derived.Test.YtdldcofddfkkbaaGreatPb
namespace Go.Proofs.YtdldcofddfkkbaaGreat
set_option linter.unusedVariables false
set_option linter.unusedSimpArgs false
set_option linter.unusedSectionVars false
open Go

/-- a round over a row: which cells were seen, the cell, how many were told -/
def arHead (A : List Int) (F : Int) (K : Nat) (c : Int) (sn : List Int) (at_ n : Int) : Prop :=
  ∃ k : Nat, k ≤ K ∧ sn = seenL (A ++ runI F k) c ∧ (A ++ runI F k).Nodup ∧ at_ = (if k < K then F + k else -1) ∧ n = (if k < K then (k : Int) + 1 else K)
def arFacts (t l s g w m c : Int) : Prop := 1 ≤ s ∧ s ≤ 4096 ∧ 0 ≤ t ∧ t < c ∧ 0 ≤ l ∧ l + s ≤ c ∧ 0 ≤ g ∧ g + s ≤ c ∧ 0 ≤ w ∧ w < c ∧ c ≤ 4096 ∧ fits10 t l s c = 0 ∧ 1 ≤ m ∧ m ≤ 4294967295
def arInv0 (env : List (EV U)) : Prop := ∃ t l s g w m c, ∃ x7 x8 x9 : EV U, ∃ sn at_ n, env = [.i t, .i l, .i s, .i g, .i w, .i m, .i c, x7, x8, x9, .l sn, .i at_, .i n] ∧ arFacts t l s g w m c ∧ arHead [t] l s.toNat c sn at_ n
def lAr0 : LoopS U :=
  { fn := 85, rid := 11, at_ := 10, nv := 3, tm := [(8, .int .i64 (.var 11))], hp := [(1, .rb 4 10), (4, .cells [.int .i64 (.var 12)] 3)], reb := [], inv := arInv0
    mu := fun env => 2 * (gI env 2).toNat + 2 - (gI env 12).toNat - (if gI env 11 < 0 then 1 else 0) }
def arInv1 (env : List (EV U)) : Prop := ∃ t l s g w m c, ∃ x7 x8 x9 x10 x11 x12 : EV U, ∃ sn at_ n, env = [.i t, .i l, .i s, .i g, .i w, .i m, .i c, x7, x8, x9, x10, x11, x12, .l sn, .i at_, .i n] ∧ arFacts t l s g w m c ∧ arHead ([t] ++ runI l s.toNat) g s.toNat c sn at_ n
def lAr1 : LoopS U :=
  { fn := 85, rid := 11, at_ := 13, nv := 3, tm := [(8, .int .i64 (.var 14))], hp := [(1, .rb 4 13), (7, .cells [.int .i64 (.var 15)] 3)], reb := [], inv := arInv1
    mu := fun env => 2 * (gI env 2).toNat + 2 - (gI env 15).toNat - (if gI env 14 < 0 then 1 else 0) }
def arInv2 (env : List (EV U)) : Prop := ∃ t l s g w m c, ∃ x7 x8 x9 x10 x11 x12 x13 x14 x15 : EV U, ∃ sn at_ n, env = [.i t, .i l, .i s, .i g, .i w, .i m, .i c, x7, x8, x9, x10, x11, x12, x13, x14, x15, .l sn, .i at_, .i n] ∧ arFacts t l s g w m c ∧ arHead ([t] ++ runI l s.toNat ++ runI g s.toNat) w 1 c sn at_ n
def lAr2 : LoopS U :=
  { fn := 85, rid := 11, at_ := 16, nv := 3, tm := [(8, .int .i64 (.var 17))], hp := [(1, .rb 4 16), (10, .cells [.int .i64 (.var 18)] 3)], reb := [], inv := arInv2
    mu := fun env => 2 * 1 + 2 - (gI env 18).toNat - (if gI env 17 < 0 then 1 else 0) }
def cxPar (P : Program) : Cx U := { cx P ctsPa with join := true, loops := [lAr0, lAr1, lAr2] }
def heInv1 (env : List (EV U)) : Prop := ∃ t l s g w m ea ep ec tp : Int, ∃ k : Nat, ∃ V d : List Int, env = [.i t, .i l, .i s, .i g, .i w, .i m, .i ea, .i ep, .i ec, .i tp, .i k, .l (V ++ d), .i V.length, .i ((V.length + d.length : Nat) : Int)] ∧ s ≤ 4096 ∧ ec ≤ 64 ∧ k ≤ s.toNat ∧ V = [t, w, ea, tp, IntKind.i64.wrap (tp + 1), IntKind.i64.wrap (tp + 2)] ++ runP l g k
def heInv2 (env : List (EV U)) : Prop := ∃ t l s g w m ea ep ec tp : Int, ∃ x10 x11 x12 x13 : EV U, ∃ k : Nat, ∃ V d : List Int, env = [.i t, .i l, .i s, .i g, .i w, .i m, .i ea, .i ep, .i ec, .i tp, x10, x11, x12, x13, .i k, .l (V ++ d), .i V.length, .i ((V.length + d.length : Nat) : Int)] ∧ s ≤ 4096 ∧ ec ≤ 64 ∧ k ≤ ec.toNat ∧ V = [t, w, ea, tp, IntKind.i64.wrap (tp + 1), IntKind.i64.wrap (tp + 2)] ++ runP l g s.toNat ++ runI ep k
def lHe1 (f : FuncId) (c : Nat) : LoopS U := { fn := f, rid := 3, nv := 4, tm := [(24, .junk), (c, .int .i64 (.var 10)), (3, .slice 1 (.var 12) (.var 13))], hp := [(1, .row .i64 3 11)], reb := [(1, 0)], inv := heInv1, mu := fun env => (gI env 2 - gI env 10).toNat }
def lHe2 (f : FuncId) (r c : Nat) : LoopS U := { fn := f, rid := r, nv := 4, tm := [(24, .junk), (c, .int .i64 (.var 14)), (3, .slice 1 (.var 16) (.var 17))], hp := [(1, .row .i64 3 15)], reb := [(1, 0)], inv := heInv2, mu := fun env => (gI env 8 - gI env 14).toNat }
def cxPhe (f : FuncId) (c r c2 : Nat) (P : Program) : Cx U := { cx P [] with join := true, loops := [lHe1 f c, lHe2 f r c2] }
end Go.Proofs.YtdldcofddfkkbaaGreat
