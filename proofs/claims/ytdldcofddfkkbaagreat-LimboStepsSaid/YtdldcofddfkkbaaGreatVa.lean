/- Which arenas, limbos and towers may be, as the document says: contracts. -/
import Derived.Test.YtdldcofddfkkbaaGreatPz
namespace Go.Proofs.YtdldcofddfkkbaaGreat
set_option linter.unusedVariables false
set_option linter.unusedSimpArgs false
set_option linter.unusedSectionVars false
open Go Go.RowKit

/-- are numbers all from 0 on, below n, none of them twice? -/
def apartB (L : List Int) (n : Int) : Bool := decide (∀ x ∈ L, 0 ≤ x ∧ x < n) && decide L.Nodup
def cells11D (t l s g w : Int) : List Int := [t, w] ++ runP l g s.toNat
def fits11D (t l s g w m c : Int) : Int := if c < 1 ∨ 4096 < c then 3 else if fits10 t l s c ≠ 0 ∨ m < 1 ∨ 4294967295 < m ∨ apartB (cells11D t l s g w) c = false then 2 else 0
def held13D (t l s g w ea ep ec tp : Int) : List Int := cells11D t l s g w ++ [ea, tp, IntKind.i64.wrap (tp + 1), IntKind.i64.wrap (tp + 2)] ++ runI ep ec.toNat
def fits13D (t l s g w m ea ep ec tp c : Int) : Int := if c < 1 ∨ 4096 < c then 3 else if fits11D t l s g w m c ≠ 0 ∨ fits12 ea ep ec c ≠ 0 ∨ apartB (held13D t l s g w ea ep ec tp) c = false then 2 else 0
def own15 (n h a s : Int) : List Int := runI n (s * (4 + a)).toNat ++ runI h a.toNat
def fits15D (n h a t l s g w m ea ep ec tp c : Int) : Int := if c < 1 ∨ 4096 < c then 3 else if okT n h a s = false ∨ fits13D t l s g w m ea ep ec tp c ≠ 0 ∨ apartB (held13D t l s g w ea ep ec tp ++ own15 n h a s) c = false then 2 else 0

def cAmong : Ctr U :=
  { fn := 67, nin := 4, args := [.slice 0 (.var 1) (.var 2), .int .i64 (.var 3)], heap := [.row .i64 3 0]
    pre := fun ins => ∃ xs a c x, ins = [.l xs, .i a, .i c, .i x] ∧ 0 ≤ a ∧ a ≤ xs.length ∧ a ≤ 20000, nout := 1
    out := fun ins => match ins with | [.l xs, .i a, _, .i x] => [.b (decide (x ∈ xs.take a.toNat))] | _ => []
    ret := .bool (.var 4), post := [.row .i64 3 0] }
def amInv (env : List (EV U)) : Prop := ∃ xs a c x k, env = [.l xs, .i a, .i c, .i x, .i k] ∧ 0 ≤ a ∧ a ≤ xs.length ∧ a ≤ 20000 ∧ 0 ≤ k ∧ k ≤ a ∧ x ∉ xs.take k.toNat
def lAmong : LoopS U := { fn := 67, rid := 2, nv := 1, tm := [(5, .int .i64 (.var 4))], hp := [], reb := [], inv := amInv, mu := fun env => (gI env 1 - gI env 4).toNat }
def cApD : Ctr U :=
  { fn := 90, nin := 4, args := [.slice 0 (.var 1) (.var 2), .int .i64 (.var 3)], heap := [.row .i64 3 0]
    pre := fun ins => ∃ xs a c n, ins = [.l xs, .i a, .i c, .i n] ∧ 0 ≤ a ∧ a ≤ xs.length ∧ a ≤ c ∧ a ≤ 20000, nout := 1
    out := fun ins => match ins with | [.l xs, .i a, _, .i n] => [.b (apartB (xs.take a.toNat) n)] | _ => []
    ret := .bool (.var 4), post := [.row .i64 3 0] }
def apdInv (env : List (EV U)) : Prop := ∃ xs a c n k, env = [.l xs, .i a, .i c, .i n, .i k] ∧ 0 ≤ a ∧ a ≤ xs.length ∧ a ≤ c ∧ a ≤ 20000 ∧ 0 ≤ k ∧ k ≤ a ∧ (xs.take k.toNat).Nodup ∧ ∀ x ∈ xs.take k.toNat, 0 ≤ x ∧ x < n
def lApD : LoopS U := { fn := 90, rid := 2, nv := 1, tm := [(5, .int .i64 (.var 4))], hp := [], reb := [], inv := apdInv, mu := fun env => (gI env 1 - gI env 4).toNat }
def cCe11 : Ctr U :=
  { fn := 167, nin := 6, args := [.agg [.int .i64 (.var 0), .int .i64 (.var 1), .int .i64 (.var 2), .int .i64 (.var 3), .int .i64 (.var 4), .int .i64 (.var 5)]], heap := []
    pre := fun ins => ∃ t l s g w m, ins = [.i t, .i l, .i s, .i g, .i w, .i m] ∧ s ≤ 4096, nout := 3, out := fun _ => []
    rel := some fun ins outs => ∃ t l s g w m, ∃ d : List Int, ins = [.i t, .i l, .i s, .i g, .i w, .i m] ∧ outs = [.l (cells11D t l s g w ++ d), .i (cells11D t l s g w).length, .i (((cells11D t l s g w).length + d.length : Nat) : Int)]
    ret := .slice 0 (.var 7) (.var 8), post := [.row .i64 3 6] }
def ce11Inv (env : List (EV U)) : Prop := ∃ t l s g w m : Int, ∃ k : Nat, ∃ V d : List Int, env = [.i t, .i l, .i s, .i g, .i w, .i m, .i k, .l (V ++ d), .i V.length, .i ((V.length + d.length : Nat) : Int)] ∧ s ≤ 4096 ∧ k ≤ s.toNat ∧ V = [t, w] ++ runP l g k
def lCe11 : LoopS U := { fn := 167, rid := 3, nv := 4, tm := [(10, .junk), (4, .int .i64 (.var 6)), (3, .slice 1 (.var 8) (.var 9))], hp := [(1, .row .i64 3 7)], reb := [(1, 0)], inv := ce11Inv, mu := fun env => (gI env 2 - gI env 6).toNat }
def cCe13 : Ctr U :=
  { fn := 91, nin := 10, args := [limV 0], heap := []
    pre := fun ins => ∃ t l s g w m ea ep ec tp, ins = [.i t, .i l, .i s, .i g, .i w, .i m, .i ea, .i ep, .i ec, .i tp] ∧ s ≤ 4096 ∧ ec ≤ 64, nout := 3, out := fun _ => []
    rel := some fun ins outs => ∃ t l s g w m ea ep ec tp, ∃ d : List Int, ins = [.i t, .i l, .i s, .i g, .i w, .i m, .i ea, .i ep, .i ec, .i tp] ∧ outs = [.l (held13D t l s g w ea ep ec tp ++ d), .i (held13D t l s g w ea ep ec tp).length, .i (((held13D t l s g w ea ep ec tp).length + d.length : Nat) : Int)]
    ret := .slice 0 (.var 11) (.var 12), post := [.row .i64 3 10] }
def cOwn15 : Ctr U :=
  { fn := 122, nin := 13, args := [twV 0], heap := []
    pre := fun ins => ∃ n h a t l s g w m ea ep ec tp, ins = [.i n, .i h, .i a, .i t, .i l, .i s, .i g, .i w, .i m, .i ea, .i ep, .i ec, .i tp] ∧ okT n h a s = true, nout := 3, out := fun _ => []
    rel := some fun ins outs => ∃ n h a t l s g w m ea ep ec tp, ∃ d : List Int, ins = [.i n, .i h, .i a, .i t, .i l, .i s, .i g, .i w, .i m, .i ea, .i ep, .i ec, .i tp] ∧ outs = [.l (own15 n h a s ++ d), .i (own15 n h a s).length, .i (((own15 n h a s).length + d.length : Nat) : Int)]
    ret := .slice 0 (.var 14) (.var 15), post := [.row .i64 3 13] }
def cDF10 : Ctr U := { cSFits with fn := 166 }
def cDF12 : Ctr U := { cEFits with fn := 89 }
def cDSnd : Ctr U := { cSnd15 with fn := 121 }
def cDF11 : Ctr U :=
  { fn := 88, nin := 7, args := [.agg [.int .i64 (.var 0), .int .i64 (.var 1), .int .i64 (.var 2), .int .i64 (.var 3), .int .i64 (.var 4), .int .i64 (.var 5)], .int .i64 (.var 6)], heap := []
    pre := fun ins => ∃ t l s g w m c, ins = [.i t, .i l, .i s, .i g, .i w, .i m, .i c], nout := 1
    out := fun ins => match ins with | [.i t, .i l, .i s, .i g, .i w, .i m, .i c] => [.i (fits11D t l s g w m c)] | _ => []
    ret := .int .i64 (.var 7), post := [] }
def cDF13 : Ctr U :=
  { fn := 31, nin := 11, args := [limV 0, .int .i64 (.var 10)], heap := []
    pre := fun ins => ∃ t l s g w m ea ep ec tp c, ins = [.i t, .i l, .i s, .i g, .i w, .i m, .i ea, .i ep, .i ec, .i tp, .i c], nout := 1
    out := fun ins => match ins with | [.i t, .i l, .i s, .i g, .i w, .i m, .i ea, .i ep, .i ec, .i tp, .i c] => [.i (fits13D t l s g w m ea ep ec tp c)] | _ => []
    ret := .int .i64 (.var 11), post := [] }
def cDF15 : Ctr U :=
  { fn := 56, nin := 14, args := [twV 0, .int .i64 (.var 13)], heap := []
    pre := fun ins => ∃ n h k t l s g w m ea ep ec tp c, ins = [.i n, .i h, .i k, .i t, .i l, .i s, .i g, .i w, .i m, .i ea, .i ep, .i ec, .i tp, .i c], nout := 1
    out := fun ins => match ins with | [.i n, .i h, .i k, .i t, .i l, .i s, .i g, .i w, .i m, .i ea, .i ep, .i ec, .i tp, .i c] => [.i (fits15D n h k t l s g w m ea ep ec tp c)] | _ => []
    ret := .int .i64 (.var 14), post := [] }
def cxVa (P : Program) : Cx U := { cx P [] with join := true, loops := [lAmong] }
def cxVb (P : Program) : Cx U := { cx P [cAmong] with join := true, loops := [lApD] }
def cxVc (P : Program) : Cx U := { cx P [] with join := true, loops := [lCe11] }
def ce13Inv (env : List (EV U)) : Prop := ∃ t l s g w m ea ep ec tp : Int, ∃ x10 x11 x12 x13 x14 : EV U, ∃ k : Nat, ∃ V d : List Int, env = [.i t, .i l, .i s, .i g, .i w, .i m, .i ea, .i ep, .i ec, .i tp, x10, x11, x12, x13, x14, .i k, .l (V ++ d), .i V.length, .i ((V.length + d.length : Nat) : Int)] ∧ s ≤ 4096 ∧ ec ≤ 64 ∧ k ≤ ec.toNat ∧ V = cells11D t l s g w ++ [ea, tp, IntKind.i64.wrap (tp + 1), IntKind.i64.wrap (tp + 2)] ++ runI ep k
def lCe13 : LoopS U := { fn := 91, rid := 3, nv := 4, tm := [(20, .junk), (4, .int .i64 (.var 15)), (3, .slice 3 (.var 17) (.var 18))], hp := [(3, .row .i64 3 16)], reb := [(3, 0)], inv := ce13Inv, mu := fun env => (gI env 8 - gI env 15).toNat }
def cxVd (P : Program) : Cx U := { cx P [cCe11] with join := true, loops := [lCe13] }
def ow1Inv (env : List (EV U)) : Prop := ∃ n h a t l s g w m ea ep ec tp : Int, ∃ k : Nat, ∃ V d : List Int, env = [.i n, .i h, .i a, .i t, .i l, .i s, .i g, .i w, .i m, .i ea, .i ep, .i ec, .i tp, .i k, .l (V ++ d), .i V.length, .i ((V.length + d.length : Nat) : Int)] ∧ okT n h a s = true ∧ k ≤ (s * (4 + a)).toNat ∧ V = runI n k
def lOw1 : LoopS U := { fn := 122, rid := 3, nv := 4, tm := [(4, .int .i64 (.var 13)), (3, .slice 1 (.var 15) (.var 16))], hp := [(1, .row .i64 3 14)], reb := [(1, 0)], inv := ow1Inv, mu := fun env => (gI env 5 * (4 + gI env 2) - gI env 13).toNat }
def ow2Inv (env : List (EV U)) : Prop := ∃ n h a t l s g w m ea ep ec tp : Int, ∃ x13 x14 x15 x16 : EV U, ∃ k : Nat, ∃ V d : List Int, env = [.i n, .i h, .i a, .i t, .i l, .i s, .i g, .i w, .i m, .i ea, .i ep, .i ec, .i tp, x13, x14, x15, x16, .i k, .l (V ++ d), .i V.length, .i ((V.length + d.length : Nat) : Int)] ∧ okT n h a s = true ∧ k ≤ a.toNat ∧ V = runI n (s * (4 + a)).toNat ++ runI h k
def lOw2 : LoopS U := { fn := 122, rid := 7, nv := 4, tm := [(5, .int .i64 (.var 17)), (3, .slice 1 (.var 19) (.var 20))], hp := [(1, .row .i64 3 18)], reb := [(1, 0)], inv := ow2Inv, mu := fun env => (gI env 2 - gI env 17).toNat }
def cxVe (P : Program) : Cx U := { cx P [] with join := true, loops := [lOw1, lOw2] }
def cxVf0 (P : Program) : Cx U := { cx P [cDF10, cDF12, cDSnd, cCe11, cCe13, cOwn15, cApD] with join := true }
def cxVf1 (P : Program) : Cx U := { cx P ([cDF10, cDF12, cDSnd, cCe11, cCe13, cOwn15, cApD] ++ [cDF11]) with join := true }
def ctsVf : List (Ctr U) := [cDF10, cDF12, cDSnd, cCe11, cCe13, cOwn15, cApD, cDF11, cDF13]
def cxVf (P : Program) : Cx U := { cx P ctsVf with join := true }
end Go.Proofs.YtdldcofddfkkbaaGreat
