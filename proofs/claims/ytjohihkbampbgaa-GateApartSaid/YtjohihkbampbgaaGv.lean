/- Passes apart: contracts, the loop. -/
import Derived.Test.YtjohihkbampbgaaGxV
namespace Go.Proofs.Ytjohihkbampbgaa
set_option linter.unusedVariables false
set_option linter.unusedSimpArgs false
set_option linter.unusedSectionVars false
open Go

def ctsV : List (Ctr U) := ctsE ++ [cEnds0, cEnds1, cEnds2]
theorem hctsV : ∀ (ci : Nat) (c : Ctr U), ctsV[ci]? = some c → c.Holds objs Try.prog := by
  intro ci c h
  by_cases hlt : ci < 19
  · exact hctsE ci c (by rw [← h, ctsV, List.getElem?_append_left (by exact hlt)])
  · rw [ctsV, List.getElem?_append_right (by show 19 ≤ ci; omega)] at h
    match e : ci - ctsE.length, h with
    | 0, h => cases h; exact hEnds0
    | 1, h => cases h; exact hEnds1
    | 2, h => cases h; exact hEnds2
    | n + 3, h => cases h
def cApart : Ctr U :=
  { fn := 6, nin := 6, args := [.slice 0 (.var 1) (.var 2), .slice 1 (.var 4) (.var 5)], heap := [.ro wantKs 0, .ro [some .i64] 3]
    pre := fun ins => ∃ g, ∃ k : Nat, ∃ c gl, ∃ kl : Nat, ∃ cl, ins = [.f g k, .i k, .i c, .f gl kl, .i kl, .i cl], nout := 1, out := fun _ => [.b true], ret := .bool (.var 6), post := [.ro wantKs 0, .ro [some .i64] 3] }
def apInv (env : List (EV U)) : Prop := ∃ g, ∃ k : Nat, ∃ c gl, ∃ kl : Nat, ∃ cl x7 x8 x9 M b0 b1 o0 t0 a0 n0 m0 q0 o1 t1 a1 n1 m1 q1 o2 t2 a2 n2 m2 q2 i, env = [.f g k, .i k, .i c, .f gl kl, .i kl, .i cl, .b true, x7, x8, x9, .u (.mem M), .u (opA o0), .i t0, .i a0, .i n0, .i m0, .i q0, .u (opA o1), .i t1, .i a1, .i n1, .i m1, .i q1, .u (opA o2), .i t2, .i a2, .i n2, .i m2, .i q2, .i i] ∧
  0 ≤ i ∧ i ≤ kl + 12 ∧ kl ≤ 300 ∧ 1 ≤ k ∧ k ≤ 60 ∧ wordsA M.W b0 b1 ∧ apOk M.W i kl 0 o0 t0 a0 n0 m0 q0 ∧ apOk M.W i kl 1 o1 t1 a1 n1 m1 q1 ∧ apOk M.W i kl 2 o2 t2 a2 n2 m2 q2
def lApart : LoopS U :=
  { fn := 6, rid := 11, nv := 20, tm := [(10, .int .i64 (.var 29))]
    hp := [(2, .abs 10), (4, .cells [.hnd 5, .int .i64 (.var 12), .int .i64 (.var 13), .int .i64 (.var 14), .int .i64 (.var 15), .int .i64 (.var 16), .hnd 6, .int .i64 (.var 18), .int .i64 (.var 19), .int .i64 (.var 20), .int .i64 (.var 21), .int .i64 (.var 22), .hnd 7, .int .i64 (.var 24), .int .i64 (.var 25), .int .i64 (.var 26), .int .i64 (.var 27), .int .i64 (.var 28)] 58), (5, .abs 11), (6, .abs 17), (7, .abs 23)]
    reb := [(5, 8), (6, 8), (7, 8)], inv := apInv, mu := fun env => (gI env 4 + 12 - gI env 29).toNat }
def cxV (P : Program) : Cx U := { cx P ctsV with loops := [lApart] }
end Go.Proofs.Ytjohihkbampbgaa
