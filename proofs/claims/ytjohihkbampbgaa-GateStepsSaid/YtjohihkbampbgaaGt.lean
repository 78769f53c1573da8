/- The chapter's law beside the document: contracts. -/
import Derived.Test.YtjohihkbampbgaaGrV
import Derived.Test.YtjohihkbampbgaaRpV
import Derived.Test.YtjohihkbampbgaaSy
namespace Go.Proofs.Ytjohihkbampbgaa
set_option linter.unusedVariables false
set_option linter.unusedSimpArgs false
set_option linter.unusedSectionVars false
open Go

def ctsS : List (Ctr U) := ctsL ++ [cQLoad, cQStore, cQCAS, cQNew, cQLast, cQCount, cQStepP, cQErrP, cQNewP, cQLastG, cQFill, cFitsG, cQFits, cQWords]
theorem hctsS : ∀ (ci : Nat) (c : Ctr U), ctsS[ci]? = some c → c.Holds objs Try.prog := by
  intro ci c h
  by_cases hlt : ci < 20
  · exact hctsL ci c (by rw [← h, ctsS, List.getElem?_append_left (by exact hlt)])
  · rw [ctsS, List.getElem?_append_right (by show 20 ≤ ci; omega)] at h
    match e : ci - ctsL.length, h with
    | 0, h => cases h; exact hQLoad
    | 1, h => cases h; exact hQStore
    | 2, h => cases h; exact hQCAS
    | 3, h => cases h; exact hQNew
    | 4, h => cases h; exact hQLast
    | 5, h => cases h; exact hQCount
    | 6, h => cases h; exact hQStepP
    | 7, h => cases h; exact hQErrP
    | 8, h => cases h; exact hQNewP
    | 9, h => cases h; exact hQLastG
    | 10, h => cases h; exact hQFill
    | 11, h => cases h; exact hFitsG
    | 12, h => cases h; exact hQFits
    | 13, h => cases h; exact hQWords
    | n + 14, h => cases h
def actKs : List (Option IntKind) := [some .i64, some .i64, some .i64, some .i64, some .i64]
def cSteps : Ctr U :=
  { fn := 8, nin := 10, args := [.agg [.int .i64 (.var 0), .int .i64 (.var 1)], .int .i64 (.var 2), .slice 0 (.var 4) (.var 5), .slice 1 (.var 7) (.var 8), .int .i64 (.var 9)], heap := [.ro [some .u64] 3, .ro actKs 6]
    pre := fun ins => ∃ f n s gi ki ci gl kl cl t, ins = [.i f, .i n, .i s, .f gi ki, .i ki, .i ci, .f gl kl, .i kl, .i cl, .i t], nout := 1, out := fun _ => [.b true], ret := .bool (.var 10), post := [.ro [some .u64] 3, .ro actKs 6] }
def cplA : Option PassSt → U | none => .passNil | some P => .pass P
def cplB : Option PassSt → U | none => .rpassNil | some P => .rpass P
def cplOk (o : Option PassSt) : Prop := ∀ P, o = some P → P.ok
def st1Inv (env : List (EV U)) : Prop := ∃ f n s gi, ∃ ki : Nat, ∃ ci gl, ∃ kl : Nat, ∃ cl t x0 x1 x2 x3 x4 x5 x6 M i, env = [.i f, .i n, .i s, .f gi ki, .i ki, .i ci, .f gl kl, .i kl, .i cl, .i t, x0, x1, x2, x3, x4, x5, x6, .u (.mem M), .u (.rmem M), .i i] ∧ 0 ≤ i ∧ i ≤ ki ∧ ki ≤ 60 ∧ kl ≤ 120 ∧ 1 ≤ M.W.length ∧ M.W.length ≤ 4096
def st2InvA (env : List (EV U)) : Prop := ∃ f n s gi, ∃ ki : Nat, ∃ ci gl, ∃ kl : Nat, ∃ cl t x0 x1 x2 x3 x4 x5 x6 x7 x8 x9 M o0 o1 o2 o3 i, env = [.i f, .i n, .i s, .f gi ki, .i ki, .i ci, .f gl kl, .i kl, .i cl, .i t, x0, x1, x2, x3, x4, x5, x6, x7, x8, x9, .u (.mem M), .u (.rmem M), .u (cplA o0), .u (cplB o0), .u (cplA o1), .u (cplB o1), .u (cplA o2), .u (cplB o2), .u (cplA o3), .u (cplB o3), .i i] ∧ 0 ≤ i ∧ i ≤ kl ∧ kl ≤ 120 ∧ 1 ≤ M.W.length ∧ M.W.length ≤ 4096 ∧ cplOk o0 ∧ cplOk o1 ∧ cplOk o2 ∧ cplOk o3
def st2InvB (env : List (EV U)) : Prop := ∃ f n s gi, ∃ ki : Nat, ∃ ci gl, ∃ kl : Nat, ∃ cl t x0 x1 x2 x3 x4 x5 x6 x7 x8 x9 x10 x11 M o0 o1 o2 o3 i, env = [.i f, .i n, .i s, .f gi ki, .i ki, .i ci, .f gl kl, .i kl, .i cl, .i t, x0, x1, x2, x3, x4, x5, x6, x7, x8, x9, x10, x11, .u (.mem M), .u (.rmem M), .u (cplA o0), .u (cplB o0), .u (cplA o1), .u (cplB o1), .u (cplA o2), .u (cplB o2), .u (cplA o3), .u (cplB o3), .i i] ∧ 0 ≤ i ∧ i ≤ kl ∧ kl ≤ 120 ∧ 1 ≤ M.W.length ∧ M.W.length ≤ 4096 ∧ cplOk o0 ∧ cplOk o1 ∧ cplOk o2 ∧ cplOk o3
def lSt1 : LoopS U :=
  { fn := 8, rid := 10, nv := 3, tm := [(15, .int .i64 (.var 19))], hp := [(3, .abs 17), (4, .abs 18)], reb := [], inv := st1Inv, mu := fun env => (gI env 4 - gI env 19).toNat }
def lSt2 (b : Nat) (inv : List (EV U) → Prop) : LoopS U :=
  { fn := 8, rid := 19, at_ := b, nv := 11, tm := [(17, .int .i64 (.var (b + 10)))]
    hp := [(3, .abs b), (4, .abs (b + 1)), (5, .cells [.hnd 6, .hnd 7, .hnd 8, .hnd 9, .hnd 10, .hnd 11, .hnd 12, .hnd 13] 76), (6, .abs (b + 2)), (7, .abs (b + 3)), (8, .abs (b + 4)), (9, .abs (b + 5)), (10, .abs (b + 6)), (11, .abs (b + 7)), (12, .abs (b + 8)), (13, .abs (b + 9))]
    reb := [(6, 8), (7, 10), (8, 8), (9, 10), (10, 8), (11, 10), (12, 8), (13, 10)], inv := inv, mu := fun env => (gI env 7 - gI env (b + 10)).toNat }
def cxS (P : Program) : Cx U := { cx P ctsS with loops := [lSt1, lSt2 20 st2InvA, lSt2 22 st2InvB] }
end Go.Proofs.Ytjohihkbampbgaa
