/- Stacks: what cores do together: the laws' contracts, their loops. -/
import Derived.Test.YtdabdbbgaekmdaaZbV
import Derived.Test.YtdabdbbgaekmdaaKyV0
import Derived.Test.YtdabdbbgaekmdaaKyV1
import Derived.Test.YtdabdbbgaekmdaaKyV2
import Derived.Test.YtdabdbbgaekmdaaKyX
namespace Go.Proofs.Ytdabdbbgaekmdaa
set_option linter.unusedVariables false
set_option linter.unusedSimpArgs false
set_option linter.unusedSectionVars false
open Go

theorem hctsSy : ∀ (ci : Nat) (c : Ctr U), ctsSy[ci]? = some c → c.Holds objs Try.prog := ctsApp hctsST (by
  intro ci c h
  match ci, h with
  | 0, h => cases h; exact hSameIntsX
  | n + 1, h => cases h)
theorem hSt0 : cSt0.Holds objs Try.prog := runCtr_holdsm (X := { cxSy Try.prog with hints := hsSt0 }) (fuel := 20) (opens := []) (folds := []) objsOk mixed hctsSy (callable _ Try.func35 (by kernel_rfl) (by kernel_rfl)) (by rintro ins outs _ _ ⟨_, _, _, _, _, _, _, _, _, _, _, _, _, _, _, _, _, _, _, _, _, _, _, _, rfl⟩; rfl) (by rw [rSt0]; exact vSt0 _ _)
theorem hSt1 : cSt1.Holds objs Try.prog := runCtr_holdsm (X := { cxSy Try.prog with hints := hsSt1 }) (fuel := 20) (opens := []) (folds := []) objsOk mixed hctsSy (callable _ Try.func35 (by kernel_rfl) (by kernel_rfl)) (by rintro ins outs _ _ ⟨_, _, _, _, _, _, _, _, _, _, _, _, _, _, _, _, _, _, _, _, _, _, _, _, rfl⟩; rfl) (by rw [rSt1]; exact vSt1 _ _)
theorem hSt2 : cSt2.Holds objs Try.prog := runCtr_holdsm (X := { cxSy Try.prog with hints := hsSt2 }) (fuel := 20) (opens := []) (folds := []) objsOk mixed hctsSy (callable _ Try.func35 (by kernel_rfl) (by kernel_rfl)) (by rintro ins outs _ _ ⟨_, _, _, _, _, _, _, _, _, _, _, _, _, _, _, _, _, _, _, _, _, _, _, _, rfl⟩; rfl) (by rw [rSt2]; exact vSt2 _ _)
def ctsZ : List (Ctr U) := ctsSy ++ [cSKnown, cSt0, cSt1, cSt2, cAllS]
def cSAlone : Ctr U :=
  { fn := 6, nin := 4, args := [.int .i64 (.var 0), .slice 0 (.var 2) (.var 3)], heap := [.ro [some .i64] 1]
    pre := fun ins => ∃ n g, ∃ k : Nat, ∃ c, ins = [.i n, .f g k, .i k, .i c], nout := 1, out := fun _ => [.b true], ret := .bool (.var 4), post := [.ro [some .i64] 1] }
def cSKeeps : Ctr U :=
  { fn := 5, nin := 4, args := [.int .i64 (.var 0), .slice 0 (.var 2) (.var 3)], heap := [.ro [some .i64] 1]
    pre := fun ins => ∃ n g, ∃ k : Nat, ∃ c, ins = [.i n, .f g k, .i k, .i c], nout := 1, out := fun _ => [.b true], ret := .bool (.var 4), post := [.ro [some .i64] 1] }
def cxZ0 (P : Program) : Cx U := { cx P ctsZ with join := true, split := [(1000003, 3)] }
def keIns (o0 o1 o2 : CoreP) (H0 c0 H1 c1 H2 c2 : List Int) (y0 y1 y2 : Int) (sz : Int) (gl : Nat → Nat → Int) (kl : Nat) (cl p : Int) (x6 x7 x8 : EV U) (M : MemSt) (i : Int) : List (EV U) :=
  [.i sz, .f gl kl, .i kl, .i cl, .b true, .i p, x6, x7, x8, .u (.mem M), .u (cpA o0), .u (cpB o0), .u (cpC o0), .l (H0 ++ c0), .i H0.length, .i ((H0.length + c0.length : Nat) : Int), .i y0, .u (cpA o1), .u (cpB o1), .u (cpC o1), .l (H1 ++ c1), .i H1.length, .i ((H1.length + c1.length : Nat) : Int), .i y1, .u (cpA o2), .u (cpB o2), .u (cpC o2), .l (H2 ++ c2), .i H2.length, .i ((H2.length + c2.length : Nat) : Int), .i y2, .i i]
def keInv (env : List (EV U)) : Prop := ∃ o0 o1 o2, ∃ H0 c0 H1 c1 H2 c2 : List Int, ∃ y0 y1 y2 sz gl, ∃ kl : Nat, ∃ cl p x6 x7 x8 M i,
  env = keIns o0 o1 o2 H0 c0 H1 c1 H2 c2 y0 y1 y2 sz gl kl cl p x6 x7 x8 M i ∧ 0 ≤ i ∧ i ≤ kl ∧ kl ≤ 300 ∧ 0 ≤ p ∧ p < 12 ∧ SInv M 2 4 (1 + p) i ⟨o0, H0, y0⟩ ⟨o1, H1, y1⟩ ⟨o2, H2, y2⟩
def lKe : LoopS U :=
  { fn := 5, rid := 11, nv := 23, tm := [(10, .int .i64 (.var 31))]
    hp := [(2, .abs 9), (3, .cells [.hnd 4, .hnd 5, .hnd 6, .slice 7 (.var 14) (.var 15), .int .i64 (.var 16), .hnd 8, .hnd 9, .hnd 10, .slice 11 (.var 21) (.var 22), .int .i64 (.var 23), .hnd 12, .hnd 13, .hnd 14, .slice 15 (.var 28) (.var 29), .int .i64 (.var 30)] 69), (4, .abs 10), (5, .abs 11), (6, .abs 12), (7, .row .i64 3 13), (8, .abs 17), (9, .abs 18), (10, .abs 19), (11, .row .i64 3 20), (12, .abs 24), (13, .abs 25), (14, .abs 26), (15, .row .i64 3 27)]
    reb := [(4, 10), (5, 17), (6, 24), (7, 0), (8, 10), (9, 17), (10, 24), (11, 0), (12, 10), (13, 17), (14, 24), (15, 0)], inv := keInv, mu := fun env => (gI env 2 - gI env 31).toNat }
def cxKe (P : Program) : Cx U := { cxZ0 P with loops := [lKe] }
end Go.Proofs.Ytdabdbbgaekmdaa
