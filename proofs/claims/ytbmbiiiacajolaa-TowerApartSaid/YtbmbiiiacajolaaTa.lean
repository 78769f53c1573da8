/- Towers: the chapter's examples: contracts of memories. -/
import Derived.Test.YtbmbiiiacajolaaCwV
import Derived.Test.YtbmbiiiacajolaaSw
namespace Go.Proofs.Ytbmbiiiacajolaa
set_option linter.unusedVariables false
set_option linter.unusedSimpArgs false
set_option linter.unusedSectionVars false
open Go

def ctsM : List (Ctr U) := [cLoad, cStore, cCAS, cNew, cLast, cCount, cWords, cSameWords, cPick]
theorem ctsM_all {p : Nat → Ctr U → Prop} (h0 : p 0 cLoad) (h1 : p 1 cStore) (h2 : p 2 cCAS) (h3 : p 3 cNew) (h4 : p 4 cLast) (h5 : p 5 cCount) (h6 : p 6 cWords) (h7 : p 7 cSameWords) (h8 : p 8 cPick) : ∀ (ci : Nat) (c : Ctr U), ctsM[ci]? = some c → p ci c := by
  intro ci c h
  match ci, h with
  | 0, h => cases h; exact h0
  | 1, h => cases h; exact h1
  | 2, h => cases h; exact h2
  | 3, h => cases h; exact h3
  | 4, h => cases h; exact h4
  | 5, h => cases h; exact h5
  | 6, h => cases h; exact h6
  | 7, h => cases h; exact h7
  | 8, h => cases h; exact h8
  | n + 9, h => cases h
/-- is what a contract asks so? (enough for it) -/
def preM (ci : Nat) (ins : List (EV U)) : Bool :=
  match ci, ins with
  | 0, [.u (.mem _), .i _] => true
  | 1, [.u (.mem _), .i _, .i _] => true
  | 2, [.u (.mem _), .i _, .i _, .i _] => true
  | 3, [.i _] => true
  | 4, [.u (.mem _)] => true
  | 5, [.u (.mem _)] => true
  | 6, [.u (.mem _)] => true
  | 7, [.l xs, .l ys, .i a, .i _, .i b, .i _] => decide (0 ≤ a) && (decide (a ≤ xs.length) && (decide (0 ≤ b) && (decide (b ≤ ys.length) && decide (a < 4611686018427387904))))
  | 8, [.i _, .i n] => decide (0 < n) && decide (n < 4611686018427387904)
  | _, _ => false
theorem preM_spec : ∀ (ci : Nat) (c : Ctr U) (ins : List (EV U)), ctsM[ci]? = some c → preM ci ins = true → c.pre ins := by
  intro ci c ins h hp
  revert hp
  revert ci c
  refine ctsM_all ?_ ?_ ?_ ?_ ?_ ?_ ?_ ?_ ?_
  all_goals
    intro hp
    unfold preM at hp
    split at hp <;> first | (cases hp; done) | (rename_i h; cases h; done) | skip
  all_goals first
    | exact ⟨_, rfl⟩
    | exact ⟨_, _, rfl⟩
    | exact ⟨_, _, _, rfl⟩
    | exact ⟨_, _, _, _, rfl⟩
    | (simp only [Bool.and_eq_true, decide_eq_true_eq] at hp; obtain ⟨h1, h2, h3, h4, h5⟩ := hp; exact ⟨_, _, _, _, _, _, rfl, h1, h2, h3, h4, h5⟩)
    | (simp only [Bool.and_eq_true, decide_eq_true_eq] at hp; exact ⟨_, _, rfl, hp.1, hp.2⟩)
theorem hctsM : ∀ (ci : Nat) (c : Ctr U), ctsM[ci]? = some c → c.Holds objs Try.prog := ctsM_all hLoad hStore hCAS hNew hLast hCount hWords hSameWords hPick
def okN (m : Nat) (ps : List (EV U)) : Bool := false
theorem okN_spec : ∀ (m : Nat) (T : ObjT U) (ps : List (EV U)), objs[m]? = some T → okN m ps = true → T.ok ps := by
  intro m T ps _ h; cases h
def cTAwake : Ctr U :=
  { fn := 18, nin := 0, args := [], heap := [], pre := fun ins => ins = [], nout := 1, out := fun _ => [.b true], ret := .bool (.var 0), post := [] }
def cTKnown : Ctr U :=
  { fn := 8, nin := 0, args := [], heap := [], pre := fun ins => ins = [], nout := 1, out := fun _ => [.b true], ret := .bool (.var 0), post := [] }
def cFAwake : Ctr U :=
  { fn := 40, nin := 0, args := [], heap := [], pre := fun ins => ins = [], nout := 1, out := fun _ => [.b true], ret := .bool (.var 0), post := [] }
def cFKnown : Ctr U :=
  { fn := 6, nin := 0, args := [], heap := [], pre := fun ins => ins = [], nout := 1, out := fun _ => [.b true], ret := .bool (.var 0), post := [] }
def cxT (P : Program) : Cx U := cx P ctsM
end Go.Proofs.Ytbmbiiiacajolaa
