/- All contracts of memories and of lists of words; the chapter's laws are run over them. -/
import Derived.Test.YtbkaclkbjpdfnaaCdV
import Derived.Test.YtbkaclkbjpdfnaaSs
namespace Go.Proofs.Ytbkaclkbjpdfnaa
set_option linter.unusedVariables false
set_option linter.unusedSimpArgs false
set_option linter.unusedSectionVars false
open Go

def ctsC : List (Ctr U) := [cLoad, cStore, cCAS, cNew, cLast, cCount, cAdd, cSize, cCopy, cWords, cSameWords, cOverWords, cPick]
theorem cts_all {p : Nat → Ctr U → Prop} (h0 : p 0 cLoad) (h1 : p 1 cStore) (h2 : p 2 cCAS) (h3 : p 3 cNew) (h4 : p 4 cLast) (h5 : p 5 cCount) (h6 : p 6 cAdd) (h7 : p 7 cSize) (h8 : p 8 cCopy) (h9 : p 9 cWords) (h10 : p 10 cSameWords) (h11 : p 11 cOverWords) (h12 : p 12 cPick) :
    ∀ (ci : Nat) (c : Ctr U), ctsC[ci]? = some c → p ci c := by
  intro ci c h
  match ci, h with
  | 0, h => cases h; exact h0
  | 1, h => cases h; exact h1
  | 2, h => cases h; exact h2
  | 3, h => cases h; exact h3
  | 4, h => cases h; exact h4
  | 5, h => cases h; exact h5
  | 6, h => cases h; exact h6
  | 7, h => cases h; exact h7
  | 8, h => cases h; exact h8
  | 9, h => cases h; exact h9
  | 10, h => cases h; exact h10
  | 11, h => cases h; exact h11
  | 12, h => cases h; exact h12
  | ci + 13, h => cases h
theorem hctsC : ∀ (ci : Nat) (c : Ctr U), ctsC[ci]? = some c → c.Holds objs Try.prog :=
  cts_all hLoad hStore hCAS hNew hLast hCount hAdd hSize hCopy hWords hSameWords hOverWords hPick
/-- is what a contract asks so? (enough for it) -/
def preC (ci : Nat) (ins : List (EV U)) : Bool :=
  match ci, ins with
  | 0, [.u (.mem _), .i _] => true
  | 1, [.u (.mem _), .i _, .i _] => true
  | 2, [.u (.mem _), .i _, .i _, .i _] => true
  | 3, [.i _] => true
  | 4, [.u (.mem _)] => true
  | 5, [.u (.mem _)] => true
  | 6, [.u (.mem _), .i _, .i _] => true
  | 7, [.u (.mem _)] => true
  | 8, [.u (.mem _)] => true
  | 9, [.u (.mem _)] => true
  | 10, [.l xs, .l ys, .i a, .i _, .i b, .i _] => decide (a = xs.length) && decide (b = ys.length) && decide (xs.length < 2 ^ 62)
  | _, _ => false
theorem preC_spec : ∀ (ci : Nat) (c : Ctr U) (ins : List (EV U)), ctsC[ci]? = some c → preC ci ins = true → c.pre ins := by
  intro ci c ins h hp
  revert hp
  revert ci c
  refine cts_all ?_ ?_ ?_ ?_ ?_ ?_ ?_ ?_ ?_ ?_ ?_ ?_ ?_
  all_goals
    intro hp
    unfold preC at hp
    split at hp <;> first | (cases hp; done) | (rename_i h; cases h; done) | skip
  all_goals first
    | exact ⟨_, rfl⟩
    | exact ⟨_, _, rfl⟩
    | exact ⟨_, _, _, rfl⟩
    | exact ⟨_, _, _, _, rfl⟩
    | (simp only [Bool.and_eq_true, decide_eq_true_eq] at hp; obtain ⟨⟨rfl, rfl⟩, h⟩ := hp; exact ⟨_, _, _, _, rfl, h⟩)
/-- a law's function: it tells true -/
def cKnown : Ctr U :=
  { fn := 4, nin := 0, args := [], heap := [], pre := fun ins => ins = [], nout := 1, out := fun _ => [.b true], ret := .bool (.var 0), post := [] }
def cAwake : Ctr U :=
  { fn := 27, nin := 0, args := [], heap := [], pre := fun ins => ins = [], nout := 1, out := fun _ => [.b true], ret := .bool (.var 0), post := [] }
end Go.Proofs.Ytbkaclkbjpdfnaa
