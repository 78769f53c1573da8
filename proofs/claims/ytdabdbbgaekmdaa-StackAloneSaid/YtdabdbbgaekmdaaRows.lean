/-
  No cell of these rows narrows 'for every input' (looked for: loops, veiled, ifaces, maps, wideKeys, modest, calm, conditions, laid).
  DERIVED. THE GIVEN ROWS OF THIS SEAT. 9 by the template 'for every input the law returns true; each argument reads behind the call as it read before'; 0 by the template 'total and deterministic' (their statements: YtdabdbbgaekmdaaTotals.lean).
  GIVEN WITH THE SEED: the statements are not yours to turn. If you find one false, say at which input.
  Laid BY PROGRAM, IN A SANDBOX (cutbox-rows.mjs): the forced cells as the released guide's own fill.sh prints them over the translation 6289f67a884b77cc… (all of the seat's roots in one cut). By AI agents, Wed Nov 11 2026. No macro, syntax, notation, axiom, sorry.
-/
import Derived.Test.YtdabdbbgaekmdaaChecked
import GoSem.Claim
import GoSem.ClaimJoined
import GoSem.ClaimMapViews
import Derived.JoinedTies
import Derived.KernelRfl
namespace Go.Proofs.Ytdabdbbgaekmdaa
/- THE CELL 'sum', in the pinned program and in every row, IS THE sha256 OF THE DUMP (.gsa) THAT YtdabdbbgaekmdaaProg.lean LOADS. Nothing in Lean hashes anything: it is a label: what it is worth is what the hold of that sum in a sandbox is worth. -/
noncomputable def Try.pinned : Pinned := { name := "ytdabdbbgaekmdaa", sum := "6289f67a884b77ccbdfbb550d326f73145f3000bc4cedec6faa3297f514b9afd", checked := Try.checked }
namespace Rows
def none {H : Type} : Left H := { results := [], args := [] }

/-- 'coxswainlaw10.StackNone': WHATEVER THE INPUT: true; the input reads as it did. -/
def stackNoneSpec : ChangeSpec := { name := "stackNone", fn := fun _ => fun
  | [d1, d2] => { results := [.lit (.bool true)], args := [d1, d2] }
  | _ => none }
def stackNoneRow : OpenClaim := { program := "ytdabdbbgaekmdaa", sum := "6289f67a884b77ccbdfbb550d326f73145f3000bc4cedec6faa3297f514b9afd", func := "coxswain/coxswainlaw10.StackNone", spec := "stackNone", unfollowed := true, recurses := true, apart := false }
def StackNoneSaid : Prop := stackNoneRow.holds Try.pinned (OpenSpec.ofChange stackNoneSpec)

/-- ITS FALSE NEIGHBOUR: 'it returns false'. Refute it at one input. -/
def stackNoneWrong : ChangeSpec := { name := "stackNone", fn := fun _ => fun
  | [d1, d2] => { results := [.lit (.bool false)], args := [d1, d2] }
  | _ => none }
def StackNoneWrongFalsely : Prop := stackNoneRow.holds Try.pinned (OpenSpec.ofChange stackNoneWrong)

/-- 'coxswainlaw10.StackKnown': WHATEVER THE INPUT: true; the input reads as it did. -/
def stackKnownSpec : ChangeSpec := { name := "stackKnown", fn := fun _ => fun
  | [] => { results := [.lit (.bool true)], args := [] }
  | _ => none }
def stackKnownRow : OpenClaim := { program := "ytdabdbbgaekmdaa", sum := "6289f67a884b77ccbdfbb550d326f73145f3000bc4cedec6faa3297f514b9afd", func := "coxswain/coxswainlaw10.StackKnown", spec := "stackKnown", unfollowed := true, recurses := true, apart := false }
def StackKnownSaid : Prop := stackKnownRow.holds Try.pinned (OpenSpec.ofChange stackKnownSpec)

/-- ITS FALSE NEIGHBOUR: 'it returns false'. Refute it at one input. -/
def stackKnownWrong : ChangeSpec := { name := "stackKnown", fn := fun _ => fun
  | [] => { results := [.lit (.bool false)], args := [] }
  | _ => none }
def StackKnownWrongFalsely : Prop := stackKnownRow.holds Try.pinned (OpenSpec.ofChange stackKnownWrong)

/-- 'coxswainlaw10.StackKeeps': WHATEVER THE INPUT: true; the input reads as it did. -/
def stackKeepsSpec : ChangeSpec := { name := "stackKeeps", fn := fun _ => fun
  | [d1, d2] => { results := [.lit (.bool true)], args := [d1, d2] }
  | _ => none }
def stackKeepsRow : OpenClaim := { program := "ytdabdbbgaekmdaa", sum := "6289f67a884b77ccbdfbb550d326f73145f3000bc4cedec6faa3297f514b9afd", func := "coxswain/coxswainlaw10.StackKeeps", spec := "stackKeeps", unfollowed := true, recurses := true, apart := false }
def StackKeepsSaid : Prop := stackKeepsRow.holds Try.pinned (OpenSpec.ofChange stackKeepsSpec)

/-- ITS FALSE NEIGHBOUR: 'it returns false'. Refute it at one input. -/
def stackKeepsWrong : ChangeSpec := { name := "stackKeeps", fn := fun _ => fun
  | [d1, d2] => { results := [.lit (.bool false)], args := [d1, d2] }
  | _ => none }
def StackKeepsWrongFalsely : Prop := stackKeepsRow.holds Try.pinned (OpenSpec.ofChange stackKeepsWrong)

/-- 'coxswainlaw10.StackAlone': WHATEVER THE INPUT: true; the input reads as it did. -/
def stackAloneSpec : ChangeSpec := { name := "stackAlone", fn := fun _ => fun
  | [d1, d2] => { results := [.lit (.bool true)], args := [d1, d2] }
  | _ => none }
def stackAloneRow : OpenClaim := { program := "ytdabdbbgaekmdaa", sum := "6289f67a884b77ccbdfbb550d326f73145f3000bc4cedec6faa3297f514b9afd", func := "coxswain/coxswainlaw10.StackAlone", spec := "stackAlone", unfollowed := true, recurses := true, apart := false }
def StackAloneSaid : Prop := stackAloneRow.holds Try.pinned (OpenSpec.ofChange stackAloneSpec)

/-- ITS FALSE NEIGHBOUR: 'it returns false'. Refute it at one input. -/
def stackAloneWrong : ChangeSpec := { name := "stackAlone", fn := fun _ => fun
  | [d1, d2] => { results := [.lit (.bool false)], args := [d1, d2] }
  | _ => none }
def StackAloneWrongFalsely : Prop := stackAloneRow.holds Try.pinned (OpenSpec.ofChange stackAloneWrong)

/-- 'coxswainlaw10.StackSteps': WHATEVER THE INPUT: true; the input reads as it did. -/
def stackStepsSpec : ChangeSpec := { name := "stackSteps", fn := fun _ => fun
  | [d1, d2, d3, d4] => { results := [.lit (.bool true)], args := [d1, d2, d3, d4] }
  | _ => none }
def stackStepsRow : OpenClaim := { program := "ytdabdbbgaekmdaa", sum := "6289f67a884b77ccbdfbb550d326f73145f3000bc4cedec6faa3297f514b9afd", func := "coxswain/coxswainlaw10.StackSteps", spec := "stackSteps", unfollowed := true, recurses := true, apart := false }
def StackStepsSaid : Prop := stackStepsRow.holds Try.pinned (OpenSpec.ofChange stackStepsSpec)

/-- ITS FALSE NEIGHBOUR: 'it returns false'. Refute it at one input. -/
def stackStepsWrong : ChangeSpec := { name := "stackSteps", fn := fun _ => fun
  | [d1, d2, d3, d4] => { results := [.lit (.bool false)], args := [d1, d2, d3, d4] }
  | _ => none }
def StackStepsWrongFalsely : Prop := stackStepsRow.holds Try.pinned (OpenSpec.ofChange stackStepsWrong)

/-- 'coxswainlaw24.JobWords': WHATEVER THE INPUT: true; the input reads as it did. -/
def jobWordsSpec : ChangeSpec := { name := "jobWords", fn := fun _ => fun
  | [d1, d2] => { results := [.lit (.bool true)], args := [d1, d2] }
  | _ => none }
def jobWordsRow : OpenClaim := { program := "ytdabdbbgaekmdaa", sum := "6289f67a884b77ccbdfbb550d326f73145f3000bc4cedec6faa3297f514b9afd", func := "coxswain/coxswainlaw24.JobWords", spec := "jobWords", unfollowed := true, recurses := true, apart := false }
def JobWordsSaid : Prop := jobWordsRow.holds Try.pinned (OpenSpec.ofChange jobWordsSpec)

/-- ITS FALSE NEIGHBOUR: 'it returns false'. Refute it at one input. -/
def jobWordsWrong : ChangeSpec := { name := "jobWords", fn := fun _ => fun
  | [d1, d2] => { results := [.lit (.bool false)], args := [d1, d2] }
  | _ => none }
def JobWordsWrongFalsely : Prop := jobWordsRow.holds Try.pinned (OpenSpec.ofChange jobWordsWrong)

/-- 'coxswainlaw24.JobNone': WHATEVER THE INPUT: true; the input reads as it did. -/
def jobNoneSpec : ChangeSpec := { name := "jobNone", fn := fun _ => fun
  | [d1, d2, d3, d4] => { results := [.lit (.bool true)], args := [d1, d2, d3, d4] }
  | _ => none }
def jobNoneRow : OpenClaim := { program := "ytdabdbbgaekmdaa", sum := "6289f67a884b77ccbdfbb550d326f73145f3000bc4cedec6faa3297f514b9afd", func := "coxswain/coxswainlaw24.JobNone", spec := "jobNone", unfollowed := true, recurses := true, apart := false }
def JobNoneSaid : Prop := jobNoneRow.holds Try.pinned (OpenSpec.ofChange jobNoneSpec)

/-- ITS FALSE NEIGHBOUR: 'it returns false'. Refute it at one input. -/
def jobNoneWrong : ChangeSpec := { name := "jobNone", fn := fun _ => fun
  | [d1, d2, d3, d4] => { results := [.lit (.bool false)], args := [d1, d2, d3, d4] }
  | _ => none }
def JobNoneWrongFalsely : Prop := jobNoneRow.holds Try.pinned (OpenSpec.ofChange jobNoneWrong)

/-- 'coxswainlaw24.JobKnown': WHATEVER THE INPUT: true; the input reads as it did. -/
def jobKnownSpec : ChangeSpec := { name := "jobKnown", fn := fun _ => fun
  | [] => { results := [.lit (.bool true)], args := [] }
  | _ => none }
def jobKnownRow : OpenClaim := { program := "ytdabdbbgaekmdaa", sum := "6289f67a884b77ccbdfbb550d326f73145f3000bc4cedec6faa3297f514b9afd", func := "coxswain/coxswainlaw24.JobKnown", spec := "jobKnown", unfollowed := true, recurses := true, apart := false }
def JobKnownSaid : Prop := jobKnownRow.holds Try.pinned (OpenSpec.ofChange jobKnownSpec)

/-- ITS FALSE NEIGHBOUR: 'it returns false'. Refute it at one input. -/
def jobKnownWrong : ChangeSpec := { name := "jobKnown", fn := fun _ => fun
  | [] => { results := [.lit (.bool false)], args := [] }
  | _ => none }
def JobKnownWrongFalsely : Prop := jobKnownRow.holds Try.pinned (OpenSpec.ofChange jobKnownWrong)

/-- 'coxswainlaw24.JobBack': WHATEVER THE INPUT: true; the input reads as it did. -/
def jobBackSpec : ChangeSpec := { name := "jobBack", fn := fun _ => fun
  | [d1, d2, d3] => { results := [.lit (.bool true)], args := [d1, d2, d3] }
  | _ => none }
def jobBackRow : OpenClaim := { program := "ytdabdbbgaekmdaa", sum := "6289f67a884b77ccbdfbb550d326f73145f3000bc4cedec6faa3297f514b9afd", func := "coxswain/coxswainlaw24.JobBack", spec := "jobBack", unfollowed := true, recurses := true, apart := false }
def JobBackSaid : Prop := jobBackRow.holds Try.pinned (OpenSpec.ofChange jobBackSpec)

/-- ITS FALSE NEIGHBOUR: 'it returns false'. Refute it at one input. -/
def jobBackWrong : ChangeSpec := { name := "jobBack", fn := fun _ => fun
  | [d1, d2, d3] => { results := [.lit (.bool false)], args := [d1, d2, d3] }
  | _ => none }
def JobBackWrongFalsely : Prop := jobBackRow.holds Try.pinned (OpenSpec.ofChange jobBackWrong)

/- THE SECOND FORM. 'bulk': how many values and letters a reading holds, each counted each time it is reached (what is shared counts as often as it is met; a slice's spare places count too). A statement '..UptoSaid' is the law's where the arguments, and the package variables that the reading takes, are together of bulk at most 1048576: NARROWER than '..Said'. Prove '..Said' where nothing that the law and all that it calls make is longer than what came in: it says more and counts as full. Else prove '..UptoSaid'. A law counts once. -/
mutual
def uptoBulk {H : Type} : DataW H → Nat
  | .lit (.string bytes) => bytes.length + 1
  | .lit _ => 1
  | .nil => 1
  | .ptr d => uptoBulk d + 1
  | .slice elems spare => uptoBulkAll elems + uptoBulkAll spare + 1
  | .agg parts => uptoBulkAll parts + 1
  | .iface _ d => uptoBulk d + 1
  | .map entries => uptoBulkEntries entries + 1
  | .held _ => 1
def uptoBulkAll {H : Type} : List (DataW H) → Nat
  | [] => 0
  | d :: r => uptoBulk d + uptoBulkAll r
def uptoBulkEntries {H : Type} : List (Lit × DataW H) → Nat
  | [] => 0
  | x :: r => uptoBulkEntry x + uptoBulkEntries r
def uptoBulkEntry {H : Type} : Lit × DataW H → Nat
  | (.string bytes, d) => bytes.length + uptoBulk d + 1
  | (_, d) => uptoBulk d + 1
 end
def uptoSmall : (H : Type) → List (DataW H) → Bool := fun _ ds => decide (uptoBulkAll ds ≤ 1048576)
def OpenSpec.upto (s : _root_.Go.ChangeSpec) : _root_.Go.OpenSpec := { _root_.Go.OpenSpec.ofChange s with cond := some uptoSmall }

/-- 'coxswainlaw10.StackNone', WHERE WHAT IT READS IS OF BULK AT MOST 1048576: true; the input reads as it did. -/
def stackNoneUptoRow : OpenClaim := { program := "ytdabdbbgaekmdaa", sum := "6289f67a884b77ccbdfbb550d326f73145f3000bc4cedec6faa3297f514b9afd", func := "coxswain/coxswainlaw10.StackNone", spec := "stackNone", unfollowed := true, recurses := true, apart := false, narrowed := true }
def StackNoneUptoSaid : Prop := stackNoneUptoRow.holds Try.pinned (OpenSpec.upto stackNoneSpec)

/-- 'coxswainlaw10.StackKnown', WHERE WHAT IT READS IS OF BULK AT MOST 1048576: true; the input reads as it did. -/
def stackKnownUptoRow : OpenClaim := { program := "ytdabdbbgaekmdaa", sum := "6289f67a884b77ccbdfbb550d326f73145f3000bc4cedec6faa3297f514b9afd", func := "coxswain/coxswainlaw10.StackKnown", spec := "stackKnown", unfollowed := true, recurses := true, apart := false, narrowed := true }
def StackKnownUptoSaid : Prop := stackKnownUptoRow.holds Try.pinned (OpenSpec.upto stackKnownSpec)

/-- 'coxswainlaw10.StackKeeps', WHERE WHAT IT READS IS OF BULK AT MOST 1048576: true; the input reads as it did. -/
def stackKeepsUptoRow : OpenClaim := { program := "ytdabdbbgaekmdaa", sum := "6289f67a884b77ccbdfbb550d326f73145f3000bc4cedec6faa3297f514b9afd", func := "coxswain/coxswainlaw10.StackKeeps", spec := "stackKeeps", unfollowed := true, recurses := true, apart := false, narrowed := true }
def StackKeepsUptoSaid : Prop := stackKeepsUptoRow.holds Try.pinned (OpenSpec.upto stackKeepsSpec)

/-- 'coxswainlaw10.StackAlone', WHERE WHAT IT READS IS OF BULK AT MOST 1048576: true; the input reads as it did. -/
def stackAloneUptoRow : OpenClaim := { program := "ytdabdbbgaekmdaa", sum := "6289f67a884b77ccbdfbb550d326f73145f3000bc4cedec6faa3297f514b9afd", func := "coxswain/coxswainlaw10.StackAlone", spec := "stackAlone", unfollowed := true, recurses := true, apart := false, narrowed := true }
def StackAloneUptoSaid : Prop := stackAloneUptoRow.holds Try.pinned (OpenSpec.upto stackAloneSpec)

/-- 'coxswainlaw10.StackSteps', WHERE WHAT IT READS IS OF BULK AT MOST 1048576: true; the input reads as it did. -/
def stackStepsUptoRow : OpenClaim := { program := "ytdabdbbgaekmdaa", sum := "6289f67a884b77ccbdfbb550d326f73145f3000bc4cedec6faa3297f514b9afd", func := "coxswain/coxswainlaw10.StackSteps", spec := "stackSteps", unfollowed := true, recurses := true, apart := false, narrowed := true }
def StackStepsUptoSaid : Prop := stackStepsUptoRow.holds Try.pinned (OpenSpec.upto stackStepsSpec)

/-- 'coxswainlaw24.JobWords', WHERE WHAT IT READS IS OF BULK AT MOST 1048576: true; the input reads as it did. -/
def jobWordsUptoRow : OpenClaim := { program := "ytdabdbbgaekmdaa", sum := "6289f67a884b77ccbdfbb550d326f73145f3000bc4cedec6faa3297f514b9afd", func := "coxswain/coxswainlaw24.JobWords", spec := "jobWords", unfollowed := true, recurses := true, apart := false, narrowed := true }
def JobWordsUptoSaid : Prop := jobWordsUptoRow.holds Try.pinned (OpenSpec.upto jobWordsSpec)

/-- 'coxswainlaw24.JobNone', WHERE WHAT IT READS IS OF BULK AT MOST 1048576: true; the input reads as it did. -/
def jobNoneUptoRow : OpenClaim := { program := "ytdabdbbgaekmdaa", sum := "6289f67a884b77ccbdfbb550d326f73145f3000bc4cedec6faa3297f514b9afd", func := "coxswain/coxswainlaw24.JobNone", spec := "jobNone", unfollowed := true, recurses := true, apart := false, narrowed := true }
def JobNoneUptoSaid : Prop := jobNoneUptoRow.holds Try.pinned (OpenSpec.upto jobNoneSpec)

/-- 'coxswainlaw24.JobKnown', WHERE WHAT IT READS IS OF BULK AT MOST 1048576: true; the input reads as it did. -/
def jobKnownUptoRow : OpenClaim := { program := "ytdabdbbgaekmdaa", sum := "6289f67a884b77ccbdfbb550d326f73145f3000bc4cedec6faa3297f514b9afd", func := "coxswain/coxswainlaw24.JobKnown", spec := "jobKnown", unfollowed := true, recurses := true, apart := false, narrowed := true }
def JobKnownUptoSaid : Prop := jobKnownUptoRow.holds Try.pinned (OpenSpec.upto jobKnownSpec)

/-- 'coxswainlaw24.JobBack', WHERE WHAT IT READS IS OF BULK AT MOST 1048576: true; the input reads as it did. -/
def jobBackUptoRow : OpenClaim := { program := "ytdabdbbgaekmdaa", sum := "6289f67a884b77ccbdfbb550d326f73145f3000bc4cedec6faa3297f514b9afd", func := "coxswain/coxswainlaw24.JobBack", spec := "jobBack", unfollowed := true, recurses := true, apart := false, narrowed := true }
def JobBackUptoSaid : Prop := jobBackUptoRow.holds Try.pinned (OpenSpec.upto jobBackSpec)

end Rows
end Go.Proofs.Ytdabdbbgaekmdaa
