/-
  No cell of these rows narrows 'for every input' (looked for: loops, veiled, ifaces, maps, wideKeys, modest, calm, conditions, laid).
  DERIVED. THE GIVEN ROWS OF THIS SEAT. 12 by the template 'for every input the law returns true; each argument reads behind the call as it read before'; 0 by the template 'total and deterministic' (their statements: YtdldcofddfkkbaaGreatTotals.lean).
  GIVEN WITH THE SEED: the statements are not yours to turn. If you find one false, say at which input.
  Laid BY PROGRAM, IN A SANDBOX (cutbox-rows.mjs): the forced cells as the released guide's own fill.sh prints them over the translation 7add2a43e4cef4d4… (all of the seat's roots in one cut). By AI agents, Wed Nov 11 2026. No macro, syntax, notation, axiom, sorry.
-/
import Derived.Test.YtdldcofddfkkbaaGreatChecked
import GoSem.Claim
import GoSem.ClaimJoined
import GoSem.ClaimMapViews
import Derived.JoinedTies
import Derived.KernelRfl
namespace Go.Proofs.YtdldcofddfkkbaaGreat
/- THE CELL 'sum', in the pinned program and in every row, IS THE sha256 OF THE DUMP (.gsa) THAT YtdldcofddfkkbaaGreatProg.lean LOADS. Nothing in Lean hashes anything: it is a label: what it is worth is what the hold of that sum in a sandbox is worth. -/
noncomputable def Tryz.pinned : Pinned := { name := "ytdldcofddfkkbaagreat", sum := "7add2a43e4cef4d4271a8d85ecca9bb17eb3daa83e12a78de180d9de7c34984d", checked := Tryz.checked }
namespace Rows
def none {H : Type} : Left H := { results := [], args := [] }

/-- 'coxswainlaw13.LimboNone': WHATEVER THE INPUT: true; the input reads as it did. -/
def limboNoneSpec : ChangeSpec := { name := "limboNone", fn := fun _ => fun
  | [d] => { results := [.lit (.bool true)], args := [d] }
  | _ => none }
def limboNoneRow : OpenClaim := { program := "ytdldcofddfkkbaagreat", sum := "7add2a43e4cef4d4271a8d85ecca9bb17eb3daa83e12a78de180d9de7c34984d", func := "coxswain/coxswainlaw13.LimboNone", spec := "limboNone", unfollowed := true, recurses := true, apart := false }
def LimboNoneSaid : Prop := limboNoneRow.holds Tryz.pinned (OpenSpec.ofChange limboNoneSpec)

/-- ITS FALSE NEIGHBOUR: 'it returns false'. Refute it at one input. -/
def limboNoneWrong : ChangeSpec := { name := "limboNone", fn := fun _ => fun
  | [d] => { results := [.lit (.bool false)], args := [d] }
  | _ => none }
def LimboNoneWrongFalsely : Prop := limboNoneRow.holds Tryz.pinned (OpenSpec.ofChange limboNoneWrong)

/-- 'coxswainlaw13.LimboKnown': WHATEVER THE INPUT: true; the input reads as it did. -/
def limboKnownSpec : ChangeSpec := { name := "limboKnown", fn := fun _ => fun
  | [] => { results := [.lit (.bool true)], args := [] }
  | _ => none }
def limboKnownRow : OpenClaim := { program := "ytdldcofddfkkbaagreat", sum := "7add2a43e4cef4d4271a8d85ecca9bb17eb3daa83e12a78de180d9de7c34984d", func := "coxswain/coxswainlaw13.LimboKnown", spec := "limboKnown", unfollowed := true, recurses := true, apart := false }
def LimboKnownSaid : Prop := limboKnownRow.holds Tryz.pinned (OpenSpec.ofChange limboKnownSpec)

/-- ITS FALSE NEIGHBOUR: 'it returns false'. Refute it at one input. -/
def limboKnownWrong : ChangeSpec := { name := "limboKnown", fn := fun _ => fun
  | [] => { results := [.lit (.bool false)], args := [] }
  | _ => none }
def LimboKnownWrongFalsely : Prop := limboKnownRow.holds Tryz.pinned (OpenSpec.ofChange limboKnownWrong)

/-- 'coxswainlaw13.LimboSteps': WHATEVER THE INPUT: true; the input reads as it did. -/
def limboStepsSpec : ChangeSpec := { name := "limboSteps", fn := fun _ => fun
  | [d1, d2, d3, d4] => { results := [.lit (.bool true)], args := [d1, d2, d3, d4] }
  | _ => none }
def limboStepsRow : OpenClaim := { program := "ytdldcofddfkkbaagreat", sum := "7add2a43e4cef4d4271a8d85ecca9bb17eb3daa83e12a78de180d9de7c34984d", func := "coxswain/coxswainlaw13.LimboSteps", spec := "limboSteps", unfollowed := true, recurses := true, apart := false }
def LimboStepsSaid : Prop := limboStepsRow.holds Tryz.pinned (OpenSpec.ofChange limboStepsSpec)

/-- ITS FALSE NEIGHBOUR: 'it returns false'. Refute it at one input. -/
def limboStepsWrong : ChangeSpec := { name := "limboSteps", fn := fun _ => fun
  | [d1, d2, d3, d4] => { results := [.lit (.bool false)], args := [d1, d2, d3, d4] }
  | _ => none }
def LimboStepsWrongFalsely : Prop := limboStepsRow.holds Tryz.pinned (OpenSpec.ofChange limboStepsWrong)

/-- 'coxswainlaw17.InsertNew': WHATEVER THE INPUT: true; the input reads as it did. -/
def insertNewSpec : ChangeSpec := { name := "insertNew", fn := fun _ => fun
  | [d1, d2, d3, d4] => { results := [.lit (.bool true)], args := [d1, d2, d3, d4] }
  | _ => none }
def insertNewRow : OpenClaim := { program := "ytdldcofddfkkbaagreat", sum := "7add2a43e4cef4d4271a8d85ecca9bb17eb3daa83e12a78de180d9de7c34984d", func := "coxswain/coxswainlaw17.InsertNew", spec := "insertNew", unfollowed := true, recurses := true, apart := false }
def InsertNewSaid : Prop := insertNewRow.holds Tryz.pinned (OpenSpec.ofChange insertNewSpec)

/-- ITS FALSE NEIGHBOUR: 'it returns false'. Refute it at one input. -/
def insertNewWrong : ChangeSpec := { name := "insertNew", fn := fun _ => fun
  | [d1, d2, d3, d4] => { results := [.lit (.bool false)], args := [d1, d2, d3, d4] }
  | _ => none }
def InsertNewWrongFalsely : Prop := insertNewRow.holds Tryz.pinned (OpenSpec.ofChange insertNewWrong)

/-- 'coxswainlaw17.InsertKnown': WHATEVER THE INPUT: true; the input reads as it did. -/
def insertKnownSpec : ChangeSpec := { name := "insertKnown", fn := fun _ => fun
  | [] => { results := [.lit (.bool true)], args := [] }
  | _ => none }
def insertKnownRow : OpenClaim := { program := "ytdldcofddfkkbaagreat", sum := "7add2a43e4cef4d4271a8d85ecca9bb17eb3daa83e12a78de180d9de7c34984d", func := "coxswain/coxswainlaw17.InsertKnown", spec := "insertKnown", unfollowed := true, recurses := true, apart := false }
def InsertKnownSaid : Prop := insertKnownRow.holds Tryz.pinned (OpenSpec.ofChange insertKnownSpec)

/-- ITS FALSE NEIGHBOUR: 'it returns false'. Refute it at one input. -/
def insertKnownWrong : ChangeSpec := { name := "insertKnown", fn := fun _ => fun
  | [] => { results := [.lit (.bool false)], args := [] }
  | _ => none }
def InsertKnownWrongFalsely : Prop := insertKnownRow.holds Tryz.pinned (OpenSpec.ofChange insertKnownWrong)

/-- 'coxswainlaw17.InsertNone': WHATEVER THE INPUT: true; the input reads as it did. -/
def insertNoneSpec : ChangeSpec := { name := "insertNone", fn := fun _ => fun
  | [d] => { results := [.lit (.bool true)], args := [d] }
  | _ => none }
def insertNoneRow : OpenClaim := { program := "ytdldcofddfkkbaagreat", sum := "7add2a43e4cef4d4271a8d85ecca9bb17eb3daa83e12a78de180d9de7c34984d", func := "coxswain/coxswainlaw17.InsertNone", spec := "insertNone", unfollowed := true, recurses := true, apart := false }
def InsertNoneSaid : Prop := insertNoneRow.holds Tryz.pinned (OpenSpec.ofChange insertNoneSpec)

/-- ITS FALSE NEIGHBOUR: 'it returns false'. Refute it at one input. -/
def insertNoneWrong : ChangeSpec := { name := "insertNone", fn := fun _ => fun
  | [d] => { results := [.lit (.bool false)], args := [d] }
  | _ => none }
def InsertNoneWrongFalsely : Prop := insertNoneRow.holds Tryz.pinned (OpenSpec.ofChange insertNoneWrong)

/-- 'coxswainlaw17.InsertMoment': WHATEVER THE INPUT: true; the input reads as it did. -/
def insertMomentSpec : ChangeSpec := { name := "insertMoment", fn := fun _ => fun
  | [d1, d2, d3, d4] => { results := [.lit (.bool true)], args := [d1, d2, d3, d4] }
  | _ => none }
def insertMomentRow : OpenClaim := { program := "ytdldcofddfkkbaagreat", sum := "7add2a43e4cef4d4271a8d85ecca9bb17eb3daa83e12a78de180d9de7c34984d", func := "coxswain/coxswainlaw17.InsertMoment", spec := "insertMoment", unfollowed := true, recurses := true, apart := false }
def InsertMomentSaid : Prop := insertMomentRow.holds Tryz.pinned (OpenSpec.ofChange insertMomentSpec)

/-- ITS FALSE NEIGHBOUR: 'it returns false'. Refute it at one input. -/
def insertMomentWrong : ChangeSpec := { name := "insertMoment", fn := fun _ => fun
  | [d1, d2, d3, d4] => { results := [.lit (.bool false)], args := [d1, d2, d3, d4] }
  | _ => none }
def InsertMomentWrongFalsely : Prop := insertMomentRow.holds Tryz.pinned (OpenSpec.ofChange insertMomentWrong)

/-- 'coxswainlaw17.InsertSteps': WHATEVER THE INPUT: true; the input reads as it did. -/
def insertStepsSpec : ChangeSpec := { name := "insertSteps", fn := fun _ => fun
  | [d1, d2, d3, d4] => { results := [.lit (.bool true)], args := [d1, d2, d3, d4] }
  | _ => none }
def insertStepsRow : OpenClaim := { program := "ytdldcofddfkkbaagreat", sum := "7add2a43e4cef4d4271a8d85ecca9bb17eb3daa83e12a78de180d9de7c34984d", func := "coxswain/coxswainlaw17.InsertSteps", spec := "insertSteps", unfollowed := true, recurses := true, apart := false }
def InsertStepsSaid : Prop := insertStepsRow.holds Tryz.pinned (OpenSpec.ofChange insertStepsSpec)

/-- ITS FALSE NEIGHBOUR: 'it returns false'. Refute it at one input. -/
def insertStepsWrong : ChangeSpec := { name := "insertSteps", fn := fun _ => fun
  | [d1, d2, d3, d4] => { results := [.lit (.bool false)], args := [d1, d2, d3, d4] }
  | _ => none }
def InsertStepsWrongFalsely : Prop := insertStepsRow.holds Tryz.pinned (OpenSpec.ofChange insertStepsWrong)

/-- 'coxswainlaw13.LimboSafe': WHATEVER THE INPUT: true; the input reads as it did. -/
def limboSafeSpec : ChangeSpec := { name := "limboSafe", fn := fun _ => fun
  | [d1, d2] => { results := [.lit (.bool true)], args := [d1, d2] }
  | _ => none }
def limboSafeRow : OpenClaim := { program := "ytdldcofddfkkbaagreat", sum := "7add2a43e4cef4d4271a8d85ecca9bb17eb3daa83e12a78de180d9de7c34984d", func := "coxswain/coxswainlaw13.LimboSafe", spec := "limboSafe", unfollowed := true, recurses := true, apart := false }
def LimboSafeSaid : Prop := limboSafeRow.holds Tryz.pinned (OpenSpec.ofChange limboSafeSpec)

/-- ITS FALSE NEIGHBOUR: 'it returns false'. Refute it at one input. -/
def limboSafeWrong : ChangeSpec := { name := "limboSafe", fn := fun _ => fun
  | [d1, d2] => { results := [.lit (.bool false)], args := [d1, d2] }
  | _ => none }
def LimboSafeWrongFalsely : Prop := limboSafeRow.holds Tryz.pinned (OpenSpec.ofChange limboSafeWrong)

/-- 'coxswainlaw13.LimboFrees': WHATEVER THE INPUT: true; the input reads as it did. -/
def limboFreesSpec : ChangeSpec := { name := "limboFrees", fn := fun _ => fun
  | [d1, d2, d3] => { results := [.lit (.bool true)], args := [d1, d2, d3] }
  | _ => none }
def limboFreesRow : OpenClaim := { program := "ytdldcofddfkkbaagreat", sum := "7add2a43e4cef4d4271a8d85ecca9bb17eb3daa83e12a78de180d9de7c34984d", func := "coxswain/coxswainlaw13.LimboFrees", spec := "limboFrees", unfollowed := true, recurses := true, apart := false }
def LimboFreesSaid : Prop := limboFreesRow.holds Tryz.pinned (OpenSpec.ofChange limboFreesSpec)

/-- ITS FALSE NEIGHBOUR: 'it returns false'. Refute it at one input. -/
def limboFreesWrong : ChangeSpec := { name := "limboFrees", fn := fun _ => fun
  | [d1, d2, d3] => { results := [.lit (.bool false)], args := [d1, d2, d3] }
  | _ => none }
def LimboFreesWrongFalsely : Prop := limboFreesRow.holds Tryz.pinned (OpenSpec.ofChange limboFreesWrong)

/-- 'coxswainlaw17.InsertGone': WHATEVER THE INPUT: true; the input reads as it did. -/
def insertGoneSpec : ChangeSpec := { name := "insertGone", fn := fun _ => fun
  | [d1, d2, d3, d4] => { results := [.lit (.bool true)], args := [d1, d2, d3, d4] }
  | _ => none }
def insertGoneRow : OpenClaim := { program := "ytdldcofddfkkbaagreat", sum := "7add2a43e4cef4d4271a8d85ecca9bb17eb3daa83e12a78de180d9de7c34984d", func := "coxswain/coxswainlaw17.InsertGone", spec := "insertGone", unfollowed := true, recurses := true, apart := false }
def InsertGoneSaid : Prop := insertGoneRow.holds Tryz.pinned (OpenSpec.ofChange insertGoneSpec)

/-- ITS FALSE NEIGHBOUR: 'it returns false'. Refute it at one input. -/
def insertGoneWrong : ChangeSpec := { name := "insertGone", fn := fun _ => fun
  | [d1, d2, d3, d4] => { results := [.lit (.bool false)], args := [d1, d2, d3, d4] }
  | _ => none }
def InsertGoneWrongFalsely : Prop := insertGoneRow.holds Tryz.pinned (OpenSpec.ofChange insertGoneWrong)

/-- 'coxswainlaw17.InsertSorted': WHATEVER THE INPUT: true; the input reads as it did. -/
def insertSortedSpec : ChangeSpec := { name := "insertSorted", fn := fun _ => fun
  | [d1, d2, d3, d4] => { results := [.lit (.bool true)], args := [d1, d2, d3, d4] }
  | _ => none }
def insertSortedRow : OpenClaim := { program := "ytdldcofddfkkbaagreat", sum := "7add2a43e4cef4d4271a8d85ecca9bb17eb3daa83e12a78de180d9de7c34984d", func := "coxswain/coxswainlaw17.InsertSorted", spec := "insertSorted", unfollowed := true, recurses := true, apart := false }
def InsertSortedSaid : Prop := insertSortedRow.holds Tryz.pinned (OpenSpec.ofChange insertSortedSpec)

/-- ITS FALSE NEIGHBOUR: 'it returns false'. Refute it at one input. -/
def insertSortedWrong : ChangeSpec := { name := "insertSorted", fn := fun _ => fun
  | [d1, d2, d3, d4] => { results := [.lit (.bool false)], args := [d1, d2, d3, d4] }
  | _ => none }
def InsertSortedWrongFalsely : Prop := insertSortedRow.holds Tryz.pinned (OpenSpec.ofChange insertSortedWrong)

/- THE SECOND FORM. 'bulk': how many values and letters a reading holds, each counted each time it is reached (what is shared counts as often as it is met; a slice's spare places count too). A statement '..UptoSaid' is the law's where the arguments, and the package variables that the reading takes, are together of bulk at most 1048576: NARROWER than '..Said'. Prove '..Said' where nothing that the law and all that it calls make is longer than what came in: it says more and counts as full. Else prove '..UptoSaid'. A law counts once. -/
mutual
def uptoBulk {H : Type} : DataW H → Nat
  | .lit (.string bytes) => bytes.length + 1
  | .lit _ => 1
  | .nil => 1
  | .ptr d => uptoBulk d + 1
  | .slice elems spare => uptoBulkAll elems + uptoBulkAll spare + 1
  | .agg parts => uptoBulkAll parts + 1
  | .iface _ d => uptoBulk d + 1
  | .map entries => uptoBulkEntries entries + 1
  | .held _ => 1
def uptoBulkAll {H : Type} : List (DataW H) → Nat
  | [] => 0
  | d :: r => uptoBulk d + uptoBulkAll r
def uptoBulkEntries {H : Type} : List (Lit × DataW H) → Nat
  | [] => 0
  | x :: r => uptoBulkEntry x + uptoBulkEntries r
def uptoBulkEntry {H : Type} : Lit × DataW H → Nat
  | (.string bytes, d) => bytes.length + uptoBulk d + 1
  | (_, d) => uptoBulk d + 1
 end
def uptoSmall : (H : Type) → List (DataW H) → Bool := fun _ ds => decide (uptoBulkAll ds ≤ 1048576)
def OpenSpec.upto (s : _root_.Go.ChangeSpec) : _root_.Go.OpenSpec := { _root_.Go.OpenSpec.ofChange s with cond := some uptoSmall }

/-- 'coxswainlaw13.LimboNone', WHERE WHAT IT READS IS OF BULK AT MOST 1048576: true; the input reads as it did. -/
def limboNoneUptoRow : OpenClaim := { program := "ytdldcofddfkkbaagreat", sum := "7add2a43e4cef4d4271a8d85ecca9bb17eb3daa83e12a78de180d9de7c34984d", func := "coxswain/coxswainlaw13.LimboNone", spec := "limboNone", unfollowed := true, recurses := true, apart := false, narrowed := true }
def LimboNoneUptoSaid : Prop := limboNoneUptoRow.holds Tryz.pinned (OpenSpec.upto limboNoneSpec)

/-- 'coxswainlaw13.LimboKnown', WHERE WHAT IT READS IS OF BULK AT MOST 1048576: true; the input reads as it did. -/
def limboKnownUptoRow : OpenClaim := { program := "ytdldcofddfkkbaagreat", sum := "7add2a43e4cef4d4271a8d85ecca9bb17eb3daa83e12a78de180d9de7c34984d", func := "coxswain/coxswainlaw13.LimboKnown", spec := "limboKnown", unfollowed := true, recurses := true, apart := false, narrowed := true }
def LimboKnownUptoSaid : Prop := limboKnownUptoRow.holds Tryz.pinned (OpenSpec.upto limboKnownSpec)

/-- 'coxswainlaw13.LimboSteps', WHERE WHAT IT READS IS OF BULK AT MOST 1048576: true; the input reads as it did. -/
def limboStepsUptoRow : OpenClaim := { program := "ytdldcofddfkkbaagreat", sum := "7add2a43e4cef4d4271a8d85ecca9bb17eb3daa83e12a78de180d9de7c34984d", func := "coxswain/coxswainlaw13.LimboSteps", spec := "limboSteps", unfollowed := true, recurses := true, apart := false, narrowed := true }
def LimboStepsUptoSaid : Prop := limboStepsUptoRow.holds Tryz.pinned (OpenSpec.upto limboStepsSpec)

/-- 'coxswainlaw17.InsertNew', WHERE WHAT IT READS IS OF BULK AT MOST 1048576: true; the input reads as it did. -/
def insertNewUptoRow : OpenClaim := { program := "ytdldcofddfkkbaagreat", sum := "7add2a43e4cef4d4271a8d85ecca9bb17eb3daa83e12a78de180d9de7c34984d", func := "coxswain/coxswainlaw17.InsertNew", spec := "insertNew", unfollowed := true, recurses := true, apart := false, narrowed := true }
def InsertNewUptoSaid : Prop := insertNewUptoRow.holds Tryz.pinned (OpenSpec.upto insertNewSpec)

/-- 'coxswainlaw17.InsertKnown', WHERE WHAT IT READS IS OF BULK AT MOST 1048576: true; the input reads as it did. -/
def insertKnownUptoRow : OpenClaim := { program := "ytdldcofddfkkbaagreat", sum := "7add2a43e4cef4d4271a8d85ecca9bb17eb3daa83e12a78de180d9de7c34984d", func := "coxswain/coxswainlaw17.InsertKnown", spec := "insertKnown", unfollowed := true, recurses := true, apart := false, narrowed := true }
def InsertKnownUptoSaid : Prop := insertKnownUptoRow.holds Tryz.pinned (OpenSpec.upto insertKnownSpec)

/-- 'coxswainlaw17.InsertNone', WHERE WHAT IT READS IS OF BULK AT MOST 1048576: true; the input reads as it did. -/
def insertNoneUptoRow : OpenClaim := { program := "ytdldcofddfkkbaagreat", sum := "7add2a43e4cef4d4271a8d85ecca9bb17eb3daa83e12a78de180d9de7c34984d", func := "coxswain/coxswainlaw17.InsertNone", spec := "insertNone", unfollowed := true, recurses := true, apart := false, narrowed := true }
def InsertNoneUptoSaid : Prop := insertNoneUptoRow.holds Tryz.pinned (OpenSpec.upto insertNoneSpec)

/-- 'coxswainlaw17.InsertMoment', WHERE WHAT IT READS IS OF BULK AT MOST 1048576: true; the input reads as it did. -/
def insertMomentUptoRow : OpenClaim := { program := "ytdldcofddfkkbaagreat", sum := "7add2a43e4cef4d4271a8d85ecca9bb17eb3daa83e12a78de180d9de7c34984d", func := "coxswain/coxswainlaw17.InsertMoment", spec := "insertMoment", unfollowed := true, recurses := true, apart := false, narrowed := true }
def InsertMomentUptoSaid : Prop := insertMomentUptoRow.holds Tryz.pinned (OpenSpec.upto insertMomentSpec)

/-- 'coxswainlaw17.InsertSteps', WHERE WHAT IT READS IS OF BULK AT MOST 1048576: true; the input reads as it did. -/
def insertStepsUptoRow : OpenClaim := { program := "ytdldcofddfkkbaagreat", sum := "7add2a43e4cef4d4271a8d85ecca9bb17eb3daa83e12a78de180d9de7c34984d", func := "coxswain/coxswainlaw17.InsertSteps", spec := "insertSteps", unfollowed := true, recurses := true, apart := false, narrowed := true }
def InsertStepsUptoSaid : Prop := insertStepsUptoRow.holds Tryz.pinned (OpenSpec.upto insertStepsSpec)

/-- 'coxswainlaw13.LimboSafe', WHERE WHAT IT READS IS OF BULK AT MOST 1048576: true; the input reads as it did. -/
def limboSafeUptoRow : OpenClaim := { program := "ytdldcofddfkkbaagreat", sum := "7add2a43e4cef4d4271a8d85ecca9bb17eb3daa83e12a78de180d9de7c34984d", func := "coxswain/coxswainlaw13.LimboSafe", spec := "limboSafe", unfollowed := true, recurses := true, apart := false, narrowed := true }
def LimboSafeUptoSaid : Prop := limboSafeUptoRow.holds Tryz.pinned (OpenSpec.upto limboSafeSpec)

/-- 'coxswainlaw13.LimboFrees', WHERE WHAT IT READS IS OF BULK AT MOST 1048576: true; the input reads as it did. -/
def limboFreesUptoRow : OpenClaim := { program := "ytdldcofddfkkbaagreat", sum := "7add2a43e4cef4d4271a8d85ecca9bb17eb3daa83e12a78de180d9de7c34984d", func := "coxswain/coxswainlaw13.LimboFrees", spec := "limboFrees", unfollowed := true, recurses := true, apart := false, narrowed := true }
def LimboFreesUptoSaid : Prop := limboFreesUptoRow.holds Tryz.pinned (OpenSpec.upto limboFreesSpec)

/-- 'coxswainlaw17.InsertGone', WHERE WHAT IT READS IS OF BULK AT MOST 1048576: true; the input reads as it did. -/
def insertGoneUptoRow : OpenClaim := { program := "ytdldcofddfkkbaagreat", sum := "7add2a43e4cef4d4271a8d85ecca9bb17eb3daa83e12a78de180d9de7c34984d", func := "coxswain/coxswainlaw17.InsertGone", spec := "insertGone", unfollowed := true, recurses := true, apart := false, narrowed := true }
def InsertGoneUptoSaid : Prop := insertGoneUptoRow.holds Tryz.pinned (OpenSpec.upto insertGoneSpec)

/-- 'coxswainlaw17.InsertSorted', WHERE WHAT IT READS IS OF BULK AT MOST 1048576: true; the input reads as it did. -/
def insertSortedUptoRow : OpenClaim := { program := "ytdldcofddfkkbaagreat", sum := "7add2a43e4cef4d4271a8d85ecca9bb17eb3daa83e12a78de180d9de7c34984d", func := "coxswain/coxswainlaw17.InsertSorted", spec := "insertSorted", unfollowed := true, recurses := true, apart := false, narrowed := true }
def InsertSortedUptoSaid : Prop := insertSortedUptoRow.holds Tryz.pinned (OpenSpec.upto insertSortedSpec)

end Rows
end Go.Proofs.YtdldcofddfkkbaaGreat
