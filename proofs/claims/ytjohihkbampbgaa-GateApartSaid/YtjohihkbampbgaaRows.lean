/-
  No cell of these rows narrows 'for every input' (looked for: loops, veiled, ifaces, maps, wideKeys, modest, calm, conditions, laid).
  DERIVED. THE GIVEN ROWS OF THIS SEAT. 11 by the template 'for every input the law returns true; each argument reads behind the call as it read before'; 0 by the template 'total and deterministic' (their statements: YtjohihkbampbgaaTotals.lean).
  GIVEN WITH THE SEED: the statements are not yours to turn. If you find one false, say at which input.
  Laid BY PROGRAM, IN A SANDBOX (cutbox-rows.mjs): the forced cells as the released guide's own fill.sh prints them over the translation 317fb366fec4846e… (all of the seat's roots in one cut). By AI agents, Wed Nov 11 2026. No macro, syntax, notation, axiom, sorry.
-/
import Derived.Test.YtjohihkbampbgaaChecked
import GoSem.Claim
import GoSem.ClaimJoined
import GoSem.ClaimMapViews
import Derived.JoinedTies
import Derived.KernelRfl
namespace Go.Proofs.Ytjohihkbampbgaa
/- THE CELL 'sum', in the pinned program and in every row, IS THE sha256 OF THE DUMP (.gsa) THAT YtjohihkbampbgaaProg.lean LOADS. Nothing in Lean hashes anything: it is a label: what it is worth is what the hold of that sum in a sandbox is worth. -/
noncomputable def Try.pinned : Pinned := { name := "ytjohihkbampbgaa", sum := "317fb366fec4846e6eeaaf2609e29101a66555da4b2da87774e554eb25af81a8", checked := Try.checked }
namespace Rows
def none {H : Type} : Left H := { results := [], args := [] }

/-- 'coxswainlaw23.GateNew': WHATEVER THE INPUT: true; the input reads as it did. -/
def gateNewSpec : ChangeSpec := { name := "gateNew", fn := fun _ => fun
  | [d1, d2, d3, d4] => { results := [.lit (.bool true)], args := [d1, d2, d3, d4] }
  | _ => none }
def gateNewRow : OpenClaim := { program := "ytjohihkbampbgaa", sum := "317fb366fec4846e6eeaaf2609e29101a66555da4b2da87774e554eb25af81a8", func := "coxswain/coxswainlaw23.GateNew", spec := "gateNew", unfollowed := true, recurses := true, apart := false }
def GateNewSaid : Prop := gateNewRow.holds Try.pinned (OpenSpec.ofChange gateNewSpec)

/-- ITS FALSE NEIGHBOUR: 'it returns false'. Refute it at one input. -/
def gateNewWrong : ChangeSpec := { name := "gateNew", fn := fun _ => fun
  | [d1, d2, d3, d4] => { results := [.lit (.bool false)], args := [d1, d2, d3, d4] }
  | _ => none }
def GateNewWrongFalsely : Prop := gateNewRow.holds Try.pinned (OpenSpec.ofChange gateNewWrong)

/-- 'coxswainlaw23.GateNone': WHATEVER THE INPUT: true; the input reads as it did. -/
def gateNoneSpec : ChangeSpec := { name := "gateNone", fn := fun _ => fun
  | [d] => { results := [.lit (.bool true)], args := [d] }
  | _ => none }
def gateNoneRow : OpenClaim := { program := "ytjohihkbampbgaa", sum := "317fb366fec4846e6eeaaf2609e29101a66555da4b2da87774e554eb25af81a8", func := "coxswain/coxswainlaw23.GateNone", spec := "gateNone", unfollowed := true, recurses := true, apart := false }
def GateNoneSaid : Prop := gateNoneRow.holds Try.pinned (OpenSpec.ofChange gateNoneSpec)

/-- ITS FALSE NEIGHBOUR: 'it returns false'. Refute it at one input. -/
def gateNoneWrong : ChangeSpec := { name := "gateNone", fn := fun _ => fun
  | [d] => { results := [.lit (.bool false)], args := [d] }
  | _ => none }
def GateNoneWrongFalsely : Prop := gateNoneRow.holds Try.pinned (OpenSpec.ofChange gateNoneWrong)

/-- 'coxswainlaw23.GateKnown': WHATEVER THE INPUT: true; the input reads as it did. -/
def gateKnownSpec : ChangeSpec := { name := "gateKnown", fn := fun _ => fun
  | [] => { results := [.lit (.bool true)], args := [] }
  | _ => none }
def gateKnownRow : OpenClaim := { program := "ytjohihkbampbgaa", sum := "317fb366fec4846e6eeaaf2609e29101a66555da4b2da87774e554eb25af81a8", func := "coxswain/coxswainlaw23.GateKnown", spec := "gateKnown", unfollowed := true, recurses := true, apart := false }
def GateKnownSaid : Prop := gateKnownRow.holds Try.pinned (OpenSpec.ofChange gateKnownSpec)

/-- ITS FALSE NEIGHBOUR: 'it returns false'. Refute it at one input. -/
def gateKnownWrong : ChangeSpec := { name := "gateKnown", fn := fun _ => fun
  | [] => { results := [.lit (.bool false)], args := [] }
  | _ => none }
def GateKnownWrongFalsely : Prop := gateKnownRow.holds Try.pinned (OpenSpec.ofChange gateKnownWrong)

/-- 'coxswainlaw23.GateApart': WHATEVER THE INPUT: true; the input reads as it did. -/
def gateApartSpec : ChangeSpec := { name := "gateApart", fn := fun _ => fun
  | [d1, d2] => { results := [.lit (.bool true)], args := [d1, d2] }
  | _ => none }
def gateApartRow : OpenClaim := { program := "ytjohihkbampbgaa", sum := "317fb366fec4846e6eeaaf2609e29101a66555da4b2da87774e554eb25af81a8", func := "coxswain/coxswainlaw23.GateApart", spec := "gateApart", unfollowed := true, recurses := true, apart := false }
def GateApartSaid : Prop := gateApartRow.holds Try.pinned (OpenSpec.ofChange gateApartSpec)

/-- ITS FALSE NEIGHBOUR: 'it returns false'. Refute it at one input. -/
def gateApartWrong : ChangeSpec := { name := "gateApart", fn := fun _ => fun
  | [d1, d2] => { results := [.lit (.bool false)], args := [d1, d2] }
  | _ => none }
def GateApartWrongFalsely : Prop := gateApartRow.holds Try.pinned (OpenSpec.ofChange gateApartWrong)

/-- 'coxswainlaw23.GateRises': WHATEVER THE INPUT: true; the input reads as it did. -/
def gateRisesSpec : ChangeSpec := { name := "gateRises", fn := fun _ => fun
  | [d] => { results := [.lit (.bool true)], args := [d] }
  | _ => none }
def gateRisesRow : OpenClaim := { program := "ytjohihkbampbgaa", sum := "317fb366fec4846e6eeaaf2609e29101a66555da4b2da87774e554eb25af81a8", func := "coxswain/coxswainlaw23.GateRises", spec := "gateRises", unfollowed := true, recurses := true, apart := false }
def GateRisesSaid : Prop := gateRisesRow.holds Try.pinned (OpenSpec.ofChange gateRisesSpec)

/-- ITS FALSE NEIGHBOUR: 'it returns false'. Refute it at one input. -/
def gateRisesWrong : ChangeSpec := { name := "gateRises", fn := fun _ => fun
  | [d] => { results := [.lit (.bool false)], args := [d] }
  | _ => none }
def GateRisesWrongFalsely : Prop := gateRisesRow.holds Try.pinned (OpenSpec.ofChange gateRisesWrong)

/-- 'coxswainlaw23.GateSteps': WHATEVER THE INPUT: true; the input reads as it did. -/
def gateStepsSpec : ChangeSpec := { name := "gateSteps", fn := fun _ => fun
  | [d1, d2, d3, d4, d5] => { results := [.lit (.bool true)], args := [d1, d2, d3, d4, d5] }
  | _ => none }
def gateStepsRow : OpenClaim := { program := "ytjohihkbampbgaa", sum := "317fb366fec4846e6eeaaf2609e29101a66555da4b2da87774e554eb25af81a8", func := "coxswain/coxswainlaw23.GateSteps", spec := "gateSteps", unfollowed := true, recurses := true, apart := false }
def GateStepsSaid : Prop := gateStepsRow.holds Try.pinned (OpenSpec.ofChange gateStepsSpec)

/-- ITS FALSE NEIGHBOUR: 'it returns false'. Refute it at one input. -/
def gateStepsWrong : ChangeSpec := { name := "gateSteps", fn := fun _ => fun
  | [d1, d2, d3, d4, d5] => { results := [.lit (.bool false)], args := [d1, d2, d3, d4, d5] }
  | _ => none }
def GateStepsWrongFalsely : Prop := gateStepsRow.holds Try.pinned (OpenSpec.ofChange gateStepsWrong)

/-- 'coxswainlaw12.EpochKnown': WHATEVER THE INPUT: true; the input reads as it did. -/
def epochKnownSpec : ChangeSpec := { name := "epochKnown", fn := fun _ => fun
  | [] => { results := [.lit (.bool true)], args := [] }
  | _ => none }
def epochKnownRow : OpenClaim := { program := "ytjohihkbampbgaa", sum := "317fb366fec4846e6eeaaf2609e29101a66555da4b2da87774e554eb25af81a8", func := "coxswain/coxswainlaw12.EpochKnown", spec := "epochKnown", unfollowed := true, recurses := true, apart := false }
def EpochKnownSaid : Prop := epochKnownRow.holds Try.pinned (OpenSpec.ofChange epochKnownSpec)

/-- ITS FALSE NEIGHBOUR: 'it returns false'. Refute it at one input. -/
def epochKnownWrong : ChangeSpec := { name := "epochKnown", fn := fun _ => fun
  | [] => { results := [.lit (.bool false)], args := [] }
  | _ => none }
def EpochKnownWrongFalsely : Prop := epochKnownRow.holds Try.pinned (OpenSpec.ofChange epochKnownWrong)

/-- 'coxswainlaw12.EpochGuards': WHATEVER THE INPUT: true; the input reads as it did. -/
def epochGuardsSpec : ChangeSpec := { name := "epochGuards", fn := fun _ => fun
  | [d] => { results := [.lit (.bool true)], args := [d] }
  | _ => none }
def epochGuardsRow : OpenClaim := { program := "ytjohihkbampbgaa", sum := "317fb366fec4846e6eeaaf2609e29101a66555da4b2da87774e554eb25af81a8", func := "coxswain/coxswainlaw12.EpochGuards", spec := "epochGuards", unfollowed := true, recurses := true, apart := false }
def EpochGuardsSaid : Prop := epochGuardsRow.holds Try.pinned (OpenSpec.ofChange epochGuardsSpec)

/-- ITS FALSE NEIGHBOUR: 'it returns false'. Refute it at one input. -/
def epochGuardsWrong : ChangeSpec := { name := "epochGuards", fn := fun _ => fun
  | [d] => { results := [.lit (.bool false)], args := [d] }
  | _ => none }
def EpochGuardsWrongFalsely : Prop := epochGuardsRow.holds Try.pinned (OpenSpec.ofChange epochGuardsWrong)

/-- 'coxswainlaw12.EpochAlone': WHATEVER THE INPUT: true; the input reads as it did. -/
def epochAloneSpec : ChangeSpec := { name := "epochAlone", fn := fun _ => fun
  | [d1, d2] => { results := [.lit (.bool true)], args := [d1, d2] }
  | _ => none }
def epochAloneRow : OpenClaim := { program := "ytjohihkbampbgaa", sum := "317fb366fec4846e6eeaaf2609e29101a66555da4b2da87774e554eb25af81a8", func := "coxswain/coxswainlaw12.EpochAlone", spec := "epochAlone", unfollowed := true, recurses := true, apart := false }
def EpochAloneSaid : Prop := epochAloneRow.holds Try.pinned (OpenSpec.ofChange epochAloneSpec)

/-- ITS FALSE NEIGHBOUR: 'it returns false'. Refute it at one input. -/
def epochAloneWrong : ChangeSpec := { name := "epochAlone", fn := fun _ => fun
  | [d1, d2] => { results := [.lit (.bool false)], args := [d1, d2] }
  | _ => none }
def EpochAloneWrongFalsely : Prop := epochAloneRow.holds Try.pinned (OpenSpec.ofChange epochAloneWrong)

/-- 'coxswainlaw12.EpochNone': WHATEVER THE INPUT: true; the input reads as it did. -/
def epochNoneSpec : ChangeSpec := { name := "epochNone", fn := fun _ => fun
  | [d1, d2, d3] => { results := [.lit (.bool true)], args := [d1, d2, d3] }
  | _ => none }
def epochNoneRow : OpenClaim := { program := "ytjohihkbampbgaa", sum := "317fb366fec4846e6eeaaf2609e29101a66555da4b2da87774e554eb25af81a8", func := "coxswain/coxswainlaw12.EpochNone", spec := "epochNone", unfollowed := true, recurses := true, apart := false }
def EpochNoneSaid : Prop := epochNoneRow.holds Try.pinned (OpenSpec.ofChange epochNoneSpec)

/-- ITS FALSE NEIGHBOUR: 'it returns false'. Refute it at one input. -/
def epochNoneWrong : ChangeSpec := { name := "epochNone", fn := fun _ => fun
  | [d1, d2, d3] => { results := [.lit (.bool false)], args := [d1, d2, d3] }
  | _ => none }
def EpochNoneWrongFalsely : Prop := epochNoneRow.holds Try.pinned (OpenSpec.ofChange epochNoneWrong)

/-- 'coxswainlaw12.EpochSteps': WHATEVER THE INPUT: true; the input reads as it did. -/
def epochStepsSpec : ChangeSpec := { name := "epochSteps", fn := fun _ => fun
  | [d1, d2, d3, d4] => { results := [.lit (.bool true)], args := [d1, d2, d3, d4] }
  | _ => none }
def epochStepsRow : OpenClaim := { program := "ytjohihkbampbgaa", sum := "317fb366fec4846e6eeaaf2609e29101a66555da4b2da87774e554eb25af81a8", func := "coxswain/coxswainlaw12.EpochSteps", spec := "epochSteps", unfollowed := true, recurses := true, apart := false }
def EpochStepsSaid : Prop := epochStepsRow.holds Try.pinned (OpenSpec.ofChange epochStepsSpec)

/-- ITS FALSE NEIGHBOUR: 'it returns false'. Refute it at one input. -/
def epochStepsWrong : ChangeSpec := { name := "epochSteps", fn := fun _ => fun
  | [d1, d2, d3, d4] => { results := [.lit (.bool false)], args := [d1, d2, d3, d4] }
  | _ => none }
def EpochStepsWrongFalsely : Prop := epochStepsRow.holds Try.pinned (OpenSpec.ofChange epochStepsWrong)

/- THE SECOND FORM. 'bulk': how many values and letters a reading holds, each counted each time it is reached (what is shared counts as often as it is met; a slice's spare places count too). A statement '..UptoSaid' is the law's where the arguments, and the package variables that the reading takes, are together of bulk at most 1048576: NARROWER than '..Said'. Prove '..Said' where nothing that the law and all that it calls make is longer than what came in: it says more and counts as full. Else prove '..UptoSaid'. A law counts once. -/
mutual
def uptoBulk {H : Type} : DataW H → Nat
  | .lit (.string bytes) => bytes.length + 1
  | .lit _ => 1
  | .nil => 1
  | .ptr d => uptoBulk d + 1
  | .slice elems spare => uptoBulkAll elems + uptoBulkAll spare + 1
  | .agg parts => uptoBulkAll parts + 1
  | .iface _ d => uptoBulk d + 1
  | .map entries => uptoBulkEntries entries + 1
  | .held _ => 1
def uptoBulkAll {H : Type} : List (DataW H) → Nat
  | [] => 0
  | d :: r => uptoBulk d + uptoBulkAll r
def uptoBulkEntries {H : Type} : List (Lit × DataW H) → Nat
  | [] => 0
  | x :: r => uptoBulkEntry x + uptoBulkEntries r
def uptoBulkEntry {H : Type} : Lit × DataW H → Nat
  | (.string bytes, d) => bytes.length + uptoBulk d + 1
  | (_, d) => uptoBulk d + 1
 end
def uptoSmall : (H : Type) → List (DataW H) → Bool := fun _ ds => decide (uptoBulkAll ds ≤ 1048576)
def OpenSpec.upto (s : _root_.Go.ChangeSpec) : _root_.Go.OpenSpec := { _root_.Go.OpenSpec.ofChange s with cond := some uptoSmall }

/-- 'coxswainlaw23.GateNew', WHERE WHAT IT READS IS OF BULK AT MOST 1048576: true; the input reads as it did. -/
def gateNewUptoRow : OpenClaim := { program := "ytjohihkbampbgaa", sum := "317fb366fec4846e6eeaaf2609e29101a66555da4b2da87774e554eb25af81a8", func := "coxswain/coxswainlaw23.GateNew", spec := "gateNew", unfollowed := true, recurses := true, apart := false, narrowed := true }
def GateNewUptoSaid : Prop := gateNewUptoRow.holds Try.pinned (OpenSpec.upto gateNewSpec)

/-- 'coxswainlaw23.GateNone', WHERE WHAT IT READS IS OF BULK AT MOST 1048576: true; the input reads as it did. -/
def gateNoneUptoRow : OpenClaim := { program := "ytjohihkbampbgaa", sum := "317fb366fec4846e6eeaaf2609e29101a66555da4b2da87774e554eb25af81a8", func := "coxswain/coxswainlaw23.GateNone", spec := "gateNone", unfollowed := true, recurses := true, apart := false, narrowed := true }
def GateNoneUptoSaid : Prop := gateNoneUptoRow.holds Try.pinned (OpenSpec.upto gateNoneSpec)

/-- 'coxswainlaw23.GateKnown', WHERE WHAT IT READS IS OF BULK AT MOST 1048576: true; the input reads as it did. -/
def gateKnownUptoRow : OpenClaim := { program := "ytjohihkbampbgaa", sum := "317fb366fec4846e6eeaaf2609e29101a66555da4b2da87774e554eb25af81a8", func := "coxswain/coxswainlaw23.GateKnown", spec := "gateKnown", unfollowed := true, recurses := true, apart := false, narrowed := true }
def GateKnownUptoSaid : Prop := gateKnownUptoRow.holds Try.pinned (OpenSpec.upto gateKnownSpec)

/-- 'coxswainlaw23.GateApart', WHERE WHAT IT READS IS OF BULK AT MOST 1048576: true; the input reads as it did. -/
def gateApartUptoRow : OpenClaim := { program := "ytjohihkbampbgaa", sum := "317fb366fec4846e6eeaaf2609e29101a66555da4b2da87774e554eb25af81a8", func := "coxswain/coxswainlaw23.GateApart", spec := "gateApart", unfollowed := true, recurses := true, apart := false, narrowed := true }
def GateApartUptoSaid : Prop := gateApartUptoRow.holds Try.pinned (OpenSpec.upto gateApartSpec)

/-- 'coxswainlaw23.GateRises', WHERE WHAT IT READS IS OF BULK AT MOST 1048576: true; the input reads as it did. -/
def gateRisesUptoRow : OpenClaim := { program := "ytjohihkbampbgaa", sum := "317fb366fec4846e6eeaaf2609e29101a66555da4b2da87774e554eb25af81a8", func := "coxswain/coxswainlaw23.GateRises", spec := "gateRises", unfollowed := true, recurses := true, apart := false, narrowed := true }
def GateRisesUptoSaid : Prop := gateRisesUptoRow.holds Try.pinned (OpenSpec.upto gateRisesSpec)

/-- 'coxswainlaw23.GateSteps', WHERE WHAT IT READS IS OF BULK AT MOST 1048576: true; the input reads as it did. -/
def gateStepsUptoRow : OpenClaim := { program := "ytjohihkbampbgaa", sum := "317fb366fec4846e6eeaaf2609e29101a66555da4b2da87774e554eb25af81a8", func := "coxswain/coxswainlaw23.GateSteps", spec := "gateSteps", unfollowed := true, recurses := true, apart := false, narrowed := true }
def GateStepsUptoSaid : Prop := gateStepsUptoRow.holds Try.pinned (OpenSpec.upto gateStepsSpec)

/-- 'coxswainlaw12.EpochKnown', WHERE WHAT IT READS IS OF BULK AT MOST 1048576: true; the input reads as it did. -/
def epochKnownUptoRow : OpenClaim := { program := "ytjohihkbampbgaa", sum := "317fb366fec4846e6eeaaf2609e29101a66555da4b2da87774e554eb25af81a8", func := "coxswain/coxswainlaw12.EpochKnown", spec := "epochKnown", unfollowed := true, recurses := true, apart := false, narrowed := true }
def EpochKnownUptoSaid : Prop := epochKnownUptoRow.holds Try.pinned (OpenSpec.upto epochKnownSpec)

/-- 'coxswainlaw12.EpochGuards', WHERE WHAT IT READS IS OF BULK AT MOST 1048576: true; the input reads as it did. -/
def epochGuardsUptoRow : OpenClaim := { program := "ytjohihkbampbgaa", sum := "317fb366fec4846e6eeaaf2609e29101a66555da4b2da87774e554eb25af81a8", func := "coxswain/coxswainlaw12.EpochGuards", spec := "epochGuards", unfollowed := true, recurses := true, apart := false, narrowed := true }
def EpochGuardsUptoSaid : Prop := epochGuardsUptoRow.holds Try.pinned (OpenSpec.upto epochGuardsSpec)

/-- 'coxswainlaw12.EpochAlone', WHERE WHAT IT READS IS OF BULK AT MOST 1048576: true; the input reads as it did. -/
def epochAloneUptoRow : OpenClaim := { program := "ytjohihkbampbgaa", sum := "317fb366fec4846e6eeaaf2609e29101a66555da4b2da87774e554eb25af81a8", func := "coxswain/coxswainlaw12.EpochAlone", spec := "epochAlone", unfollowed := true, recurses := true, apart := false, narrowed := true }
def EpochAloneUptoSaid : Prop := epochAloneUptoRow.holds Try.pinned (OpenSpec.upto epochAloneSpec)

/-- 'coxswainlaw12.EpochNone', WHERE WHAT IT READS IS OF BULK AT MOST 1048576: true; the input reads as it did. -/
def epochNoneUptoRow : OpenClaim := { program := "ytjohihkbampbgaa", sum := "317fb366fec4846e6eeaaf2609e29101a66555da4b2da87774e554eb25af81a8", func := "coxswain/coxswainlaw12.EpochNone", spec := "epochNone", unfollowed := true, recurses := true, apart := false, narrowed := true }
def EpochNoneUptoSaid : Prop := epochNoneUptoRow.holds Try.pinned (OpenSpec.upto epochNoneSpec)

/-- 'coxswainlaw12.EpochSteps', WHERE WHAT IT READS IS OF BULK AT MOST 1048576: true; the input reads as it did. -/
def epochStepsUptoRow : OpenClaim := { program := "ytjohihkbampbgaa", sum := "317fb366fec4846e6eeaaf2609e29101a66555da4b2da87774e554eb25af81a8", func := "coxswain/coxswainlaw12.EpochSteps", spec := "epochSteps", unfollowed := true, recurses := true, apart := false, narrowed := true }
def EpochStepsUptoSaid : Prop := epochStepsUptoRow.holds Try.pinned (OpenSpec.upto epochStepsSpec)

end Rows
end Go.Proofs.Ytjohihkbampbgaa
