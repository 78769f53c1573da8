/-
  No cell of these rows narrows 'for every input' (looked for: loops, veiled, ifaces, maps, wideKeys, modest, calm, conditions, laid).
  DERIVED. THE GIVEN ROWS OF THIS SEAT. 9 by the template 'for every input the law returns true; each argument reads behind the call as it read before'; 0 by the template 'total and deterministic' (their statements: YtbmbiiiacajolaaTotals.lean).
  GIVEN WITH THE SEED: the statements are not yours to turn. If you find one false, say at which input.
  Laid BY PROGRAM, IN A SANDBOX (cutbox-rows.mjs): the forced cells as the released guide's own fill.sh prints them over the translation 40dd19d57ddcf540… (all of the seat's roots in one cut). By AI agents, Wed Nov 11 2026. No macro, syntax, notation, axiom, sorry.
-/
import Derived.Test.YtbmbiiiacajolaaChecked
import GoSem.Claim
import GoSem.ClaimJoined
import GoSem.ClaimMapViews
import Derived.JoinedTies
import Derived.KernelRfl
namespace Go.Proofs.Ytbmbiiiacajolaa
/- THE CELL 'sum', in the pinned program and in every row, IS THE sha256 OF THE DUMP (.gsa) THAT YtbmbiiiacajolaaProg.lean LOADS. Nothing in Lean hashes anything: it is a label: what it is worth is what the hold of that sum in a sandbox is worth. -/
noncomputable def Try.pinned : Pinned := { name := "ytbmbiiiacajolaa", sum := "40dd19d57ddcf5400a112afb78b148fc0c6160a1dc7a63c7456e00c55cea5d33", checked := Try.checked }
namespace Rows
def none {H : Type} : Left H := { results := [], args := [] }

/-- 'coxswainlaw15.TowerPlaces': WHATEVER THE INPUT: true; the input reads as it did. -/
def towerPlacesSpec : ChangeSpec := { name := "towerPlaces", fn := fun _ => fun
  | [d1, d2, d3, d4, d5] => { results := [.lit (.bool true)], args := [d1, d2, d3, d4, d5] }
  | _ => none }
def towerPlacesRow : OpenClaim := { program := "ytbmbiiiacajolaa", sum := "40dd19d57ddcf5400a112afb78b148fc0c6160a1dc7a63c7456e00c55cea5d33", func := "coxswain/coxswainlaw15.TowerPlaces", spec := "towerPlaces", unfollowed := true, recurses := true, apart := false }
def TowerPlacesSaid : Prop := towerPlacesRow.holds Try.pinned (OpenSpec.ofChange towerPlacesSpec)

/-- ITS FALSE NEIGHBOUR: 'it returns false'. Refute it at one input. -/
def towerPlacesWrong : ChangeSpec := { name := "towerPlaces", fn := fun _ => fun
  | [d1, d2, d3, d4, d5] => { results := [.lit (.bool false)], args := [d1, d2, d3, d4, d5] }
  | _ => none }
def TowerPlacesWrongFalsely : Prop := towerPlacesRow.holds Try.pinned (OpenSpec.ofChange towerPlacesWrong)

/-- 'coxswainlaw15.TowerNone': WHATEVER THE INPUT: true; the input reads as it did. -/
def towerNoneSpec : ChangeSpec := { name := "towerNone", fn := fun _ => fun
  | [d] => { results := [.lit (.bool true)], args := [d] }
  | _ => none }
def towerNoneRow : OpenClaim := { program := "ytbmbiiiacajolaa", sum := "40dd19d57ddcf5400a112afb78b148fc0c6160a1dc7a63c7456e00c55cea5d33", func := "coxswain/coxswainlaw15.TowerNone", spec := "towerNone", unfollowed := true, recurses := true, apart := false }
def TowerNoneSaid : Prop := towerNoneRow.holds Try.pinned (OpenSpec.ofChange towerNoneSpec)

/-- ITS FALSE NEIGHBOUR: 'it returns false'. Refute it at one input. -/
def towerNoneWrong : ChangeSpec := { name := "towerNone", fn := fun _ => fun
  | [d] => { results := [.lit (.bool false)], args := [d] }
  | _ => none }
def TowerNoneWrongFalsely : Prop := towerNoneRow.holds Try.pinned (OpenSpec.ofChange towerNoneWrong)

/-- 'coxswainlaw16.FindNone': WHATEVER THE INPUT: true; the input reads as it did. -/
def findNoneSpec : ChangeSpec := { name := "findNone", fn := fun _ => fun
  | [d1, d2] => { results := [.lit (.bool true)], args := [d1, d2] }
  | _ => none }
def findNoneRow : OpenClaim := { program := "ytbmbiiiacajolaa", sum := "40dd19d57ddcf5400a112afb78b148fc0c6160a1dc7a63c7456e00c55cea5d33", func := "coxswain/coxswainlaw16.FindNone", spec := "findNone", unfollowed := true, recurses := true, apart := false }
def FindNoneSaid : Prop := findNoneRow.holds Try.pinned (OpenSpec.ofChange findNoneSpec)

/-- ITS FALSE NEIGHBOUR: 'it returns false'. Refute it at one input. -/
def findNoneWrong : ChangeSpec := { name := "findNone", fn := fun _ => fun
  | [d1, d2] => { results := [.lit (.bool false)], args := [d1, d2] }
  | _ => none }
def FindNoneWrongFalsely : Prop := findNoneRow.holds Try.pinned (OpenSpec.ofChange findNoneWrong)

/-- 'coxswainlaw16.FindKnown': WHATEVER THE INPUT: true; the input reads as it did. -/
def findKnownSpec : ChangeSpec := { name := "findKnown", fn := fun _ => fun
  | [] => { results := [.lit (.bool true)], args := [] }
  | _ => none }
def findKnownRow : OpenClaim := { program := "ytbmbiiiacajolaa", sum := "40dd19d57ddcf5400a112afb78b148fc0c6160a1dc7a63c7456e00c55cea5d33", func := "coxswain/coxswainlaw16.FindKnown", spec := "findKnown", unfollowed := true, recurses := true, apart := false }
def FindKnownSaid : Prop := findKnownRow.holds Try.pinned (OpenSpec.ofChange findKnownSpec)

/-- ITS FALSE NEIGHBOUR: 'it returns false'. Refute it at one input. -/
def findKnownWrong : ChangeSpec := { name := "findKnown", fn := fun _ => fun
  | [] => { results := [.lit (.bool false)], args := [] }
  | _ => none }
def FindKnownWrongFalsely : Prop := findKnownRow.holds Try.pinned (OpenSpec.ofChange findKnownWrong)

/-- 'coxswainlaw16.FindKeeps': WHATEVER THE INPUT: true; the input reads as it did. -/
def findKeepsSpec : ChangeSpec := { name := "findKeeps", fn := fun _ => fun
  | [d1, d2, d3] => { results := [.lit (.bool true)], args := [d1, d2, d3] }
  | _ => none }
def findKeepsRow : OpenClaim := { program := "ytbmbiiiacajolaa", sum := "40dd19d57ddcf5400a112afb78b148fc0c6160a1dc7a63c7456e00c55cea5d33", func := "coxswain/coxswainlaw16.FindKeeps", spec := "findKeeps", unfollowed := true, recurses := true, apart := false }
def FindKeepsSaid : Prop := findKeepsRow.holds Try.pinned (OpenSpec.ofChange findKeepsSpec)

/-- ITS FALSE NEIGHBOUR: 'it returns false'. Refute it at one input. -/
def findKeepsWrong : ChangeSpec := { name := "findKeeps", fn := fun _ => fun
  | [d1, d2, d3] => { results := [.lit (.bool false)], args := [d1, d2, d3] }
  | _ => none }
def FindKeepsWrongFalsely : Prop := findKeepsRow.holds Try.pinned (OpenSpec.ofChange findKeepsWrong)

/-- 'coxswainlaw15.TowerKnown': WHATEVER THE INPUT: true; the input reads as it did. -/
def towerKnownSpec : ChangeSpec := { name := "towerKnown", fn := fun _ => fun
  | [] => { results := [.lit (.bool true)], args := [] }
  | _ => none }
def towerKnownRow : OpenClaim := { program := "ytbmbiiiacajolaa", sum := "40dd19d57ddcf5400a112afb78b148fc0c6160a1dc7a63c7456e00c55cea5d33", func := "coxswain/coxswainlaw15.TowerKnown", spec := "towerKnown", unfollowed := true, recurses := true, apart := false }
def TowerKnownSaid : Prop := towerKnownRow.holds Try.pinned (OpenSpec.ofChange towerKnownSpec)

/-- ITS FALSE NEIGHBOUR: 'it returns false'. Refute it at one input. -/
def towerKnownWrong : ChangeSpec := { name := "towerKnown", fn := fun _ => fun
  | [] => { results := [.lit (.bool false)], args := [] }
  | _ => none }
def TowerKnownWrongFalsely : Prop := towerKnownRow.holds Try.pinned (OpenSpec.ofChange towerKnownWrong)

/-- 'coxswainlaw15.TowerApart': WHATEVER THE INPUT: true; the input reads as it did. -/
def towerApartSpec : ChangeSpec := { name := "towerApart", fn := fun _ => fun
  | [d1, d2] => { results := [.lit (.bool true)], args := [d1, d2] }
  | _ => none }
def towerApartRow : OpenClaim := { program := "ytbmbiiiacajolaa", sum := "40dd19d57ddcf5400a112afb78b148fc0c6160a1dc7a63c7456e00c55cea5d33", func := "coxswain/coxswainlaw15.TowerApart", spec := "towerApart", unfollowed := true, recurses := true, apart := false }
def TowerApartSaid : Prop := towerApartRow.holds Try.pinned (OpenSpec.ofChange towerApartSpec)

/-- ITS FALSE NEIGHBOUR: 'it returns false'. Refute it at one input. -/
def towerApartWrong : ChangeSpec := { name := "towerApart", fn := fun _ => fun
  | [d1, d2] => { results := [.lit (.bool false)], args := [d1, d2] }
  | _ => none }
def TowerApartWrongFalsely : Prop := towerApartRow.holds Try.pinned (OpenSpec.ofChange towerApartWrong)

/-- 'coxswainlaw15.TowerLevels': WHATEVER THE INPUT: true; the input reads as it did. -/
def towerLevelsSpec : ChangeSpec := { name := "towerLevels", fn := fun _ => fun
  | [d1, d2, d3] => { results := [.lit (.bool true)], args := [d1, d2, d3] }
  | _ => none }
def towerLevelsRow : OpenClaim := { program := "ytbmbiiiacajolaa", sum := "40dd19d57ddcf5400a112afb78b148fc0c6160a1dc7a63c7456e00c55cea5d33", func := "coxswain/coxswainlaw15.TowerLevels", spec := "towerLevels", unfollowed := true, recurses := true, apart := false }
def TowerLevelsSaid : Prop := towerLevelsRow.holds Try.pinned (OpenSpec.ofChange towerLevelsSpec)

/-- ITS FALSE NEIGHBOUR: 'it returns false'. Refute it at one input. -/
def towerLevelsWrong : ChangeSpec := { name := "towerLevels", fn := fun _ => fun
  | [d1, d2, d3] => { results := [.lit (.bool false)], args := [d1, d2, d3] }
  | _ => none }
def TowerLevelsWrongFalsely : Prop := towerLevelsRow.holds Try.pinned (OpenSpec.ofChange towerLevelsWrong)

/-- 'coxswainlaw15.TowerLays': WHATEVER THE INPUT: true; the input reads as it did. -/
def towerLaysSpec : ChangeSpec := { name := "towerLays", fn := fun _ => fun
  | [d1, d2, d3, d4] => { results := [.lit (.bool true)], args := [d1, d2, d3, d4] }
  | _ => none }
def towerLaysRow : OpenClaim := { program := "ytbmbiiiacajolaa", sum := "40dd19d57ddcf5400a112afb78b148fc0c6160a1dc7a63c7456e00c55cea5d33", func := "coxswain/coxswainlaw15.TowerLays", spec := "towerLays", unfollowed := true, recurses := true, apart := false }
def TowerLaysSaid : Prop := towerLaysRow.holds Try.pinned (OpenSpec.ofChange towerLaysSpec)

/-- ITS FALSE NEIGHBOUR: 'it returns false'. Refute it at one input. -/
def towerLaysWrong : ChangeSpec := { name := "towerLays", fn := fun _ => fun
  | [d1, d2, d3, d4] => { results := [.lit (.bool false)], args := [d1, d2, d3, d4] }
  | _ => none }
def TowerLaysWrongFalsely : Prop := towerLaysRow.holds Try.pinned (OpenSpec.ofChange towerLaysWrong)

/- THE SECOND FORM. 'bulk': how many values and letters a reading holds, each counted each time it is reached (what is shared counts as often as it is met; a slice's spare places count too). A statement '..UptoSaid' is the law's where the arguments, and the package variables that the reading takes, are together of bulk at most 1048576: NARROWER than '..Said'. Prove '..Said' where nothing that the law and all that it calls make is longer than what came in: it says more and counts as full. Else prove '..UptoSaid'. A law counts once. -/
mutual
def uptoBulk {H : Type} : DataW H → Nat
  | .lit (.string bytes) => bytes.length + 1
  | .lit _ => 1
  | .nil => 1
  | .ptr d => uptoBulk d + 1
  | .slice elems spare => uptoBulkAll elems + uptoBulkAll spare + 1
  | .agg parts => uptoBulkAll parts + 1
  | .iface _ d => uptoBulk d + 1
  | .map entries => uptoBulkEntries entries + 1
  | .held _ => 1
def uptoBulkAll {H : Type} : List (DataW H) → Nat
  | [] => 0
  | d :: r => uptoBulk d + uptoBulkAll r
def uptoBulkEntries {H : Type} : List (Lit × DataW H) → Nat
  | [] => 0
  | x :: r => uptoBulkEntry x + uptoBulkEntries r
def uptoBulkEntry {H : Type} : Lit × DataW H → Nat
  | (.string bytes, d) => bytes.length + uptoBulk d + 1
  | (_, d) => uptoBulk d + 1
 end
def uptoSmall : (H : Type) → List (DataW H) → Bool := fun _ ds => decide (uptoBulkAll ds ≤ 1048576)
def OpenSpec.upto (s : _root_.Go.ChangeSpec) : _root_.Go.OpenSpec := { _root_.Go.OpenSpec.ofChange s with cond := some uptoSmall }

/-- 'coxswainlaw15.TowerPlaces', WHERE WHAT IT READS IS OF BULK AT MOST 1048576: true; the input reads as it did. -/
def towerPlacesUptoRow : OpenClaim := { program := "ytbmbiiiacajolaa", sum := "40dd19d57ddcf5400a112afb78b148fc0c6160a1dc7a63c7456e00c55cea5d33", func := "coxswain/coxswainlaw15.TowerPlaces", spec := "towerPlaces", unfollowed := true, recurses := true, apart := false, narrowed := true }
def TowerPlacesUptoSaid : Prop := towerPlacesUptoRow.holds Try.pinned (OpenSpec.upto towerPlacesSpec)

/-- 'coxswainlaw15.TowerNone', WHERE WHAT IT READS IS OF BULK AT MOST 1048576: true; the input reads as it did. -/
def towerNoneUptoRow : OpenClaim := { program := "ytbmbiiiacajolaa", sum := "40dd19d57ddcf5400a112afb78b148fc0c6160a1dc7a63c7456e00c55cea5d33", func := "coxswain/coxswainlaw15.TowerNone", spec := "towerNone", unfollowed := true, recurses := true, apart := false, narrowed := true }
def TowerNoneUptoSaid : Prop := towerNoneUptoRow.holds Try.pinned (OpenSpec.upto towerNoneSpec)

/-- 'coxswainlaw16.FindNone', WHERE WHAT IT READS IS OF BULK AT MOST 1048576: true; the input reads as it did. -/
def findNoneUptoRow : OpenClaim := { program := "ytbmbiiiacajolaa", sum := "40dd19d57ddcf5400a112afb78b148fc0c6160a1dc7a63c7456e00c55cea5d33", func := "coxswain/coxswainlaw16.FindNone", spec := "findNone", unfollowed := true, recurses := true, apart := false, narrowed := true }
def FindNoneUptoSaid : Prop := findNoneUptoRow.holds Try.pinned (OpenSpec.upto findNoneSpec)

/-- 'coxswainlaw16.FindKnown', WHERE WHAT IT READS IS OF BULK AT MOST 1048576: true; the input reads as it did. -/
def findKnownUptoRow : OpenClaim := { program := "ytbmbiiiacajolaa", sum := "40dd19d57ddcf5400a112afb78b148fc0c6160a1dc7a63c7456e00c55cea5d33", func := "coxswain/coxswainlaw16.FindKnown", spec := "findKnown", unfollowed := true, recurses := true, apart := false, narrowed := true }
def FindKnownUptoSaid : Prop := findKnownUptoRow.holds Try.pinned (OpenSpec.upto findKnownSpec)

/-- 'coxswainlaw16.FindKeeps', WHERE WHAT IT READS IS OF BULK AT MOST 1048576: true; the input reads as it did. -/
def findKeepsUptoRow : OpenClaim := { program := "ytbmbiiiacajolaa", sum := "40dd19d57ddcf5400a112afb78b148fc0c6160a1dc7a63c7456e00c55cea5d33", func := "coxswain/coxswainlaw16.FindKeeps", spec := "findKeeps", unfollowed := true, recurses := true, apart := false, narrowed := true }
def FindKeepsUptoSaid : Prop := findKeepsUptoRow.holds Try.pinned (OpenSpec.upto findKeepsSpec)

/-- 'coxswainlaw15.TowerKnown', WHERE WHAT IT READS IS OF BULK AT MOST 1048576: true; the input reads as it did. -/
def towerKnownUptoRow : OpenClaim := { program := "ytbmbiiiacajolaa", sum := "40dd19d57ddcf5400a112afb78b148fc0c6160a1dc7a63c7456e00c55cea5d33", func := "coxswain/coxswainlaw15.TowerKnown", spec := "towerKnown", unfollowed := true, recurses := true, apart := false, narrowed := true }
def TowerKnownUptoSaid : Prop := towerKnownUptoRow.holds Try.pinned (OpenSpec.upto towerKnownSpec)

/-- 'coxswainlaw15.TowerApart', WHERE WHAT IT READS IS OF BULK AT MOST 1048576: true; the input reads as it did. -/
def towerApartUptoRow : OpenClaim := { program := "ytbmbiiiacajolaa", sum := "40dd19d57ddcf5400a112afb78b148fc0c6160a1dc7a63c7456e00c55cea5d33", func := "coxswain/coxswainlaw15.TowerApart", spec := "towerApart", unfollowed := true, recurses := true, apart := false, narrowed := true }
def TowerApartUptoSaid : Prop := towerApartUptoRow.holds Try.pinned (OpenSpec.upto towerApartSpec)

/-- 'coxswainlaw15.TowerLevels', WHERE WHAT IT READS IS OF BULK AT MOST 1048576: true; the input reads as it did. -/
def towerLevelsUptoRow : OpenClaim := { program := "ytbmbiiiacajolaa", sum := "40dd19d57ddcf5400a112afb78b148fc0c6160a1dc7a63c7456e00c55cea5d33", func := "coxswain/coxswainlaw15.TowerLevels", spec := "towerLevels", unfollowed := true, recurses := true, apart := false, narrowed := true }
def TowerLevelsUptoSaid : Prop := towerLevelsUptoRow.holds Try.pinned (OpenSpec.upto towerLevelsSpec)

/-- 'coxswainlaw15.TowerLays', WHERE WHAT IT READS IS OF BULK AT MOST 1048576: true; the input reads as it did. -/
def towerLaysUptoRow : OpenClaim := { program := "ytbmbiiiacajolaa", sum := "40dd19d57ddcf5400a112afb78b148fc0c6160a1dc7a63c7456e00c55cea5d33", func := "coxswain/coxswainlaw15.TowerLays", spec := "towerLays", unfollowed := true, recurses := true, apart := false, narrowed := true }
def TowerLaysUptoSaid : Prop := towerLaysUptoRow.holds Try.pinned (OpenSpec.upto towerLaysSpec)

end Rows
end Go.Proofs.Ytbmbiiiacajolaa
