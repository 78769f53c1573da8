/-
  No cell of these rows narrows 'for every input' (looked for: loops, veiled, ifaces, maps, wideKeys, modest, calm, conditions, laid).
  DERIVED. THE GIVEN ROWS OF THIS SEAT. 11 by the template 'for every input the law returns true; each argument reads behind the call as it read before'; 0 by the template 'total and deterministic' (their statements: YtbkaclkbjpdfnaaTotals.lean).
  GIVEN WITH THE SEED: the statements are not yours to turn. If you find one false, say at which input.
  Laid BY PROGRAM, IN A SANDBOX (cutbox-rows.mjs): the forced cells as the released guide's own fill.sh prints them over the translation afd11226c67fb1c9… (all of the seat's roots in one cut). By AI agents, Wed Nov 11 2026. No macro, syntax, notation, axiom, sorry.
-/
import Derived.Test.YtbkaclkbjpdfnaaChecked
import GoSem.Claim
import GoSem.ClaimJoined
import GoSem.ClaimMapViews
import Derived.JoinedTies
import Derived.KernelRfl
namespace Go.Proofs.Ytbkaclkbjpdfnaa
/- THE CELL 'sum', in the pinned program and in every row, IS THE sha256 OF THE DUMP (.gsa) THAT YtbkaclkbjpdfnaaProg.lean LOADS. Nothing in Lean hashes anything: it is a label: what it is worth is what the hold of that sum in a sandbox is worth. -/
noncomputable def Try.pinned : Pinned := { name := "ytbkaclkbjpdfnaa", sum := "afd11226c67fb1c9fbaca77555c5e4f185a47666f8ccbdbec352a967113dc203", checked := Try.checked }
namespace Rows
def none {H : Type} : Left H := { results := [], args := [] }

/-- 'coxswainlaw01.WordPuts': WHATEVER THE INPUT: true; the input reads as it did. -/
def wordPutsSpec : ChangeSpec := { name := "wordPuts", fn := fun _ => fun
  | [d1, d2, d3, d4] => { results := [.lit (.bool true)], args := [d1, d2, d3, d4] }
  | _ => none }
def wordPutsRow : OpenClaim := { program := "ytbkaclkbjpdfnaa", sum := "afd11226c67fb1c9fbaca77555c5e4f185a47666f8ccbdbec352a967113dc203", func := "coxswain/coxswainlaw01.WordPuts", spec := "wordPuts", apart := false }
def WordPutsSaid : Prop := wordPutsRow.holds Try.pinned (OpenSpec.ofChange wordPutsSpec)

/-- ITS FALSE NEIGHBOUR: 'it returns false'. Refute it at one input. -/
def wordPutsWrong : ChangeSpec := { name := "wordPuts", fn := fun _ => fun
  | [d1, d2, d3, d4] => { results := [.lit (.bool false)], args := [d1, d2, d3, d4] }
  | _ => none }
def WordPutsWrongFalsely : Prop := wordPutsRow.holds Try.pinned (OpenSpec.ofChange wordPutsWrong)

/-- 'coxswainlaw02.CellsKnown': WHATEVER THE INPUT: true; the input reads as it did. -/
def cellsKnownSpec : ChangeSpec := { name := "cellsKnown", fn := fun _ => fun
  | [] => { results := [.lit (.bool true)], args := [] }
  | _ => none }
def cellsKnownRow : OpenClaim := { program := "ytbkaclkbjpdfnaa", sum := "afd11226c67fb1c9fbaca77555c5e4f185a47666f8ccbdbec352a967113dc203", func := "coxswain/coxswainlaw02.CellsKnown", spec := "cellsKnown", unfollowed := true, recurses := true, apart := false }
def CellsKnownSaid : Prop := cellsKnownRow.holds Try.pinned (OpenSpec.ofChange cellsKnownSpec)

/-- ITS FALSE NEIGHBOUR: 'it returns false'. Refute it at one input. -/
def cellsKnownWrong : ChangeSpec := { name := "cellsKnown", fn := fun _ => fun
  | [] => { results := [.lit (.bool false)], args := [] }
  | _ => none }
def CellsKnownWrongFalsely : Prop := cellsKnownRow.holds Try.pinned (OpenSpec.ofChange cellsKnownWrong)

/-- 'coxswainlaw02.CellsOwn': WHATEVER THE INPUT: true; the input reads as it did. -/
def cellsOwnSpec : ChangeSpec := { name := "cellsOwn", fn := fun _ => fun
  | [d1, d2] => { results := [.lit (.bool true)], args := [d1, d2] }
  | _ => none }
def cellsOwnRow : OpenClaim := { program := "ytbkaclkbjpdfnaa", sum := "afd11226c67fb1c9fbaca77555c5e4f185a47666f8ccbdbec352a967113dc203", func := "coxswain/coxswainlaw02.CellsOwn", spec := "cellsOwn", unfollowed := true, recurses := true, apart := false }
def CellsOwnSaid : Prop := cellsOwnRow.holds Try.pinned (OpenSpec.ofChange cellsOwnSpec)

/-- ITS FALSE NEIGHBOUR: 'it returns false'. Refute it at one input. -/
def cellsOwnWrong : ChangeSpec := { name := "cellsOwn", fn := fun _ => fun
  | [d1, d2] => { results := [.lit (.bool false)], args := [d1, d2] }
  | _ => none }
def CellsOwnWrongFalsely : Prop := cellsOwnRow.holds Try.pinned (OpenSpec.ofChange cellsOwnWrong)

/-- 'coxswainlaw02.CellsActs': WHATEVER THE INPUT: true; the input reads as it did. -/
def cellsActsSpec : ChangeSpec := { name := "cellsActs", fn := fun _ => fun
  | [d1, d2] => { results := [.lit (.bool true)], args := [d1, d2] }
  | _ => none }
def cellsActsRow : OpenClaim := { program := "ytbkaclkbjpdfnaa", sum := "afd11226c67fb1c9fbaca77555c5e4f185a47666f8ccbdbec352a967113dc203", func := "coxswain/coxswainlaw02.CellsActs", spec := "cellsActs", unfollowed := true, recurses := true, apart := false }
def CellsActsSaid : Prop := cellsActsRow.holds Try.pinned (OpenSpec.ofChange cellsActsSpec)

/-- ITS FALSE NEIGHBOUR: 'it returns false'. Refute it at one input. -/
def cellsActsWrong : ChangeSpec := { name := "cellsActs", fn := fun _ => fun
  | [d1, d2] => { results := [.lit (.bool false)], args := [d1, d2] }
  | _ => none }
def CellsActsWrongFalsely : Prop := cellsActsRow.holds Try.pinned (OpenSpec.ofChange cellsActsWrong)

/-- 'coxswainlaw02.CellsNone': WHATEVER THE INPUT: true; the input reads as it did. -/
def cellsNoneSpec : ChangeSpec := { name := "cellsNone", fn := fun _ => fun
  | [d1, d2, d3] => { results := [.lit (.bool true)], args := [d1, d2, d3] }
  | _ => none }
def cellsNoneRow : OpenClaim := { program := "ytbkaclkbjpdfnaa", sum := "afd11226c67fb1c9fbaca77555c5e4f185a47666f8ccbdbec352a967113dc203", func := "coxswain/coxswainlaw02.CellsNone", spec := "cellsNone", unfollowed := true, recurses := true, apart := false }
def CellsNoneSaid : Prop := cellsNoneRow.holds Try.pinned (OpenSpec.ofChange cellsNoneSpec)

/-- ITS FALSE NEIGHBOUR: 'it returns false'. Refute it at one input. -/
def cellsNoneWrong : ChangeSpec := { name := "cellsNone", fn := fun _ => fun
  | [d1, d2, d3] => { results := [.lit (.bool false)], args := [d1, d2, d3] }
  | _ => none }
def CellsNoneWrongFalsely : Prop := cellsNoneRow.holds Try.pinned (OpenSpec.ofChange cellsNoneWrong)

/-- 'coxswainlaw02.CellsCopies': WHATEVER THE INPUT: true; the input reads as it did. -/
def cellsCopiesSpec : ChangeSpec := { name := "cellsCopies", fn := fun _ => fun
  | [d1, d2, d3, d4] => { results := [.lit (.bool true)], args := [d1, d2, d3, d4] }
  | _ => none }
def cellsCopiesRow : OpenClaim := { program := "ytbkaclkbjpdfnaa", sum := "afd11226c67fb1c9fbaca77555c5e4f185a47666f8ccbdbec352a967113dc203", func := "coxswain/coxswainlaw02.CellsCopies", spec := "cellsCopies", unfollowed := true, recurses := true, apart := false }
def CellsCopiesSaid : Prop := cellsCopiesRow.holds Try.pinned (OpenSpec.ofChange cellsCopiesSpec)

/-- ITS FALSE NEIGHBOUR: 'it returns false'. Refute it at one input. -/
def cellsCopiesWrong : ChangeSpec := { name := "cellsCopies", fn := fun _ => fun
  | [d1, d2, d3, d4] => { results := [.lit (.bool false)], args := [d1, d2, d3, d4] }
  | _ => none }
def CellsCopiesWrongFalsely : Prop := cellsCopiesRow.holds Try.pinned (OpenSpec.ofChange cellsCopiesWrong)

/-- 'coxswainlaw01.WordKnown': WHATEVER THE INPUT: true; the input reads as it did. -/
def wordKnownSpec : ChangeSpec := { name := "wordKnown", fn := fun _ => fun
  | [] => { results := [.lit (.bool true)], args := [] }
  | _ => none }
def wordKnownRow : OpenClaim := { program := "ytbkaclkbjpdfnaa", sum := "afd11226c67fb1c9fbaca77555c5e4f185a47666f8ccbdbec352a967113dc203", func := "coxswain/coxswainlaw01.WordKnown", spec := "wordKnown", apart := false }
def WordKnownSaid : Prop := wordKnownRow.holds Try.pinned (OpenSpec.ofChange wordKnownSpec)

/-- ITS FALSE NEIGHBOUR: 'it returns false'. Refute it at one input. -/
def wordKnownWrong : ChangeSpec := { name := "wordKnown", fn := fun _ => fun
  | [] => { results := [.lit (.bool false)], args := [] }
  | _ => none }
def WordKnownWrongFalsely : Prop := wordKnownRow.holds Try.pinned (OpenSpec.ofChange wordKnownWrong)

/-- 'coxswainlaw01.WordSooner': WHATEVER THE INPUT: true; the input reads as it did. -/
def wordSoonerSpec : ChangeSpec := { name := "wordSooner", fn := fun _ => fun
  | [d1, d2] => { results := [.lit (.bool true)], args := [d1, d2] }
  | _ => none }
def wordSoonerRow : OpenClaim := { program := "ytbkaclkbjpdfnaa", sum := "afd11226c67fb1c9fbaca77555c5e4f185a47666f8ccbdbec352a967113dc203", func := "coxswain/coxswainlaw01.WordSooner", spec := "wordSooner", apart := false }
def WordSoonerSaid : Prop := wordSoonerRow.holds Try.pinned (OpenSpec.ofChange wordSoonerSpec)

/-- ITS FALSE NEIGHBOUR: 'it returns false'. Refute it at one input. -/
def wordSoonerWrong : ChangeSpec := { name := "wordSooner", fn := fun _ => fun
  | [d1, d2] => { results := [.lit (.bool false)], args := [d1, d2] }
  | _ => none }
def WordSoonerWrongFalsely : Prop := wordSoonerRow.holds Try.pinned (OpenSpec.ofChange wordSoonerWrong)

/-- 'coxswainlaw01.WordGets': WHATEVER THE INPUT: true; the input reads as it did. -/
def wordGetsSpec : ChangeSpec := { name := "wordGets", fn := fun _ => fun
  | [d1, d2] => { results := [.lit (.bool true)], args := [d1, d2] }
  | _ => none }
def wordGetsRow : OpenClaim := { program := "ytbkaclkbjpdfnaa", sum := "afd11226c67fb1c9fbaca77555c5e4f185a47666f8ccbdbec352a967113dc203", func := "coxswain/coxswainlaw01.WordGets", spec := "wordGets", apart := false }
def WordGetsSaid : Prop := wordGetsRow.holds Try.pinned (OpenSpec.ofChange wordGetsSpec)

/-- ITS FALSE NEIGHBOUR: 'it returns false'. Refute it at one input. -/
def wordGetsWrong : ChangeSpec := { name := "wordGets", fn := fun _ => fun
  | [d1, d2] => { results := [.lit (.bool false)], args := [d1, d2] }
  | _ => none }
def WordGetsWrongFalsely : Prop := wordGetsRow.holds Try.pinned (OpenSpec.ofChange wordGetsWrong)

/-- 'coxswainlaw01.WordBack': WHATEVER THE INPUT: true; the input reads as it did. -/
def wordBackSpec : ChangeSpec := { name := "wordBack", fn := fun _ => fun
  | [d1, d2, d3, d4, d5, d6] => { results := [.lit (.bool true)], args := [d1, d2, d3, d4, d5, d6] }
  | _ => none }
def wordBackRow : OpenClaim := { program := "ytbkaclkbjpdfnaa", sum := "afd11226c67fb1c9fbaca77555c5e4f185a47666f8ccbdbec352a967113dc203", func := "coxswain/coxswainlaw01.WordBack", spec := "wordBack", apart := false }
def WordBackSaid : Prop := wordBackRow.holds Try.pinned (OpenSpec.ofChange wordBackSpec)

/-- ITS FALSE NEIGHBOUR: 'it returns false'. Refute it at one input. -/
def wordBackWrong : ChangeSpec := { name := "wordBack", fn := fun _ => fun
  | [d1, d2, d3, d4, d5, d6] => { results := [.lit (.bool false)], args := [d1, d2, d3, d4, d5, d6] }
  | _ => none }
def WordBackWrongFalsely : Prop := wordBackRow.holds Try.pinned (OpenSpec.ofChange wordBackWrong)

/-- 'coxswainlaw01.WordOne': WHATEVER THE INPUT: true; the input reads as it did. -/
def wordOneSpec : ChangeSpec := { name := "wordOne", fn := fun _ => fun
  | [d] => { results := [.lit (.bool true)], args := [d] }
  | _ => none }
def wordOneRow : OpenClaim := { program := "ytbkaclkbjpdfnaa", sum := "afd11226c67fb1c9fbaca77555c5e4f185a47666f8ccbdbec352a967113dc203", func := "coxswain/coxswainlaw01.WordOne", spec := "wordOne", apart := false }
def WordOneSaid : Prop := wordOneRow.holds Try.pinned (OpenSpec.ofChange wordOneSpec)

/-- ITS FALSE NEIGHBOUR: 'it returns false'. Refute it at one input. -/
def wordOneWrong : ChangeSpec := { name := "wordOne", fn := fun _ => fun
  | [d] => { results := [.lit (.bool false)], args := [d] }
  | _ => none }
def WordOneWrongFalsely : Prop := wordOneRow.holds Try.pinned (OpenSpec.ofChange wordOneWrong)

/- THE SECOND FORM. 'bulk': how many values and letters a reading holds, each counted each time it is reached (what is shared counts as often as it is met; a slice's spare places count too). A statement '..UptoSaid' is the law's where the arguments, and the package variables that the reading takes, are together of bulk at most 1048576: NARROWER than '..Said'. Prove '..Said' where nothing that the law and all that it calls make is longer than what came in: it says more and counts as full. Else prove '..UptoSaid'. A law counts once. -/
mutual
def uptoBulk {H : Type} : DataW H → Nat
  | .lit (.string bytes) => bytes.length + 1
  | .lit _ => 1
  | .nil => 1
  | .ptr d => uptoBulk d + 1
  | .slice elems spare => uptoBulkAll elems + uptoBulkAll spare + 1
  | .agg parts => uptoBulkAll parts + 1
  | .iface _ d => uptoBulk d + 1
  | .map entries => uptoBulkEntries entries + 1
  | .held _ => 1
def uptoBulkAll {H : Type} : List (DataW H) → Nat
  | [] => 0
  | d :: r => uptoBulk d + uptoBulkAll r
def uptoBulkEntries {H : Type} : List (Lit × DataW H) → Nat
  | [] => 0
  | x :: r => uptoBulkEntry x + uptoBulkEntries r
def uptoBulkEntry {H : Type} : Lit × DataW H → Nat
  | (.string bytes, d) => bytes.length + uptoBulk d + 1
  | (_, d) => uptoBulk d + 1
 end
def uptoSmall : (H : Type) → List (DataW H) → Bool := fun _ ds => decide (uptoBulkAll ds ≤ 1048576)
def OpenSpec.upto (s : _root_.Go.ChangeSpec) : _root_.Go.OpenSpec := { _root_.Go.OpenSpec.ofChange s with cond := some uptoSmall }

/-- 'coxswainlaw01.WordPuts', WHERE WHAT IT READS IS OF BULK AT MOST 1048576: true; the input reads as it did. -/
def wordPutsUptoRow : OpenClaim := { program := "ytbkaclkbjpdfnaa", sum := "afd11226c67fb1c9fbaca77555c5e4f185a47666f8ccbdbec352a967113dc203", func := "coxswain/coxswainlaw01.WordPuts", spec := "wordPuts", apart := false, narrowed := true }
def WordPutsUptoSaid : Prop := wordPutsUptoRow.holds Try.pinned (OpenSpec.upto wordPutsSpec)

/-- 'coxswainlaw02.CellsKnown', WHERE WHAT IT READS IS OF BULK AT MOST 1048576: true; the input reads as it did. -/
def cellsKnownUptoRow : OpenClaim := { program := "ytbkaclkbjpdfnaa", sum := "afd11226c67fb1c9fbaca77555c5e4f185a47666f8ccbdbec352a967113dc203", func := "coxswain/coxswainlaw02.CellsKnown", spec := "cellsKnown", unfollowed := true, recurses := true, apart := false, narrowed := true }
def CellsKnownUptoSaid : Prop := cellsKnownUptoRow.holds Try.pinned (OpenSpec.upto cellsKnownSpec)

/-- 'coxswainlaw02.CellsOwn', WHERE WHAT IT READS IS OF BULK AT MOST 1048576: true; the input reads as it did. -/
def cellsOwnUptoRow : OpenClaim := { program := "ytbkaclkbjpdfnaa", sum := "afd11226c67fb1c9fbaca77555c5e4f185a47666f8ccbdbec352a967113dc203", func := "coxswain/coxswainlaw02.CellsOwn", spec := "cellsOwn", unfollowed := true, recurses := true, apart := false, narrowed := true }
def CellsOwnUptoSaid : Prop := cellsOwnUptoRow.holds Try.pinned (OpenSpec.upto cellsOwnSpec)

/-- 'coxswainlaw02.CellsActs', WHERE WHAT IT READS IS OF BULK AT MOST 1048576: true; the input reads as it did. -/
def cellsActsUptoRow : OpenClaim := { program := "ytbkaclkbjpdfnaa", sum := "afd11226c67fb1c9fbaca77555c5e4f185a47666f8ccbdbec352a967113dc203", func := "coxswain/coxswainlaw02.CellsActs", spec := "cellsActs", unfollowed := true, recurses := true, apart := false, narrowed := true }
def CellsActsUptoSaid : Prop := cellsActsUptoRow.holds Try.pinned (OpenSpec.upto cellsActsSpec)

/-- 'coxswainlaw02.CellsNone', WHERE WHAT IT READS IS OF BULK AT MOST 1048576: true; the input reads as it did. -/
def cellsNoneUptoRow : OpenClaim := { program := "ytbkaclkbjpdfnaa", sum := "afd11226c67fb1c9fbaca77555c5e4f185a47666f8ccbdbec352a967113dc203", func := "coxswain/coxswainlaw02.CellsNone", spec := "cellsNone", unfollowed := true, recurses := true, apart := false, narrowed := true }
def CellsNoneUptoSaid : Prop := cellsNoneUptoRow.holds Try.pinned (OpenSpec.upto cellsNoneSpec)

/-- 'coxswainlaw02.CellsCopies', WHERE WHAT IT READS IS OF BULK AT MOST 1048576: true; the input reads as it did. -/
def cellsCopiesUptoRow : OpenClaim := { program := "ytbkaclkbjpdfnaa", sum := "afd11226c67fb1c9fbaca77555c5e4f185a47666f8ccbdbec352a967113dc203", func := "coxswain/coxswainlaw02.CellsCopies", spec := "cellsCopies", unfollowed := true, recurses := true, apart := false, narrowed := true }
def CellsCopiesUptoSaid : Prop := cellsCopiesUptoRow.holds Try.pinned (OpenSpec.upto cellsCopiesSpec)

/-- 'coxswainlaw01.WordKnown', WHERE WHAT IT READS IS OF BULK AT MOST 1048576: true; the input reads as it did. -/
def wordKnownUptoRow : OpenClaim := { program := "ytbkaclkbjpdfnaa", sum := "afd11226c67fb1c9fbaca77555c5e4f185a47666f8ccbdbec352a967113dc203", func := "coxswain/coxswainlaw01.WordKnown", spec := "wordKnown", apart := false, narrowed := true }
def WordKnownUptoSaid : Prop := wordKnownUptoRow.holds Try.pinned (OpenSpec.upto wordKnownSpec)

/-- 'coxswainlaw01.WordSooner', WHERE WHAT IT READS IS OF BULK AT MOST 1048576: true; the input reads as it did. -/
def wordSoonerUptoRow : OpenClaim := { program := "ytbkaclkbjpdfnaa", sum := "afd11226c67fb1c9fbaca77555c5e4f185a47666f8ccbdbec352a967113dc203", func := "coxswain/coxswainlaw01.WordSooner", spec := "wordSooner", apart := false, narrowed := true }
def WordSoonerUptoSaid : Prop := wordSoonerUptoRow.holds Try.pinned (OpenSpec.upto wordSoonerSpec)

/-- 'coxswainlaw01.WordGets', WHERE WHAT IT READS IS OF BULK AT MOST 1048576: true; the input reads as it did. -/
def wordGetsUptoRow : OpenClaim := { program := "ytbkaclkbjpdfnaa", sum := "afd11226c67fb1c9fbaca77555c5e4f185a47666f8ccbdbec352a967113dc203", func := "coxswain/coxswainlaw01.WordGets", spec := "wordGets", apart := false, narrowed := true }
def WordGetsUptoSaid : Prop := wordGetsUptoRow.holds Try.pinned (OpenSpec.upto wordGetsSpec)

/-- 'coxswainlaw01.WordBack', WHERE WHAT IT READS IS OF BULK AT MOST 1048576: true; the input reads as it did. -/
def wordBackUptoRow : OpenClaim := { program := "ytbkaclkbjpdfnaa", sum := "afd11226c67fb1c9fbaca77555c5e4f185a47666f8ccbdbec352a967113dc203", func := "coxswain/coxswainlaw01.WordBack", spec := "wordBack", apart := false, narrowed := true }
def WordBackUptoSaid : Prop := wordBackUptoRow.holds Try.pinned (OpenSpec.upto wordBackSpec)

/-- 'coxswainlaw01.WordOne', WHERE WHAT IT READS IS OF BULK AT MOST 1048576: true; the input reads as it did. -/
def wordOneUptoRow : OpenClaim := { program := "ytbkaclkbjpdfnaa", sum := "afd11226c67fb1c9fbaca77555c5e4f185a47666f8ccbdbec352a967113dc203", func := "coxswain/coxswainlaw01.WordOne", spec := "wordOne", apart := false, narrowed := true }
def WordOneUptoSaid : Prop := wordOneUptoRow.holds Try.pinned (OpenSpec.upto wordOneSpec)

end Rows
end Go.Proofs.Ytbkaclkbjpdfnaa
