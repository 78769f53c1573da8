/- Texts of this proof. -/
import Derived.Test.YtbmbiiiacajolaaB1K
import Derived.Test.YtbmbiiiacajolaaB2K
namespace Go.Proofs.Ytbmbiiiacajolaa
set_option linter.unusedVariables false
set_option linter.unusedSimpArgs false
set_option linter.unusedSectionVars false
open Go Go.RowKit
structure Lit where
 fn : FuncId
 args : List SV
 heap : List HE
 ret : SV
 post : List HE
def boolC (f : FuncId) : Ctr U := { fn := f, nin := 0, args := [], heap := [], pre := fun ins => ins = [], nout := 1, out := fun _ => [.b true], ret := .bool (.var 0), post := [] }
def lit0 (l : Lit) : Ctr U := { fn := l.fn, nin := 0, args := l.args, heap := l.heap, pre := fun ins => ins = [], nout := 0, out := fun _ => [], ret := l.ret, post := l.post }
def Lit.told (l : Lit) : Bool := match l.ret with | .junk => true | _ => false
def lit (l : Lit) : Ctr U := match l.told with | true => boolC l.fn | false => lit0 l
theorem lit_eq {l : Lit} (h : l.told = false) : lit l = lit0 l := by unfold lit; rw [h]
def cxL (P : Program) (ls : List Lit) : Cx U := { cx P (ls.map lit) with join := true }
def preL (_ : Nat) (ins : List (EV U)) : Bool := ins.isEmpty
def okL (_ : Nat) (_ : List (EV U)) : Bool := false
def endL (_ : List (EV U)) (o : List (EV U)) : Bool := o.isEmpty
theorem preL_spec {ls : List Lit} : ∀ (ci : Nat) (c : Ctr U) (ins : List (EV U)), (ls.map lit)[ci]? = some c → preL ci ins = true → c.pre ins := by
 intro ci c ins h hp
 rw [List.getElem?_map, Option.map_eq_some_iff] at h
 obtain ⟨l, _, rfl⟩ := h
 have := List.isEmpty_iff.1 hp
 unfold lit
 split <;> exact this
theorem okL_spec : ∀ (m : Nat) (T : ObjT U) (ps : List (EV U)), objs[m]? = some T → okL m ps = true → T.ok ps := by
 intro m T ps _ h; cases h
def AllHold (ls : List Lit) : Prop := ∀ l ∈ ls, (lit l).Holds objs Try.prog
theorem all_nil : AllHold [] := by intro l h; simp at h
theorem all_cons {l : Lit} {ls : List Lit} (h : (lit l).Holds objs Try.prog) (hs : AllHold ls) : AllHold (l :: ls) := by
 intro x hx
 rcases List.mem_cons.1 hx with rfl | hx
 · exact h
 · exact hs x hx
theorem AllHold.cts {ls : List Lit} (h : AllHold ls) : ∀ (ci : Nat) (c : Ctr U), (ls.map lit)[ci]? = some c → c.Holds objs Try.prog := by
 intro ci c hc
 rw [List.getElem?_map, Option.map_eq_some_iff] at hc
 obtain ⟨l, hl, rfl⟩ := hc
 exact h l (List.mem_of_getElem? hl)
def runL (ls : List Lit) (l : Lit) : Prop := ∀ cs, (runCtr (cxL Try.prog ls) 60 (lit l) [] []).satC (cxL Try.prog ls) preL okL endL cs 0 [] [] = true
set_option maxRecDepth 100000 in
theorem lit_holds {ls : List Lit} {l : Lit} (hcal : Callable Try.prog l.fn) (hs : AllHold ls) (h : runL ls l) (ht : l.told = false := by rfl) : (lit l).Holds objs Try.prog := by
 unfold runL at h
 rw [lit_eq ht] at h ⊢
 exact runCtr_holds (X := cxL Try.prog ls) (c := lit0 l) (fuel := 60) (opens := []) (folds := []) objsOk mixed hs.cts hcal (by rintro ins _ rfl; rfl)
  (by
    rintro ins _ rfl
    refine satC_sound (RB := endL) (preB := preL) (okB := okL) ?_ ?_ ?_ _ 0 [] [] CapsOk.nil h
    · exact preL_spec (ls := ls)
    · exact okL_spec
    · intro e o ho
      have := List.isEmpty_iff.1 ho
      subst this
      rfl)
set_option maxRecDepth 100000 in
theorem lit_root {ls : List Lit} {f : FuncId} (hcal : Callable Try.prog f) (hs : AllHold ls)
 (h : ∀ cs, (runCtr (cxL Try.prog ls) 60 (boolC f) [] []).satC (cxL Try.prog ls) preL okL (fun _ o => oneB o) cs 0 [] [] = true) : (boolC f).Holds objs Try.prog :=
 runCtr_holds (X := cxL Try.prog ls) (c := boolC f) (fuel := 60) (opens := []) (folds := []) objsOk mixed hs.cts hcal (by rintro ins _ rfl; rfl)
  (by
    rintro ins _ rfl
    refine satC_sound (RB := fun _ o => oneB o) (preB := preL) (okB := okL) ?_ ?_ ?_ _ 0 [] [] CapsOk.nil h
    · exact preL_spec (ls := ls)
    · exact okL_spec
    · intro e o ho
      exact oneB_spec ho)
end Go.Proofs.Ytbmbiiiacajolaa
