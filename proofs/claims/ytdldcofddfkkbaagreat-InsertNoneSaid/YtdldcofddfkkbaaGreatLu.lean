/- A number from 0 to 8, by any number: contract; functions of one number whose other numbers are all known. -/
import Derived.Test.YtdldcofddfkkbaaGreatLt
namespace Go.Proofs.YtdldcofddfkkbaaGreat
set_option linter.unusedVariables false
set_option linter.unusedSimpArgs false
set_option linter.unusedSectionVars false
open Go Go.RowKit

def mayP (ins outs : List (EV U)) : Prop := ∃ j : Nat, j < 9 ∧ outs = [.i j]
def cPick9 : Ctr U :=
  { fn := 21, nin := 1, args := [.int .i64 (.var 0), .int .i64 (.lit 9)], heap := [], pre := fun ins => ∃ a, ins = [.i a]
    nout := 1, out := fun _ => [], ret := .int .i64 (.var 1), post := [], rel := some mayP }
def tPick9 : Tree := (.br (.cmp .lss (.bin .rem .i64 (.var 0) (.lit 9)) (.lit 0))
 (.ret [.ex (.bin .add .i64 (.bin .rem .i64 (.var 0) (.lit 9)) (.lit 9))])
 (.ret [.ex (.bin .rem .i64 (.var 0) (.lit 9))]))
theorem rPick9 : runCtr (cx Tryz.prog []) 20 cPick9 [] [] = tPick9 := by kernel_rfl
theorem vPick9 (P : Program) : ∀ ins, ins.length = cPick9.nin → cPick9.pre ins → tPick9.sat (cx P []) (ctrR cPick9) ins := by
  rintro ins _ ⟨x, rfl⟩
  have h := Int.tmod_lt_of_pos x (show (0 : Int) < 9 by omega)
  have h1 : -9 < x.tmod 9 := by
    have := Int.tmod_lt_of_pos (-x) (show (0 : Int) < 9 by omega)
    rw [Int.neg_tmod] at this
    omega
  simp only [tPick9, Tree.sat, Bx.den, Ex.den, Bnd.den, gI, List.map_cons, List.map_nil, List.getElem?_cons_zero, binDen, cmpDen, ctrR, Ctr.may, cPick9, mayP]
  refine ⟨fun hc => ?_, fun hc => ?_⟩
  · have hc := of_decide_eq_true hc
    refine ⟨(x.tmod 9 + 9).toNat, by omega, ?_⟩
    rw [wrap_small (n := x.tmod 9 + 9) (by omega) (by omega)]
    congr 2
    omega
  · have hc := of_decide_eq_false hc
    refine ⟨(x.tmod 9).toNat, by omega, ?_⟩
    congr 2
    omega
theorem hPick9 : cPick9.Holds objs Tryz.prog := runCtr_holdsm (X := cx Tryz.prog []) (fuel := 20) (opens := []) (folds := []) objsOk mixed noCts (callable _ Tryz.func21 (by kernel_rfl) (by kernel_rfl)) (by rintro ins outs _ _ ⟨j, _, rfl⟩; rfl) (by rw [rPick9]; exact vPick9 _)

/-- a function of one number that answers true -/
def boolC1 (f : FuncId) : Ctr U := { fn := f, nin := 1, args := [.int .i64 (.var 0)], heap := [], pre := fun ins => ∃ a, ins = [.i a], nout := 1, out := fun _ => [.b true], ret := .bool (.var 1), post := [] }
def cxU (P : Program) (ls : List Lit) : Cx U := { cx P (cPick9 :: ls.map lit) with join := true, split := [(21, 9)] }
def preU (ci : Nat) (ins : List (EV U)) : Bool := match ci with | 0 => (match ins with | [.i _] => true | _ => false) | _ + 1 => ins.isEmpty
theorem preU_spec {ls : List Lit} : ∀ (ci : Nat) (c : Ctr U) (ins : List (EV U)), (cPick9 :: ls.map lit)[ci]? = some c → preU ci ins = true → c.pre ins := by
  intro ci c ins h hp
  match ci, h, hp with
  | 0, h, hp =>
    cases h
    unfold preU at hp
    simp only at hp
    split at hp
    · exact ⟨_, rfl⟩
    · cases hp
  | n + 1, h, hp => exact preL_spec (ls := ls) n c ins (by simpa using h) hp
theorem AllHold.ctsU {ls : List Lit} (h : AllHold ls) : ∀ (ci : Nat) (c : Ctr U), (cPick9 :: ls.map lit)[ci]? = some c → c.Holds objs Tryz.prog := by
  intro ci c hc
  match ci, hc with
  | 0, hc => cases hc; exact hPick9
  | n + 1, hc => exact h.cts n c (by simpa using hc)
theorem lit_rel (l : Lit) : (lit l).rel = none := by unfold lit; split <;> rfl
set_option maxRecDepth 100000 in
theorem root1 {ls : List Lit} {f : FuncId} (hcal : Callable Tryz.prog f) (hs : AllHold ls)
    (h : ∀ a cs, (runCtr (cxU Tryz.prog ls) 60 (boolC1 f) [] []).satC (cxU Tryz.prog ls) preU okL (fun _ o => oneB o) cs 0 [] [.i a] = true) : (boolC1 f).Holds objs Tryz.prog :=
  runCtr_holds (X := cxU Tryz.prog ls) (c := boolC1 f) (fuel := 60) (opens := []) (folds := []) objsOk mixed hs.ctsU hcal (by rintro ins _ ⟨a, rfl⟩; rfl)
    (by
      rintro ins _ ⟨a, rfl⟩
      refine satC_sound (RB := fun _ o => oneB o) (preB := preU) (okB := okL) ?_ ?_ ?_ _ 0 [] _ CapsOk.nil (h a) ?_
      · exact preU_spec (ls := ls)
      · exact okL_spec
      · intro e o ho
        exact oneB_spec ho
      · intro ci c r n hc hr hn ins outs ho
        match ci, hc with
        | 0, hc =>
          cases hc
          cases hr
          have : n = 9 := by simpa [cxU, assoc, cPick9] using hn.symm
          subst this
          exact ho
        | m + 1, hc =>
          have hc' : (ls.map lit)[m]? = some c := by simpa [cxU, cx] using hc
          rw [List.getElem?_map, Option.map_eq_some_iff] at hc'
          obtain ⟨l, _, rfl⟩ := hc'
          rw [lit_rel] at hr
          cases hr)
end Go.Proofs.YtdldcofddfkkbaaGreat
