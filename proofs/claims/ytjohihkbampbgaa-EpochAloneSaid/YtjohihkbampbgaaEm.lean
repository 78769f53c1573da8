/- Epochs: a crew's parts as contracts: busy, begins, steps, plays. -/
import Derived.Test.YtjohihkbampbgaaEl
namespace Go.Proofs.Ytjohihkbampbgaa
set_option linter.unusedVariables false
set_option linter.unusedSimpArgs false
set_option linter.unusedSectionVars false
open Go Go.RowKit

/-- a crew as numbers and objects -/
def crewL (M : MemSt) (a : Nat → Int) (o : Nat → CoreE) : List (EV U) := [.u (.mem M), .i (a 0), .i (a 1), .i (a 2), .u (coA (o 0)), .u (coA (o 1)), .u (coA (o 2)), .u (coC (o 0)), .u (coC (o 1)), .u (coC (o 2)), .u (coE (o 0)), .u (coE (o 1)), .u (coE (o 2))]
def coOf : EV U → EV U → EV U → CoreE
  | .u (.epin P), _, _ => .pin P
  | _, .u (.eunp P), _ => .unp P
  | _, _, .u (.eadv P) => .adv P
  | _, _, _ => .none
theorem coOf_co (x : CoreE) : coOf (.u (coA x)) (.u (coC x)) (.u (coE x)) = x := by cases x <;> rfl
def crewM (ins : List (EV U)) : MemSt := match ins with | .u (.mem M) :: _ => M | _ => ⟨[], 0, 0, 0, 0, false, 0⟩
def crewA (ins : List (EV U)) (d : Nat) : Int := gI ins (1 + d)
def crewO (ins : List (EV U)) (d : Nat) : CoreE := coOf (ins.getD (4 + d) (.i 0)) (ins.getD (7 + d) (.i 0)) (ins.getD (10 + d) (.i 0))
section
variable {M : MemSt} {a a' : Nat → Int} {o o' : Nat → CoreE} {l : List (EV U)} {c : Nat}
theorem crewM_L : crewM (crewL M a o ++ l) = M := rfl
theorem crewA_L (hc : c < 3) : crewA (crewL M a o ++ l) c = a c := by match c, hc with | 0, _ => rfl | 1, _ => rfl | 2, _ => rfl
theorem crewO_L (hc : c < 3) : crewO (crewL M a o ++ l) c = o c := by match c, hc with | 0, _ => exact coOf_co _ | 1, _ => exact coOf_co _ | 2, _ => exact coOf_co _
theorem crewL_congr (ha : ∀ d, d < 3 → a d = a' d) (ho : ∀ d, d < 3 → o d = o' d) : crewL M a o = crewL M a' o' := by
  unfold crewL
  rw [ha 0 (by decide), ha 1 (by decide), ha 2 (by decide), ho 0 (by decide), ho 1 (by decide), ho 2 (by decide)]
theorem gI13 {x : Int} : gI (crewL M a o ++ .i x :: l) 13 = x := rfl
end
def busyE : CoreE → Bool
  | .none => false
  | _ => true
def okE : CoreE → Prop
  | .none => True
  | .pin P => P.ok
  | .unp P => P.ok
  | .adv P => P.ok
/-- a step of a core: what it is within then, the memory, the epoch at which it is pinned, did an Advance end OK, was it fine -/
def actO (x : CoreE) (M : MemSt) (a : Int) : CoreE × MemSt × Int × Bool × Bool :=
  match x with
  | .none => (.none, M, a, false, true)
  | .pin P => if (stepEP P M).1.line = -1 then (.none, (stepEP P M).2, (atEP (stepEP P M).1).1, false, decide ((atEP (stepEP P M).1).2 = 0 ∧ 0 ≤ (atEP (stepEP P M).1).1)) else (.pin (stepEP P M).1, (stepEP P M).2, a, false, true)
  | .unp P => (.none, (stepEU P M).2, a, false, decide (errEU (stepEU P M).1 = 0))
  | .adv P => if (stepEA P M).1.line = -1 then (.none, (stepEA P M).2, a, decide (errEA (stepEA P M).1 = 0), decide (errEA (stepEA P M).1 = 0 ∨ errEA (stepEA P M).1 = 14)) else (.adv (stepEA P M).1, (stepEA P M).2, a, false, true)
/-- what a core begins -/
def beginO (c : Nat) (a n : Int) : CoreE × Int :=
  if a < 0 then (.pin (newEP 0 1 3 c), a) else if n.tmod 3 = 0 then (.unp (newEU 1 3 c), -1) else (.adv (newEA 0 1 3 c a), a)
def crewPre (P : Nat → CoreE → Prop) (k : Nat) (ins : List (EV U)) : Prop := ∃ M a o, ∃ c : Nat, ∃ l, ins = crewL M a o ++ .i c :: l ∧ l.length = k ∧ c < 3 ∧ P c (o c)
def crewPost (v : Nat) : List HE :=
  [.cells [.hnd 1, .slice 2 (.lit 3) (.lit 3), .slice 3 (.lit 3) (.lit 3), .slice 4 (.lit 3) (.lit 3), .slice 5 (.lit 3) (.lit 3)] 105, .abs v,
   .cells [.hnd 15, .hnd 16, .hnd 17] 86, .cells [.hnd 18, .hnd 19, .hnd 20] 95, .cells [.hnd 21, .hnd 22, .hnd 23] 108,
   .cells [.int .i64 (.var (v + 1)), .int .i64 (.var (v + 2)), .int .i64 (.var (v + 3))] 3, .gone, .gone, .gone, .gone, .gone, .gone, .gone, .gone, .gone, .abs (v + 4), .abs (v + 5), .abs (v + 6), .abs (v + 7), .abs (v + 8), .abs (v + 9), .abs (v + 10), .abs (v + 11), .abs (v + 12)]
def crewNils' : List (Nat × Nat) := crewNils ++ [(15, 13), (16, 13), (17, 13), (18, 18), (19, 18), (20, 18), (21, 23), (22, 23), (23, 23)]
def cBusy : Ctr U :=
  { fn := 61, nin := 14, args := [.ptr 0 0, .int .i64 (.var 13)], heap := crewHp
    pre := crewPre (fun _ _ => True) 0, nout := 1
    out := fun ins => [.b (busyE (crewO ins (gI ins 13).toNat))]
    ret := .bool (.var 14), post := crewHp, nils := crewNils }
def cBegins : Ctr U :=
  { fn := 99, nin := 15, args := [.ptr 0 0, .int .i64 (.var 13), .int .i64 (.var 14)], heap := crewHp
    pre := fun ins => crewPre (fun _ x => x = .none) 1 ins ∧ ∃ n, ins[14]? = some (.i n), nout := 13
    out := fun ins => let c := (gI ins 13).toNat; let r := beginO c (crewA ins c) (gI ins 14); crewL (crewM ins) (upd (crewA ins) c r.2) (upd (crewO ins) c r.1)
    ret := .tuple [], post := crewPost 15, nils := crewNils' }
def cSteps : Ctr U :=
  { fn := 62, nin := 14, args := [.ptr 0 0, .int .i64 (.var 13)], heap := crewHp
    pre := crewPre (fun _ x => okE x) 0, nout := 15
    out := fun ins => let c := (gI ins 13).toNat; let r := actO (crewO ins c) (crewM ins) (crewA ins c); crewL r.2.1 (upd (crewA ins) c r.2.2.1) (upd (crewO ins) c r.1) ++ [.b r.2.2.2.1, .b r.2.2.2.2]
    ret := .tuple [.bool (.var 27), .bool (.var 28)], post := crewPost 14, nils := crewNils' }
def ctsEM : List (Ctr U) := ctsM ++ [cENewPin, cEPinStep, cEPinAt, cENewUnp, cEUnpStep, cEUnpErr, cENewAdv, cEAdvStep, cEAdvErr]
section
variable {M : MemSt} {a : Nat → Int} {o : Nat → CoreE} {c : Nat} {n : Int}
theorem out_busy (hc : c < 3) : cBusy.out (crewL M a o ++ [.i c]) = [.b (busyE (o c))] := by
  show [EV.b (busyE (crewO (crewL M a o ++ [.i c]) c))] = _
  rw [crewO_L hc]
theorem upd_congr {α : Type} {f f' : Nat → α} {x y : α} (h : ∀ d, d < 3 → f d = f' d) (hx : x = y) : ∀ d, d < 3 → upd f c x d = upd f' c y d := by
  intro d hd; unfold upd; split
  · exact hx
  · exact h d hd
theorem out_begins (hc : c < 3) : cBegins.out (crewL M a o ++ [.i c, .i n]) = crewL M (upd a c (beginO c (a c) n).2) (upd o c (beginO c (a c) n).1) := by
  show crewL M (upd (crewA (crewL M a o ++ [.i c, .i n])) c (beginO c (crewA (crewL M a o ++ [.i c, .i n]) c) n).2) (upd (crewO (crewL M a o ++ [.i c, .i n])) c (beginO c (crewA (crewL M a o ++ [.i c, .i n]) c) n).1) = _
  rw [crewA_L hc]
  exact crewL_congr (upd_congr (fun d hd => crewA_L hd) rfl) (upd_congr (fun d hd => crewO_L hd) rfl)
theorem out_steps (hc : c < 3) : cSteps.out (crewL M a o ++ [.i c]) = crewL (actO (o c) M (a c)).2.1 (upd a c (actO (o c) M (a c)).2.2.1) (upd o c (actO (o c) M (a c)).1) ++ [.b (actO (o c) M (a c)).2.2.2.1, .b (actO (o c) M (a c)).2.2.2.2] := by
  show crewL (actO (crewO (crewL M a o ++ [.i c]) c) M (crewA (crewL M a o ++ [.i c]) c)).2.1 (upd (crewA (crewL M a o ++ [.i c])) c (actO (crewO (crewL M a o ++ [.i c]) c) M (crewA (crewL M a o ++ [.i c]) c)).2.2.1) (upd (crewO (crewL M a o ++ [.i c])) c (actO (crewO (crewL M a o ++ [.i c]) c) M (crewA (crewL M a o ++ [.i c]) c)).1) ++ [.b (actO (crewO (crewL M a o ++ [.i c]) c) M (crewA (crewL M a o ++ [.i c]) c)).2.2.2.1, .b (actO (crewO (crewL M a o ++ [.i c]) c) M (crewA (crewL M a o ++ [.i c]) c)).2.2.2.2] = _
  rw [crewA_L hc, crewO_L hc]
  congr 1
  exact crewL_congr (upd_congr (fun d hd => crewA_L hd) rfl) (upd_congr (fun d hd => crewO_L hd) rfl)
end
theorem hctsEM : ∀ (ci : Nat) (c : Ctr U), ctsEM[ci]? = some c → c.Holds objs Try.prog := ctsApp hctsM (by
  intro ci c h
  match ci, h with
  | 0, h => cases h; exact hENewPin
  | 1, h => cases h; exact hEPinStep
  | 2, h => cases h; exact hEPinAt
  | 3, h => cases h; exact hENewUnp
  | 4, h => cases h; exact hEUnpStep
  | 5, h => cases h; exact hEUnpErr
  | 6, h => cases h; exact hENewAdv
  | 7, h => cases h; exact hEAdvStep
  | 8, h => cases h; exact hEAdvErr
  | n + 9, h => cases h)
end Go.Proofs.Ytjohihkbampbgaa
