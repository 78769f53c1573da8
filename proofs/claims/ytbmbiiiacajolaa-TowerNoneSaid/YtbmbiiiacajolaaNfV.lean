/- Towers of none: the contracts hold; the walk. -/
import Derived.Test.YtbmbiiiacajolaaNfT
namespace Go.Proofs.Ytbmbiiiacajolaa
set_option linter.unusedVariables false
set_option linter.unusedSimpArgs false
set_option linter.unusedSectionVars false
open Go Go.RowKit

theorem okT_isx (n h w s : Int) : okT n h w s = decide (1 ≤ w ∧ w ≤ 4 ∧ 1 ≤ s ∧ s ≤ 128 ∧ 0 ≤ n ∧ n < 4096 ∧ 0 ≤ h ∧ h < 4096) := rfl
theorem one_bx {a b : Bool} (h : a = b) : ([EV.b a] : List (EV U)) = [EV.b b] := by rw [h]
theorem vSBx (P : Program) : ∀ ins, ins.length = cSB.nin → cSB.pre ins → tSBx.sat (cx P []) (ctrR cSB) ins := by
  rintro ins _ ⟨a0, a1, a2, a3, a4, a5, a6, a7, a8, a9, a10, a11, a12, rfl⟩
  simp only [Tree.sat, Bx.den, Ex.den, Bnd.den, gI, gB, gL, gF, gN, gNil, List.map_cons, List.map_nil, List.cons_append, List.nil_append, List.getElem?_cons_zero, List.getElem?_cons_succ, List.getD, Option.getD_some, cmp_eql_t, cmp_eql_f, cmp_neq_t, cmp_neq_f, cmp_lss_t, cmp_lss_f, cmp_leq_t, cmp_leq_f, cmp_gtr_t, cmp_gtr_f, cmp_geq_t, cmp_geq_f, Bool.not_eq_true', Bool.not_eq_false', Bool.and_eq_true, Bool.and_eq_false_iff, binDen, ctrR, Ctr.may, List.take_succ_cons, List.take_zero, Option.some.injEq, EV.u.injEq, tSBx, cx, cSB, cSndB]
  repeat' (first | with_reducible apply And.intro | intro _)
  all_goals
    rw [okT_isx]
    first
    | (rw [decide_eq_false (by omega)]; done)
    | (refine one_bx ?_
       rw [Bool.eq_iff_iff, decide_eq_true_iff]
       simp only [cmpDen, decide_eq_true_eq]
       omega)
set_option maxRecDepth 100000 in
theorem hSBx : cSB.Holds objs Try.prog := runCtr_holds (X := cx Try.prog []) (fuel := 40) (opens := []) (folds := []) objsOk mixed noCtsJ (callable _ Try.func61 (by kernel_rfl) (by kernel_rfl)) (by rintro ins _ ⟨_, _, _, _, _, _, _, _, _, _, _, _, _, rfl⟩; rfl) (by intro ins h1 h2; rw [rSBx]; exact vSBx _ ins h1 h2)
set_option maxRecDepth 1000000 in
theorem klSC : runL [] lSC := by intro cs; kernel_rfl
theorem hlSC : (lit lSC).Holds objs Try.prog := lit_holds (callable _ Try.func61 (by kernel_rfl) (by kernel_rfl)) all_nil klSC
theorem hctsRB : ∀ (ci : Nat) (c : Ctr U), ctsRB[ci]? = some c → c.Holds objs Try.prog := by
  intro ci c h
  match ci, h with
  | 0, h => cases h; exact hlSC
  | n + 1, h => cases h
theorem preRB_spec : ∀ (ci : Nat) (c : Ctr U) (ins : List (EV U)), ctsRB[ci]? = some c → preL ci ins = true → c.pre ins := preL_spec (ls := [lSC])
def refN (p : Int) : Prop := ∀ cs, tRefB.satC (cxRB Try.prog) preL okL endL cs 0 [] [.i (65540 + p)] = true
set_option maxRecDepth 1000000 in
theorem kRefB : refN 0 ∧ refN 1 ∧ refN 2 ∧ refN 3 ∧ refN 4 ∧ refN 5 ∧ refN 6 ∧ refN 7 ∧ refN 8 :=
  ⟨by intro cs; kernel_rfl, by intro cs; kernel_rfl, by intro cs; kernel_rfl, by intro cs; kernel_rfl, by intro cs; kernel_rfl, by intro cs; kernel_rfl, by intro cs; kernel_rfl, by intro cs; kernel_rfl, by intro cs; kernel_rfl⟩
theorem vRefN {p : Int} (h : refN p) : tRefB.sat (cxRB Try.prog) (ctrR cRefB) [.i (65540 + p)] :=
  satC_sound (RB := endL) (preB := preL) (okB := okL) preRB_spec okL_spec (fun e o ho => by have := List.isEmpty_iff.1 ho; subst this; rfl) _ 0 [] [.i (65540 + p)] CapsOk.nil h
set_option maxRecDepth 100000 in
theorem hRefB : cRefB.Holds objs Try.prog := runCtr_holds (X := cxRB Try.prog) (fuel := 40) (opens := []) (folds := []) objsOk mixed hctsRB (callable _ Try.func69 (by kernel_rfl) (by kernel_rfl)) (by rintro ins _ ⟨_, _, _, rfl⟩; rfl)
  (by
    rintro ins _ ⟨p, h0, h1, rfl⟩
    rw [rRefB]
    obtain ⟨k0, k1, k2, k3, k4, k5, k6, k7, k8⟩ := kRefB
    have hp : p = 0 ∨ p = 1 ∨ p = 2 ∨ p = 3 ∨ p = 4 ∨ p = 5 ∨ p = 6 ∨ p = 7 ∨ p = 8 := by omega
    rcases hp with rfl | rfl | rfl | rfl | rfl | rfl | rfl | rfl | rfl
    · exact vRefN k0
    · exact vRefN k1
    · exact vRefN k2
    · exact vRefN k3
    · exact vRefN k4
    · exact vRefN k5
    · exact vRefN k6
    · exact vRefN k7
    · exact vRefN k8)
theorem hctsTN : ∀ (ci : Nat) (c : Ctr U), ctsTN[ci]? = some c → c.Holds objs Try.prog := by
  intro ci c h
  rw [ctsTN, List.getElem?_append] at h
  split at h
  · exact hlsNl.cts ci c h
  · generalize ci - (lsNl.map lit).length = j at h
    match j, h with
    | 0, h => cases h; exact cSnd_of hSBx
    | 1, h => cases h; exact hPick
    | 2, h => cases h; exact hRefB
    | n + 3, h => cases h
set_option maxHeartbeats 4000000 in
theorem vTN (P : Program) : ∀ ins, ins.length = cTNone.nin → cTNone.pre ins → tTN.sat (cxTN P) (ctrR cTNone) ins := by
  rintro ins _ ⟨n, rfl⟩
  have hp0 : 0 ≤ n.emod 9 := Int.emod_nonneg _ (by decide)
  have hp1 : n.emod 9 < 9 := Int.emod_lt_of_pos _ (by decide)
  simp only [Tree.sat, Bx.den, Ex.den, Bnd.den, gI, gB, gL, gF, gN, gNil, List.map_cons, List.map_nil, List.cons_append, List.nil_append, List.getElem?_cons_zero, List.getElem?_cons_succ, List.getD, Option.getD_some, cmp_eql_t, cmp_eql_f, cmp_neq_t, cmp_neq_f, cmp_lss_t, cmp_lss_f, cmp_leq_t, cmp_leq_f, cmp_gtr_t, cmp_gtr_f, cmp_geq_t, cmp_geq_f, Bool.not_eq_true', Bool.not_eq_false', Bool.and_eq_true, Bool.and_eq_false_iff, binDen, ctrR, Ctr.may, List.take_succ_cons, List.take_zero, Option.some.injEq, EV.u.injEq, tTN, cx, cxTN, ctsTN_is, lit_pre, o_lNl0, o_lNl2, o_lNl3, o_lNl4, o_lNl6, o_lNl7, o_lNl8, o_lNl9, o_lNl10, o_lNl12, o_lNl13, o_lNl16, o_lNl18, o_lNl22, o_lNl26, o_lNl30, o_lNl34, o_lNl38, o_lNl40, o_lNl41, o_lNl43, o_lNl44, o_lNl45, o_lNl53, o_lNl54, o_lNl55, o_lNl79, o_lTAx, cSf, cSnd, cPick, cRefB, boolC, cTNone, List.take_zero, List.nil_append, List.length_cons, true_and, and_true, ne_eq, not_true_eq_false, not_false_eq_true, false_implies, true_implies, implies_true, List.append_assoc]
  generalize n.emod 9 = p at *
  have e1 : IntKind.u64.wrap p = p := by rw [IntKind.wrap_u64]; omega
  have e2 : IntKind.u64.wrap (65540 + p) = 65540 + p := by rw [IntKind.wrap_u64]; omega
  have e3 : IntKind.i64.wrap (5 + p) = 5 + p := by rw [IntKind.wrap_i64]; omega
  simp only [e1, e2, e3]
  repeat' (first | with_reducible apply And.intro | intro _)
  all_goals first
    | trivial
    | rfl
    | exact ⟨_, _, rfl, by omega, by omega⟩
    | exact ⟨p, hp0, hp1, rfl⟩
    | exact ⟨_, _, _, _, _, _, _, _, _, _, _, _, _, rfl, decide_eq_false (by omega)⟩
    | omega
    | (simp at *; done)
    | (simp at *; omega)
set_option maxRecDepth 100000 in
theorem hTNone : cTNone.Holds objs Try.prog := runCtr_holds (X := cxTN Try.prog) (fuel := 40) (opens := []) (folds := []) objsOk mixed hctsTN (callable _ Try.func4 (by kernel_rfl) (by kernel_rfl)) (by rintro ins _ ⟨_, rfl⟩; rfl) (by intro ins h1 h2; rw [rTN]; exact vTN _ ins h1 h2)
theorem towerNone_walk (n : Int) (W : World) : Calls Try.prog 4 #[.int .i64 n] W fun e W' => e = .returned (.bool true) ∧ Below W.heap.size W W' :=
  hTNone.law rfl (ins := [.i n]) (ρ := []) (vals := [.int .i64 n]) rfl ⟨_, rfl⟩ rfl ⟨fun _ _ => rfl, trivial, trivial⟩ (Sat.inputs rfl (by intro n e h; simp [cTNone] at h))
end Go.Proofs.Ytbmbiiiacajolaa
