/- Inserts, new: the contracts hold; the walk. -/
import Derived.Test.YtdldcofddfkkbaaGreatJaT
namespace Go.Proofs.YtdldcofddfkkbaaGreat
set_option linter.unusedVariables false
set_option linter.unusedSimpArgs false
set_option linter.unusedSectionVars false
open Go Go.RowKit

theorem okT_t {n h w s : Int} (g : okT n h w s = true) : 1 ≤ w ∧ w ≤ 4 ∧ 1 ≤ s ∧ s ≤ 128 ∧ 0 ≤ n ∧ n < 4096 ∧ 0 ≤ h ∧ h < 4096 := of_decide_eq_true g
theorem okT_f {n h w s : Int} (g : okT n h w s = false) : ¬ (1 ≤ w ∧ w ≤ 4 ∧ 1 ≤ s ∧ s ≤ 128 ∧ 0 ≤ n ∧ n < 4096 ∧ 0 ≤ h ∧ h < 4096) := of_decide_eq_false g
theorem okT_is (n h w s : Int) : okT n h w s = decide (1 ≤ w ∧ w ≤ 4 ∧ 1 ≤ s ∧ s ≤ 128 ∧ 0 ≤ n ∧ n < 4096 ∧ 0 ≤ h ∧ h < 4096) := rfl
theorem one_b {a b : Bool} (h : a = b) : ([EV.b a] : List (EV U)) = [EV.b b] := by rw [h]
theorem vSB (P : Program) : ∀ ins, ins.length = cSB.nin → cSB.pre ins → tSB.sat (cx P []) (ctrR cSB) ins := by
  rintro ins _ ⟨a0, a1, a2, a3, a4, a5, a6, a7, a8, a9, a10, a11, a12, rfl⟩
  simp only [Tree.sat, Bx.den, Ex.den, Bnd.den, gI, gB, gL, gF, gN, gNil, List.map_cons, List.map_nil, List.cons_append, List.nil_append, List.getElem?_cons_zero, List.getElem?_cons_succ, List.getD, Option.getD_some, cmp_eql_t, cmp_eql_f, cmp_neq_t, cmp_neq_f, cmp_lss_t, cmp_lss_f, cmp_leq_t, cmp_leq_f, cmp_gtr_t, cmp_gtr_f, cmp_geq_t, cmp_geq_f, Bool.not_eq_true', Bool.not_eq_false', Bool.and_eq_true, Bool.and_eq_false_iff, binDen, ctrR, Ctr.may, List.take_succ_cons, List.take_zero, Option.some.injEq, EV.u.injEq, tSB, cx, cSB, cSndB]
  repeat' (first | with_reducible apply And.intro | intro _)
  all_goals
    rw [okT_is]
    first
    | (rw [decide_eq_false (by omega)]; done)
    | (refine one_b ?_
       rw [Bool.eq_iff_iff, decide_eq_true_iff]
       simp only [cmpDen, decide_eq_true_eq]
       omega)
theorem vRSB (P : Program) : ∀ ins, ins.length = cRSB.nin → cRSB.pre ins → tRSB.sat (cx P []) (ctrR cRSB) ins := by
  rintro ins _ ⟨a0, a1, a2, a3, a4, a5, a6, a7, a8, a9, a10, a11, a12, rfl⟩
  simp only [Tree.sat, Bx.den, Ex.den, Bnd.den, gI, gB, gL, gF, gN, gNil, List.map_cons, List.map_nil, List.cons_append, List.nil_append, List.getElem?_cons_zero, List.getElem?_cons_succ, List.getD, Option.getD_some, cmp_eql_t, cmp_eql_f, cmp_neq_t, cmp_neq_f, cmp_lss_t, cmp_lss_f, cmp_leq_t, cmp_leq_f, cmp_gtr_t, cmp_gtr_f, cmp_geq_t, cmp_geq_f, Bool.not_eq_true', Bool.not_eq_false', Bool.and_eq_true, Bool.and_eq_false_iff, binDen, ctrR, Ctr.may, List.take_succ_cons, List.take_zero, Option.some.injEq, EV.u.injEq, tRSB, cx, cRSB, cSndB]
  repeat' (first | with_reducible apply And.intro | intro _)
  all_goals
    rw [okT_is]
    first
    | (rw [decide_eq_false (by omega)]; done)
    | (refine one_b ?_
       rw [Bool.eq_iff_iff, decide_eq_true_iff]
       simp only [cmpDen, decide_eq_true_eq]
       omega)
theorem refO_or (w : Int) : refO w = [.i (w % 65536 - 1), .i (w / 65536 % 4294967296), .b (decide (w / 9223372036854775808 = 1)), .i 0] ∨ refO w = [.i 0, .i 0, .b false, .i 5] := by
  unfold refO
  cases refOk w
  · exact .inr rfl
  · exact .inl rfl
set_option maxRecDepth 100000 in
theorem hSB : (cSB).Holds objs Tryz.prog := runCtr_holds (X := cx Tryz.prog []) (fuel := 40) (opens := []) (folds := []) objsOk mixed noCts (callable _ Tryz.func140 (by kernel_rfl) (by kernel_rfl)) (by rintro ins _ ⟨_, _, _, _, _, _, _, _, _, _, _, _, _, rfl⟩; rfl) (by intro ins h1 h2; rw [rSB]; exact vSB _ ins h1 h2)
set_option maxRecDepth 100000 in
theorem hRSB : (cRSB).Holds objs Tryz.prog := runCtr_holds (X := cx Tryz.prog []) (fuel := 40) (opens := []) (folds := []) objsOk mixed noCts (callable _ Tryz.func121 (by kernel_rfl) (by kernel_rfl)) (by rintro ins _ ⟨_, _, _, _, _, _, _, _, _, _, _, _, _, rfl⟩; rfl) (by intro ins h1 h2; rw [rRSB]; exact vRSB _ ins h1 h2)
theorem hctsNT : ∀ (ci : Nat) (c : Ctr U), ctsNT[ci]? = some c → c.Holds objs Tryz.prog := by
  intro ci c h
  match ci, h with
  | 0, h => cases h; exact cSnd_of hSB
  | 1, h => cases h; exact cSnd_of hRSB
  | 2, h => cases h; exact hIa
  | 3, h => cases h; exact hGetRef
  | 4, h => cases h; exact hRGetRef
  | n + 5, h => cases h
theorem hctsNF : ∀ (ci : Nat) (c : Ctr U), ctsNF[ci]? = some c → c.Holds objs Tryz.prog := by
  intro ci c h
  match ci, h with
  | 0, h => cases h; exact cSnd_of hSB
  | 1, h => cases h; exact cSnd_of hRSB
  | 2, h => cases h; exact hIa
  | 3, h => cases h; exact hGetRef
  | 4, h => cases h; exact hRGetRef
  | n + 5, h => cases h
def cINewV : Ctr U := { cINewU with pre := fun ins => ∃ a0 a1 a2 a3 a4 a5 a6 a7 a8 a9 a10 a11 a12 r k g : Int, ins = [.i a0, .i a1, .i a2, .i a3, .i a4, .i a5, .i a6, .i a7, .i a8, .i a9, .i a10, .i a11, .i a12, .i r, .i k, .i g] ∧ okT a0 a1 a2 a5 = false ∧ isW r }
theorem rINV : runCtr (cxNF Tryz.prog) 40 cINewV [] [] = tINU := rINU
theorem vINU (P : Program) : ∀ ins, ins.length = cINewV.nin → cINewV.pre ins → tINU.sat (cxNF P) (ctrR cINewV) ins := by
  rintro ins _ ⟨a0, a1, a2, a3, a4, a5, a6, a7, a8, a9, a10, a11, a12, r, k, g, rfl, hk, hr⟩
  rcases refO_or r with e | e
  all_goals
    simp only [Tree.sat, Bx.den, Ex.den, Bnd.den, gI, gB, gL, gF, gN, gNil, List.map_cons, List.map_nil, List.cons_append, List.nil_append, List.getElem?_cons_zero, List.getElem?_cons_succ, List.getD, Option.getD_some, cmp_eql_t, cmp_eql_f, cmp_neq_t, cmp_neq_f, cmp_lss_t, cmp_lss_f, cmp_leq_t, cmp_leq_f, cmp_gtr_t, cmp_gtr_f, cmp_geq_t, cmp_geq_f, Bool.not_eq_true', Bool.not_eq_false', Bool.and_eq_true, Bool.and_eq_false_iff, binDen, ctrR, Ctr.may, List.take_succ_cons, List.take_zero, Option.some.injEq, EV.u.injEq, tINU, cx, cxNF, ctsNF, cSf, cRSf, cSnd, boolC, cINewV, cINewU, cGetRef, cRGetRef, cGetRefF, e, List.length_cons]
    repeat' (first | with_reducible apply And.intro | intro _)
    all_goals first
      | exact ⟨_, _, _, _, _, _, _, _, _, _, _, _, _, rfl, hk⟩
      | exact ⟨_, rfl, hr⟩
      | trivial
      | rfl
      | (simp at *; done)
set_option maxRecDepth 100000 in
theorem hINU : (cINewV).Holds objs Tryz.prog := runCtr_holds (X := cxNF Tryz.prog) (fuel := 40) (opens := []) (folds := []) objsOk mixed hctsNF (callable _ Tryz.func6 (by kernel_rfl) (by kernel_rfl)) (by rintro ins _ ⟨_, _, _, _, _, _, _, _, _, _, _, _, _, _, _, _, rfl, _⟩; rfl) (by intro ins h1 h2; rw [rINV]; exact vINU _ ins h1 h2)
set_option maxHeartbeats 40000000 in
set_option maxRecDepth 100000 in
theorem vINA (P : Program) : ∀ ins, ins.length = (cINew 1).nin → (cINew 1).pre ins → tINA.sat (cxNT P) (ctrR (cINew 1)) ins := by
  rintro ins _ ⟨a0, a1, a2, a3, a4, a5, a6, a7, a8, a9, a10, a11, a12, r, k, g, rfl, rfl, hk, hr⟩
  have hh := okT_t hk
  obtain ⟨hr0, hr1⟩ := hr
  have w0 : IntKind.i64.wrap a0 = a0 := wrap_small (by omega) (by omega)
  have w1 : IntKind.i64.wrap a1 = a1 := wrap_small (by omega) (by omega)
  have t0 : r.tmod 65536 = r % 65536 := Int.tmod_eq_emod_of_nonneg hr0
  have t1 : IntKind.i64.wrap (r % 65536) = r % 65536 := wrap_small (by omega) (by omega)
  have t2 : IntKind.i64.wrap (r % 65536 - 1) = r % 65536 - 1 := wrap_small (by omega) (by omega)
  rcases refO_or r with e | e
  all_goals
    simp only [Tree.sat, Bx.den, Ex.den, Bnd.den, gI, gB, gL, gF, gN, gNil, List.map_cons, List.map_nil, List.cons_append, List.nil_append, List.getElem?_cons_zero, List.getElem?_cons_succ, List.getD, Option.getD_some, cmp_eql_t, cmp_eql_f, cmp_neq_t, cmp_neq_f, cmp_lss_t, cmp_lss_f, cmp_leq_t, cmp_leq_f, cmp_gtr_t, cmp_gtr_f, cmp_geq_t, cmp_geq_f, Bool.not_eq_true', Bool.not_eq_false', Bool.and_eq_true, Bool.and_eq_false_iff, binDen, ctrR, Ctr.may, List.take_succ_cons, List.take_zero, Option.some.injEq, EV.u.injEq, tINA, cx, cxNT, ctsNT, cSt, cRSt, cSnd, boolC, cINew, cGetRef, cRGetRef, cGetRefF, e, Int.add_zero, w0, w1, t0, t1, t2, List.length_cons, true_and, and_true, ne_eq, not_true_eq_false, not_false_eq_true, false_implies, true_implies, implies_true, List.append_assoc]
    repeat' (first | with_reducible apply And.intro | intro _)
    all_goals first
      | exact ⟨_, _, _, _, _, _, _, _, _, _, _, _, _, rfl, hk⟩
      | exact ⟨_, rfl, hr0, hr1⟩
      | trivial
      | rfl
      | omega
      | (simp at *; done)
      | (simp at *; omega)
      | fail "x"
set_option maxRecDepth 100000 in
theorem hINA : (cINew 1).Holds objs Tryz.prog := runCtr_holds (X := cxNT Tryz.prog) (fuel := 40) (opens := []) (folds := []) objsOk mixed hctsNT (callable _ Tryz.func6 (by kernel_rfl) (by kernel_rfl)) (by rintro ins _ ⟨_, _, _, _, _, _, _, _, _, _, _, _, _, _, _, _, rfl, _⟩; rfl) (by intro ins h1 h2; rw [rINA]; exact vINA _ ins h1 h2)
set_option maxHeartbeats 40000000 in
set_option maxRecDepth 100000 in
theorem vINB (P : Program) : ∀ ins, ins.length = (cINew 2).nin → (cINew 2).pre ins → tINB.sat (cxNT P) (ctrR (cINew 2)) ins := by
  rintro ins _ ⟨a0, a1, a2, a3, a4, a5, a6, a7, a8, a9, a10, a11, a12, r, k, g, rfl, rfl, hk, hr⟩
  have hh := okT_t hk
  obtain ⟨hr0, hr1⟩ := hr
  have w0 : IntKind.i64.wrap a0 = a0 := wrap_small (by omega) (by omega)
  have w1 : IntKind.i64.wrap a1 = a1 := wrap_small (by omega) (by omega)
  have t0 : r.tmod 65536 = r % 65536 := Int.tmod_eq_emod_of_nonneg hr0
  have t1 : IntKind.i64.wrap (r % 65536) = r % 65536 := wrap_small (by omega) (by omega)
  have t2 : IntKind.i64.wrap (r % 65536 - 1) = r % 65536 - 1 := wrap_small (by omega) (by omega)
  rcases refO_or r with e | e
  all_goals
    simp only [Tree.sat, Bx.den, Ex.den, Bnd.den, gI, gB, gL, gF, gN, gNil, List.map_cons, List.map_nil, List.cons_append, List.nil_append, List.getElem?_cons_zero, List.getElem?_cons_succ, List.getD, Option.getD_some, cmp_eql_t, cmp_eql_f, cmp_neq_t, cmp_neq_f, cmp_lss_t, cmp_lss_f, cmp_leq_t, cmp_leq_f, cmp_gtr_t, cmp_gtr_f, cmp_geq_t, cmp_geq_f, Bool.not_eq_true', Bool.not_eq_false', Bool.and_eq_true, Bool.and_eq_false_iff, binDen, ctrR, Ctr.may, List.take_succ_cons, List.take_zero, Option.some.injEq, EV.u.injEq, tINB, cx, cxNT, ctsNT, cSt, cRSt, cSnd, boolC, cINew, cGetRef, cRGetRef, cGetRefF, e, Int.add_zero, w0, w1, t0, t1, t2, List.length_cons, true_and, and_true, ne_eq, not_true_eq_false, not_false_eq_true, false_implies, true_implies, implies_true, List.append_assoc]
    repeat' (first | with_reducible apply And.intro | intro _)
    all_goals first
      | exact ⟨_, _, _, _, _, _, _, _, _, _, _, _, _, rfl, hk⟩
      | exact ⟨_, rfl, hr0, hr1⟩
      | trivial
      | rfl
      | omega
      | (simp at *; done)
      | (simp at *; omega)
      | fail "x"
set_option maxRecDepth 100000 in
theorem hINB : (cINew 2).Holds objs Tryz.prog := runCtr_holds (X := cxNT Tryz.prog) (fuel := 40) (opens := []) (folds := []) objsOk mixed hctsNT (callable _ Tryz.func6 (by kernel_rfl) (by kernel_rfl)) (by rintro ins _ ⟨_, _, _, _, _, _, _, _, _, _, _, _, _, _, _, _, rfl, _⟩; rfl) (by intro ins h1 h2; rw [rINB]; exact vINB _ ins h1 h2)
set_option maxHeartbeats 40000000 in
set_option maxRecDepth 100000 in
theorem vINC (P : Program) : ∀ ins, ins.length = (cINew 3).nin → (cINew 3).pre ins → tINC.sat (cxNT P) (ctrR (cINew 3)) ins := by
  rintro ins _ ⟨a0, a1, a2, a3, a4, a5, a6, a7, a8, a9, a10, a11, a12, r, k, g, rfl, rfl, hk, hr⟩
  have hh := okT_t hk
  obtain ⟨hr0, hr1⟩ := hr
  have w0 : IntKind.i64.wrap a0 = a0 := wrap_small (by omega) (by omega)
  have w1 : IntKind.i64.wrap a1 = a1 := wrap_small (by omega) (by omega)
  have t0 : r.tmod 65536 = r % 65536 := Int.tmod_eq_emod_of_nonneg hr0
  have t1 : IntKind.i64.wrap (r % 65536) = r % 65536 := wrap_small (by omega) (by omega)
  have t2 : IntKind.i64.wrap (r % 65536 - 1) = r % 65536 - 1 := wrap_small (by omega) (by omega)
  rcases refO_or r with e | e
  all_goals
    simp only [Tree.sat, Bx.den, Ex.den, Bnd.den, gI, gB, gL, gF, gN, gNil, List.map_cons, List.map_nil, List.cons_append, List.nil_append, List.getElem?_cons_zero, List.getElem?_cons_succ, List.getD, Option.getD_some, cmp_eql_t, cmp_eql_f, cmp_neq_t, cmp_neq_f, cmp_lss_t, cmp_lss_f, cmp_leq_t, cmp_leq_f, cmp_gtr_t, cmp_gtr_f, cmp_geq_t, cmp_geq_f, Bool.not_eq_true', Bool.not_eq_false', Bool.and_eq_true, Bool.and_eq_false_iff, binDen, ctrR, Ctr.may, List.take_succ_cons, List.take_zero, Option.some.injEq, EV.u.injEq, tINC, cx, cxNT, ctsNT, cSt, cRSt, cSnd, boolC, cINew, cGetRef, cRGetRef, cGetRefF, e, Int.add_zero, w0, w1, t0, t1, t2, List.length_cons, true_and, and_true, ne_eq, not_true_eq_false, not_false_eq_true, false_implies, true_implies, implies_true, List.append_assoc]
    repeat' (first | with_reducible apply And.intro | intro _)
    all_goals first
      | exact ⟨_, _, _, _, _, _, _, _, _, _, _, _, _, rfl, hk⟩
      | exact ⟨_, rfl, hr0, hr1⟩
      | trivial
      | rfl
      | omega
      | (simp at *; done)
      | (simp at *; omega)
      | fail "x"
set_option maxRecDepth 100000 in
theorem hINC : (cINew 3).Holds objs Tryz.prog := runCtr_holds (X := cxNT Tryz.prog) (fuel := 40) (opens := []) (folds := []) objsOk mixed hctsNT (callable _ Tryz.func6 (by kernel_rfl) (by kernel_rfl)) (by rintro ins _ ⟨_, _, _, _, _, _, _, _, _, _, _, _, _, _, _, _, rfl, _⟩; rfl) (by intro ins h1 h2; rw [rINC]; exact vINC _ ins h1 h2)
set_option maxHeartbeats 40000000 in
set_option maxRecDepth 100000 in
theorem vIND (P : Program) : ∀ ins, ins.length = (cINew 4).nin → (cINew 4).pre ins → tIND.sat (cxNT P) (ctrR (cINew 4)) ins := by
  rintro ins _ ⟨a0, a1, a2, a3, a4, a5, a6, a7, a8, a9, a10, a11, a12, r, k, g, rfl, rfl, hk, hr⟩
  have hh := okT_t hk
  obtain ⟨hr0, hr1⟩ := hr
  have w0 : IntKind.i64.wrap a0 = a0 := wrap_small (by omega) (by omega)
  have w1 : IntKind.i64.wrap a1 = a1 := wrap_small (by omega) (by omega)
  have t0 : r.tmod 65536 = r % 65536 := Int.tmod_eq_emod_of_nonneg hr0
  have t1 : IntKind.i64.wrap (r % 65536) = r % 65536 := wrap_small (by omega) (by omega)
  have t2 : IntKind.i64.wrap (r % 65536 - 1) = r % 65536 - 1 := wrap_small (by omega) (by omega)
  rcases refO_or r with e | e
  all_goals
    simp only [Tree.sat, Bx.den, Ex.den, Bnd.den, gI, gB, gL, gF, gN, gNil, List.map_cons, List.map_nil, List.cons_append, List.nil_append, List.getElem?_cons_zero, List.getElem?_cons_succ, List.getD, Option.getD_some, cmp_eql_t, cmp_eql_f, cmp_neq_t, cmp_neq_f, cmp_lss_t, cmp_lss_f, cmp_leq_t, cmp_leq_f, cmp_gtr_t, cmp_gtr_f, cmp_geq_t, cmp_geq_f, Bool.not_eq_true', Bool.not_eq_false', Bool.and_eq_true, Bool.and_eq_false_iff, binDen, ctrR, Ctr.may, List.take_succ_cons, List.take_zero, Option.some.injEq, EV.u.injEq, tIND, cx, cxNT, ctsNT, cSt, cRSt, cSnd, boolC, cINew, cGetRef, cRGetRef, cGetRefF, e, Int.add_zero, w0, w1, t0, t1, t2, List.length_cons, true_and, and_true, ne_eq, not_true_eq_false, not_false_eq_true, false_implies, true_implies, implies_true, List.append_assoc]
    repeat' (first | with_reducible apply And.intro | intro _)
    all_goals first
      | exact ⟨_, _, _, _, _, _, _, _, _, _, _, _, _, rfl, hk⟩
      | exact ⟨_, rfl, hr0, hr1⟩
      | trivial
      | rfl
      | omega
      | (simp at *; done)
      | (simp at *; omega)
      | fail "x"
set_option maxRecDepth 100000 in
theorem hIND : (cINew 4).Holds objs Tryz.prog := runCtr_holds (X := cxNT Tryz.prog) (fuel := 40) (opens := []) (folds := []) objsOk mixed hctsNT (callable _ Tryz.func6 (by kernel_rfl) (by kernel_rfl)) (by rintro ins _ ⟨_, _, _, _, _, _, _, _, _, _, _, _, _, _, _, _, rfl, _⟩; rfl) (by intro ins h1 h2; rw [rIND]; exact vIND _ ins h1 h2)
theorem insertNew_walk (a0 a1 a2 a3 a4 a5 a6 a7 a8 a9 a10 a11 a12 r k g : Int) (W : World) (hr : isW r) (hk : isW k) : Calls Tryz.prog 6 #[.agg #[.int .i64 a0, .int .i64 a1, .int .i64 a2, .int .i64 a3, .int .i64 a4, .int .i64 a5, .int .i64 a6, .int .i64 a7, .int .i64 a8, .int .i64 a9, .int .i64 a10, .int .i64 a11, .int .i64 a12], .int .u64 r, .int .u64 k, .int .i64 g] W fun e W' => e = .returned (.bool true) ∧ Below W.heap.size W W' := by
  cases ho : okT a0 a1 a2 a5 with
  | false =>
    exact hINU.law rfl (ins := [.i a0, .i a1, .i a2, .i a3, .i a4, .i a5, .i a6, .i a7, .i a8, .i a9, .i a10, .i a11, .i a12, .i r, .i k, .i g]) (ρ := []) (vals := [.agg #[.int .i64 a0, .int .i64 a1, .int .i64 a2, .int .i64 a3, .int .i64 a4, .int .i64 a5, .int .i64 a6, .int .i64 a7, .int .i64 a8, .int .i64 a9, .int .i64 a10, .int .i64 a11, .int .i64 a12], .int .u64 r, .int .u64 k, .int .i64 g]) rfl ⟨_, _, _, _, _, _, _, _, _, _, _, _, _, _, _, _, rfl, ho, hr⟩ rfl
      ⟨fun _ _ => rfl, ⟨⟨trivial, trivial, trivial, trivial, trivial, trivial, trivial, trivial, trivial, trivial, trivial, trivial, trivial, trivial⟩, trivial, trivial, trivial, trivial⟩⟩ (Sat.inputs rfl (by intro n e h; simp [cINewV, cINewU] at h))
  | true =>
    have hw := okT_t ho
    have hc : a2 = 1 ∨ a2 = 2 ∨ a2 = 3 ∨ a2 = 4 := by omega
    rcases hc with rfl | rfl | rfl | rfl
    · exact hINA.law rfl (ins := [.i a0, .i a1, .i 1, .i a3, .i a4, .i a5, .i a6, .i a7, .i a8, .i a9, .i a10, .i a11, .i a12, .i r, .i k, .i g]) (ρ := []) (vals := [.agg #[.int .i64 a0, .int .i64 a1, .int .i64 1, .int .i64 a3, .int .i64 a4, .int .i64 a5, .int .i64 a6, .int .i64 a7, .int .i64 a8, .int .i64 a9, .int .i64 a10, .int .i64 a11, .int .i64 a12], .int .u64 r, .int .u64 k, .int .i64 g]) rfl ⟨_, _, _, _, _, _, _, _, _, _, _, _, _, _, _, _, rfl, rfl, ho, hr⟩ rfl
        ⟨fun _ _ => rfl, ⟨⟨trivial, trivial, trivial, trivial, trivial, trivial, trivial, trivial, trivial, trivial, trivial, trivial, trivial, trivial⟩, trivial, trivial, trivial, trivial⟩⟩ (Sat.inputs rfl (by intro n e h; simp [cINew] at h))
    · exact hINB.law rfl (ins := [.i a0, .i a1, .i 2, .i a3, .i a4, .i a5, .i a6, .i a7, .i a8, .i a9, .i a10, .i a11, .i a12, .i r, .i k, .i g]) (ρ := []) (vals := [.agg #[.int .i64 a0, .int .i64 a1, .int .i64 2, .int .i64 a3, .int .i64 a4, .int .i64 a5, .int .i64 a6, .int .i64 a7, .int .i64 a8, .int .i64 a9, .int .i64 a10, .int .i64 a11, .int .i64 a12], .int .u64 r, .int .u64 k, .int .i64 g]) rfl ⟨_, _, _, _, _, _, _, _, _, _, _, _, _, _, _, _, rfl, rfl, ho, hr⟩ rfl
        ⟨fun _ _ => rfl, ⟨⟨trivial, trivial, trivial, trivial, trivial, trivial, trivial, trivial, trivial, trivial, trivial, trivial, trivial, trivial⟩, trivial, trivial, trivial, trivial⟩⟩ (Sat.inputs rfl (by intro n e h; simp [cINew] at h))
    · exact hINC.law rfl (ins := [.i a0, .i a1, .i 3, .i a3, .i a4, .i a5, .i a6, .i a7, .i a8, .i a9, .i a10, .i a11, .i a12, .i r, .i k, .i g]) (ρ := []) (vals := [.agg #[.int .i64 a0, .int .i64 a1, .int .i64 3, .int .i64 a3, .int .i64 a4, .int .i64 a5, .int .i64 a6, .int .i64 a7, .int .i64 a8, .int .i64 a9, .int .i64 a10, .int .i64 a11, .int .i64 a12], .int .u64 r, .int .u64 k, .int .i64 g]) rfl ⟨_, _, _, _, _, _, _, _, _, _, _, _, _, _, _, _, rfl, rfl, ho, hr⟩ rfl
        ⟨fun _ _ => rfl, ⟨⟨trivial, trivial, trivial, trivial, trivial, trivial, trivial, trivial, trivial, trivial, trivial, trivial, trivial, trivial⟩, trivial, trivial, trivial, trivial⟩⟩ (Sat.inputs rfl (by intro n e h; simp [cINew] at h))
    · exact hIND.law rfl (ins := [.i a0, .i a1, .i 4, .i a3, .i a4, .i a5, .i a6, .i a7, .i a8, .i a9, .i a10, .i a11, .i a12, .i r, .i k, .i g]) (ρ := []) (vals := [.agg #[.int .i64 a0, .int .i64 a1, .int .i64 4, .int .i64 a3, .int .i64 a4, .int .i64 a5, .int .i64 a6, .int .i64 a7, .int .i64 a8, .int .i64 a9, .int .i64 a10, .int .i64 a11, .int .i64 a12], .int .u64 r, .int .u64 k, .int .i64 g]) rfl ⟨_, _, _, _, _, _, _, _, _, _, _, _, _, _, _, _, rfl, rfl, ho, hr⟩ rfl
        ⟨fun _ _ => rfl, ⟨⟨trivial, trivial, trivial, trivial, trivial, trivial, trivial, trivial, trivial, trivial, trivial, trivial, trivial, trivial⟩, trivial, trivial, trivial, trivial⟩⟩ (Sat.inputs rfl (by intro n e h; simp [cINew] at h))
end Go.Proofs.YtdldcofddfkkbaaGreat
