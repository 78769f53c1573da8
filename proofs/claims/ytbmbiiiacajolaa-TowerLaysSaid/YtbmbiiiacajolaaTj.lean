/- Nodes that are laid at once: the law holds. -/
import Derived.Test.YtbmbiiiacajolaaTi
import Derived.Test.YtbmbiiiacajolaaTz
import Derived.Test.YtbmbiiiacajolaaTk
import Derived.Test.YtbmbiiiacajolaaSw
namespace Go.Proofs.Ytbmbiiiacajolaa
set_option linter.unusedVariables false
set_option linter.unusedSimpArgs false
set_option linter.unusedSectionVars false
open Go Go.RowKit

theorem wu {n : Int} (h : 0 ≤ n) (h' : n < 18446744073709551616) : IntKind.u64.wrap n = n := by rw [IntKind.wrap_u64]; omega
theorem tn0 : Int.toNat 0 = 0 := rfl
theorem tn1 : Int.toNat 1 = 1 := rfl
theorem tn2 : Int.toNat 2 = 2 := rfl
theorem fillC_W {x0 y0 z0 x1 y1 z1 x2 y2 z2 : Int} : fillC.W = laysL x0 y0 z0 0 x1 y1 z1 0 x2 y2 z2 0 := by kernel_rfl
theorem fillC_N : fillC.N = 16 := by kernel_rfl
theorem fillC_l : fillC.W.length = 34 := by kernel_rfl
theorem fillC_16 : fillC.W.take 16 = [1, 2, 3, 0, 1, 1, 1, 0, 0, 0, 0, 0, 0, 0, 0, 0] := by kernel_rfl
theorem lays_new {x0 y0 z0 x1 y1 z1 x2 y2 z2 : Int} : laysM fillC 16 x0 y0 z0 0 x1 y1 z1 0 x2 y2 z2 0 :=
  ⟨fillC_W, by rw [fillC_N]; rfl, by omega, by omega, by omega, by omega, by omega, by omega⟩
theorem out_fillC (ins : List (EV U)) : cTFillC.out ins = [.u (.mem fillC)] := rfl
theorem out_ref0 (ins : List (EV U)) : cRef0.out ins = [] := rfl
theorem out_ref1 (ins : List (EV U)) : cRef1.out ins = [] := rfl
theorem out_ref2 (ins : List (EV U)) : cRef2.out ins = [] := rfl
theorem out_litB (n : Nat) : (lit (lB n)).out [] = [.b true] := rfl
theorem pre_nx {c : List Int} : cSameWords.pre [.l ([0, 0] ++ c), .l [0, 0], .i 2, .i ((2 + c.length : Nat) : Int), .i 2, .i 2] := ⟨_, _, _, _, _, _, rfl, by omega, by simp; omega, by omega, by decide, by decide⟩
theorem out_nx {c : List Int} {x : EV U} : cSameWords.out [.l ([0, 0] ++ c), .l [0, 0], .i 2, x, .i 2, .i 2] = [.b true] := by
  show [EV.b (decide (List.take (2 : Int).toNat ([0, 0] ++ c) = List.take (2 : Int).toNat [0, 0]))] = _
  rfl
theorem out_nx' {c : List Int} {x : EV U} : cSameWords.out [.l (0 :: 0 :: c), .l [0, 0], .i 2, x, .i 2, .i 2] = [.b true] := out_nx
section
variable {M : MemSt} {n x0 y0 z0 d0 x1 y1 z1 d1 x2 y2 z2 d2 : Int}
theorem pre_w16 (h : laysM M n x0 y0 z0 d0 x1 y1 z1 d1 x2 y2 z2 d2) : cSameWords.pre [.l M.W, .l fillC.W, .i 16, .i 34, .i 16, .i 34] :=
  ⟨_, _, _, _, _, _, rfl, by omega, by rw [h.1, len_lays]; decide, by omega, by rw [fillC_l]; decide, by decide⟩
theorem out_w16 (h : laysM M n x0 y0 z0 d0 x1 y1 z1 d1 x2 y2 z2 d2) : cSameWords.out [.l M.W, .l fillC.W, .i 16, .i 34, .i 16, .i 34] = [.b true] := by
  show [EV.b (decide (List.take (16 : Int).toNat M.W = List.take (16 : Int).toNat fillC.W))] = _
  rw [h.1, show (16 : Int).toNat = 16 from rfl, fillC_16]
  rfl
theorem node0 (h : laysM M n x0 y0 z0 4 x1 y1 z1 d1 x2 y2 z2 d2) : M.W.getD (16 + 6 * (0 : Int)).toNat 0 = x0 ∧ M.W.getD (17 + 6 * (0 : Int)).toNat 0 = y0 ∧ M.W.getD (18 + 6 * (0 : Int)).toNat 0 = z0 ∧ M.W.getD (19 + 6 * (0 : Int)).toNat 0 = 2 ∧ M.W.getD (20 + 6 * (0 : Int)).toNat 0 = 0 ∧ M.W.getD (21 + 6 * (0 : Int)).toNat 0 = 0 := by
  rw [h.1]; exact ⟨rfl, rfl, rfl, rfl, rfl, rfl⟩
theorem node1 (h : laysM M n x0 y0 z0 d0 x1 y1 z1 4 x2 y2 z2 d2) : M.W.getD (16 + 6 * (1 : Int)).toNat 0 = x1 ∧ M.W.getD (17 + 6 * (1 : Int)).toNat 0 = y1 ∧ M.W.getD (18 + 6 * (1 : Int)).toNat 0 = z1 ∧ M.W.getD (19 + 6 * (1 : Int)).toNat 0 = 2 ∧ M.W.getD (20 + 6 * (1 : Int)).toNat 0 = 0 ∧ M.W.getD (21 + 6 * (1 : Int)).toNat 0 = 0 := by
  rw [h.1]; exact ⟨rfl, rfl, rfl, rfl, rfl, rfl⟩
theorem node2 (h : laysM M n x0 y0 z0 d0 x1 y1 z1 d1 x2 y2 z2 4) : M.W.getD (16 + 6 * (2 : Int)).toNat 0 = x2 ∧ M.W.getD (17 + 6 * (2 : Int)).toNat 0 = y2 ∧ M.W.getD (18 + 6 * (2 : Int)).toNat 0 = z2 ∧ M.W.getD (19 + 6 * (2 : Int)).toNat 0 = 2 ∧ M.W.getD (20 + 6 * (2 : Int)).toNat 0 = 0 ∧ M.W.getD (21 + 6 * (2 : Int)).toNat 0 = 0 := by
  rw [h.1]; exact ⟨rfl, rfl, rfl, rfl, rfl, rfl⟩
theorem st_node {X : Cx U} {R : List (EV U) → List (EV U) → Prop} {ci : Nat} {β : List Bnd} {k : Tree} {env : List (EV U)} {i w0 w1 w2 w3 : Int} (hc : X.cts[ci]? = some (cNodeC i)) (ha : β.map (Bnd.den env) = [.u (.mem M)]) (hl : M.W.length = 34)
    (hw : M.W.getD (16 + 6 * i).toNat 0 = w0 ∧ M.W.getD (17 + 6 * i).toNat 0 = w1 ∧ M.W.getD (18 + 6 * i).toNat 0 = w2 ∧ M.W.getD (19 + 6 * i).toNat 0 = w3 ∧ M.W.getD (20 + 6 * i).toNat 0 = 0 ∧ M.W.getD (21 + 6 * i).toNat 0 = 0)
    (hk : ∀ (c : List Int) (env' : List (EV U)), env ++ [.u (.mem M), .i w0, .i w1, .i w2, .i w3, .l ([0, 0] ++ c), .i ((2 + c.length : Nat) : Int)] = env' → k.sat X R env') : (Tree.callm ci β k).sat X R env :=
  st_callm hc ha ⟨_, rfl, hl⟩ (fun o env' ho he => by
    obtain ⟨c, rfl⟩ := ho
    obtain ⟨rfl, rfl, rfl, rfl, e4, e5⟩ := hw
    simp only [e4, e5] at he
    exact hk c env' he)
end
theorem hctsT1 : ∀ (ci : Nat) (c : Ctr U), ctsT1[ci]? = some c → c.Holds objs Try.prog := by
  intro ci c h
  by_cases hlt : ci < 6
  · exact hctsT0 ci c (by rw [← h, ctsT1, List.getElem?_append_left (by exact hlt)])
  · rw [ctsT1, List.getElem?_append_right (by show 6 ≤ ci; omega)] at h
    match e : ci - ctsT0.length, h with
    | 0, h => cases h; exact hWords
    | 1, h => cases h; exact hSameWords
    | 2, h => cases h; exact hPick
    | 3, h => cases h; exact hFillC
    | 4, h => cases h; exact hNode0
    | 5, h => cases h; exact hNode1
    | 6, h => cases h; exact hNode2
    | 7, h => cases h; exact hRef0
    | 8, h => cases h; exact hRef1
    | 9, h => cases h; exact hRef2
    | 10, h => cases h; exact hlTk
    | n + 11, h => cases h
set_option maxRecDepth 10000 in
set_option maxHeartbeats 8000000 in
theorem bTL0 (P : Program) (hx : List (Nat × Nat × List Nat)) : ∀ env, lyCInv env → tTLaysL0.sat { cxT2 P with hints := hx } (ctrR cTLays) env := by
  rintro env ⟨g0, k0, c0, g1, k1, c1, g2, k2, c2, gl, kl, cl, x13, x14, x15, x16, j0, h0, j1, h1, j2, h2, x25, x26, x27, x28, x29, x30, x31, x32, x33, x34, x35, x36, x37, x38, x39, x40, x41, x42, x43, x44, x45, x46, x47, x48, x49, x50, x51, x52, x53, x54, x55, x56, x57, M, d, k, rfl, z1, z2, z3, hP, h⟩
  have hP' := hP
  obtain ⟨p1, p2, p3, ⟨r1, r2, r3, r4, r5, r6, r7, r8, r9, r10, r11, r12⟩, q1, q2, q3, q4, q5, q6⟩ := hP'
  have hj0 : IntKind.u64.wrap j0 = j0 := wu (by omega) (by omega)
  have hh0 : IntKind.i64.wrap (1 + h0) = 1 + h0 := wrap_small (by omega) (by omega)
  have hu0 : IntKind.u64.wrap (1 + h0) = 1 + h0 := wu (by omega) (by omega)
  have hj1 : IntKind.u64.wrap j1 = j1 := wu (by omega) (by omega)
  have hh1 : IntKind.i64.wrap (1 + h1) = 1 + h1 := wrap_small (by omega) (by omega)
  have hu1 : IntKind.u64.wrap (1 + h1) = 1 + h1 := wu (by omega) (by omega)
  have hj2 : IntKind.u64.wrap j2 = j2 := wu (by omega) (by omega)
  have hh2 : IntKind.i64.wrap (1 + h2) = 1 + h2 := wrap_small (by omega) (by omega)
  have hu2 : IntKind.u64.wrap (1 + h2) = 1 + h2 := wu (by omega) (by omega)
  have hh := h
  obtain ⟨hW, hN, e0, e1, e2, e3, e4, e5⟩ := hh
  have hl : M.W.length = 34 := by rw [hW]; rfl
  have hd : IntKind.i64.wrap (d + 1) = d + 1 := wrap_small (by omega) (by omega)
  have hk : IntKind.i64.wrap (k + 1) = k + 1 := wrap_small (by omega) (by omega)
  unfold tTLaysL0
  repeat' (first
    | (first
      | (with_reducible refine st_need ?_ ?_
         focus (simp only [Bx.den, Ex.den, Bnd.den, gI, gB, gL, gF, gN, gNil, List.map_cons, List.map_nil, List.cons_append, List.nil_append, List.getElem?_cons_zero, List.getElem?_cons_succ, List.getD, Option.getD_some, cmp_eql_t, cmp_eql_f, cmp_neq_t, cmp_neq_f, cmp_lss_t, cmp_lss_f, cmp_leq_t, cmp_leq_f, cmp_gtr_t, cmp_gtr_f, cmp_geq_t, cmp_geq_f, Bool.not_eq_true', Bool.not_eq_false', Bool.and_eq_true, Bool.and_eq_false_iff, binDen, Option.some.injEq, EV.u.injEq, Nil.isNil, beq_self_eq_true, and_self, true_and, and_true, or_false, false_or, or_self, not_true_eq_false, not_false_eq_true, ne_eq, Bool.true_eq_false, Bool.false_eq_true, reduceCtorEq, hj0, hh0, hu0, hj1, hh1, hu1, hj2, hh2, hu2, hd, hk, Nil.isNil, gF, tn0, tn1, tn2] <;> first | omega | assumption))
      | (with_reducible refine st_and ?_ ?_)
      | (with_reducible exact st_ok)
      | (with_reducible refine st_br (fun hc => ?_) (fun hc => ?_) <;> (simp only [Bx.den, Ex.den, Bnd.den, gI, gB, gL, gF, gN, gNil, List.map_cons, List.map_nil, List.cons_append, List.nil_append, List.getElem?_cons_zero, List.getElem?_cons_succ, List.getD, Option.getD_some, cmp_eql_t, cmp_eql_f, cmp_neq_t, cmp_neq_f, cmp_lss_t, cmp_lss_f, cmp_leq_t, cmp_leq_f, cmp_gtr_t, cmp_gtr_f, cmp_geq_t, cmp_geq_f, Bool.not_eq_true', Bool.not_eq_false', Bool.and_eq_true, Bool.and_eq_false_iff, binDen, Option.some.injEq, EV.u.injEq, Nil.isNil, beq_self_eq_true, and_self, true_and, and_true, or_false, false_or, or_self, not_true_eq_false, not_false_eq_true, ne_eq, Bool.true_eq_false, Bool.false_eq_true, reduceCtorEq, hj0, hh0, hu0, hj1, hh1, hu1, hj2, hh2, hu2, hd, hk, Nil.isNil, gF, tn0, tn1, tn2] at hc) <;> (try (exfalso; first | contradiction | omega)))
      | (refine st_call (by rfl) (by simp only [Bx.den, Ex.den, Bnd.den, gI, gB, gL, gF, gN, gNil, List.map_cons, List.map_nil, List.cons_append, List.nil_append, List.getElem?_cons_zero, List.getElem?_cons_succ, List.getD, Option.getD_some, cmp_eql_t, cmp_eql_f, cmp_neq_t, cmp_neq_f, cmp_lss_t, cmp_lss_f, cmp_leq_t, cmp_leq_f, cmp_gtr_t, cmp_gtr_f, cmp_geq_t, cmp_geq_f, Bool.not_eq_true', Bool.not_eq_false', Bool.and_eq_true, Bool.and_eq_false_iff, binDen, Option.some.injEq, EV.u.injEq, Nil.isNil, beq_self_eq_true, and_self, true_and, and_true, or_false, false_or, or_self, not_true_eq_false, not_false_eq_true, ne_eq, Bool.true_eq_false, Bool.false_eq_true, reduceCtorEq, hj0, hh0, hu0, hj1, hh1, hu1, hj2, hh2, hu2, hd, hk, Nil.isNil, gF, tn0, tn1, tn2] <;> rfl) ?_ (by simp only [out_pick, tn0, tn1, tn2, q1, q2, q3, q4, q5, q6, out_store, out_words34 hl, out_nx, out_nx', out_w16 h, out_count, hN, out_new (show (1:Int) ≤ 34 by decide) (show (34:Int) ≤ 4096 by decide), out_fillC, fillC_N] <;> rfl) (by simp only [List.cons_append, List.nil_append] <;> rfl) ?_
         focus (first | exact pre_pick (by decide) (by decide) | exact ⟨_, _, _, rfl⟩ | exact ⟨_, rfl⟩ | rfl | exact pre_nx | exact pre_w16 h))
      | (with_reducible refine st_ret (by simp only [Bx.den, Ex.den, Bnd.den, gI, gB, gL, gF, gN, gNil, List.map_cons, List.map_nil, List.cons_append, List.nil_append, List.getElem?_cons_zero, List.getElem?_cons_succ, List.getD, Option.getD_some, cmp_eql_t, cmp_eql_f, cmp_neq_t, cmp_neq_f, cmp_lss_t, cmp_lss_f, cmp_leq_t, cmp_leq_f, cmp_gtr_t, cmp_gtr_f, cmp_geq_t, cmp_geq_f, Bool.not_eq_true', Bool.not_eq_false', Bool.and_eq_true, Bool.and_eq_false_iff, binDen, Option.some.injEq, EV.u.injEq, Nil.isNil, beq_self_eq_true, and_self, true_and, and_true, or_false, false_or, or_self, not_true_eq_false, not_false_eq_true, ne_eq, Bool.true_eq_false, Bool.false_eq_true, reduceCtorEq, hj0, hh0, hu0, hj1, hh1, hu1, hj2, hh2, hu2, hd, hk, Nil.isNil, gF, tn0, tn1, tn2] <;> rfl) ?_
         (first | rfl | exact ⟨_, rfl⟩)))
    | (refine st_lst (by simp only [List.map_cons, List.map_nil, Ex.den, List.cons_append, List.nil_append] <;> rfl) ?_)
    | (have hd4 : d = 4 := by omega
       subst hd4
       refine st_node (by rfl) (by simp only [Bx.den, Ex.den, Bnd.den, gI, gB, gL, gF, gN, gNil, List.map_cons, List.map_nil, List.cons_append, List.nil_append, List.getElem?_cons_zero, List.getElem?_cons_succ, List.getD, Option.getD_some, cmp_eql_t, cmp_eql_f, cmp_neq_t, cmp_neq_f, cmp_lss_t, cmp_lss_f, cmp_leq_t, cmp_leq_f, cmp_gtr_t, cmp_gtr_f, cmp_geq_t, cmp_geq_f, Bool.not_eq_true', Bool.not_eq_false', Bool.and_eq_true, Bool.and_eq_false_iff, binDen, Option.some.injEq, EV.u.injEq, Nil.isNil, beq_self_eq_true, and_self, true_and, and_true, or_false, false_or, or_self, not_true_eq_false, not_false_eq_true, ne_eq, Bool.true_eq_false, Bool.false_eq_true, reduceCtorEq, hj0, hh0, hu0, hj1, hh1, hu1, hj2, hh2, hu2, hd, hk, Nil.isNil, gF, tn0, tn1, tn2] <;> rfl) hl (node2 h) (fun cc env' he => ?_)
       simp only [List.cons_append, List.nil_append] at he
       subst he)
    | (refine st_back (by rfl) (by simp only [Bx.den, Ex.den, Bnd.den, gI, gB, gL, gF, gN, gNil, List.map_cons, List.map_nil, List.cons_append, List.nil_append, List.getElem?_cons_zero, List.getElem?_cons_succ, List.getD, Option.getD_some, cmp_eql_t, cmp_eql_f, cmp_neq_t, cmp_neq_f, cmp_lss_t, cmp_lss_f, cmp_leq_t, cmp_leq_f, cmp_gtr_t, cmp_gtr_f, cmp_geq_t, cmp_geq_f, Bool.not_eq_true', Bool.not_eq_false', Bool.and_eq_true, Bool.and_eq_false_iff, binDen, Option.some.injEq, EV.u.injEq, Nil.isNil, beq_self_eq_true, and_self, true_and, and_true, or_false, false_or, or_self, not_true_eq_false, not_false_eq_true, ne_eq, Bool.true_eq_false, Bool.false_eq_true, reduceCtorEq, hj0, hh0, hu0, hj1, hh1, hu1, hj2, hh2, hu2, hd, hk, Nil.isNil, gF, tn0, tn1, tn2] <;> rfl) (by simp only [List.take_succ_cons, List.take_zero] <;> rfl) (by rfl) ?_ ?_
       focus (exact ⟨_, _, _, _, _, _, _, _, _, _, _, _, _, _, _, _, _, _, _, _, _, _, _, _, _, _, _, _, _, _, _, _, _, _, _, _, _, _, _, _, _, _, _, _, _, _, _, _, _, _, _, _, _, _, _, _, _, _, rfl, by omega, by omega, by omega, hP, by first | exact h | exact (lays0 h (by decide) (by decide)).1 (by omega) | exact (lays0 h (by decide) (by decide)).2.1 (by omega) | exact (lays0 h (by decide) (by decide)).2.2.1 (by omega) | exact (lays0 h (by decide) (by decide)).2.2.2 (by omega) | exact (lays1 h (by decide) (by decide)).1 (by omega) | exact (lays1 h (by decide) (by decide)).2.1 (by omega) | exact (lays1 h (by decide) (by decide)).2.2.1 (by omega) | exact (lays1 h (by decide) (by decide)).2.2.2 (by omega) | exact (lays2 h (by decide) (by decide)).1 (by omega) | exact (lays2 h (by decide) (by decide)).2.1 (by omega) | exact (lays2 h (by decide) (by decide)).2.2.1 (by omega) | exact (lays2 h (by decide) (by decide)).2.2.2 (by omega)⟩)
       focus (show ((4 : Int) - (k + 1)).toNat < ((4 : Int) - k).toNat; omega))
    | fail "no step")
set_option maxRecDepth 10000 in
set_option maxHeartbeats 8000000 in
theorem bTL1 (P : Program) (hx : List (Nat × Nat × List Nat)) : ∀ env, lyBInv env → tTLaysL1.sat { cxT2 P with hints := hx } (ctrR cTLays) env := by
  rintro env ⟨g0, k0, c0, g1, k1, c1, g2, k2, c2, gl, kl, cl, x13, x14, x15, x16, j0, h0, j1, h1, j2, h2, x25, x26, x27, d2, x29, x30, x31, x32, x33, x34, x35, x36, x37, x38, x39, x40, x41, x42, x43, M, d, k, rfl, z1, z2, z3, hP, h⟩
  have hP' := hP
  obtain ⟨p1, p2, p3, ⟨r1, r2, r3, r4, r5, r6, r7, r8, r9, r10, r11, r12⟩, q1, q2, q3, q4, q5, q6⟩ := hP'
  have hj0 : IntKind.u64.wrap j0 = j0 := wu (by omega) (by omega)
  have hh0 : IntKind.i64.wrap (1 + h0) = 1 + h0 := wrap_small (by omega) (by omega)
  have hu0 : IntKind.u64.wrap (1 + h0) = 1 + h0 := wu (by omega) (by omega)
  have hj1 : IntKind.u64.wrap j1 = j1 := wu (by omega) (by omega)
  have hh1 : IntKind.i64.wrap (1 + h1) = 1 + h1 := wrap_small (by omega) (by omega)
  have hu1 : IntKind.u64.wrap (1 + h1) = 1 + h1 := wu (by omega) (by omega)
  have hj2 : IntKind.u64.wrap j2 = j2 := wu (by omega) (by omega)
  have hh2 : IntKind.i64.wrap (1 + h2) = 1 + h2 := wrap_small (by omega) (by omega)
  have hu2 : IntKind.u64.wrap (1 + h2) = 1 + h2 := wu (by omega) (by omega)
  have hh := h
  obtain ⟨hW, hN, e0, e1, e2, e3, e4, e5⟩ := hh
  have hl : M.W.length = 34 := by rw [hW]; rfl
  have hd : IntKind.i64.wrap (d + 1) = d + 1 := wrap_small (by omega) (by omega)
  have hk : IntKind.i64.wrap (k + 1) = k + 1 := wrap_small (by omega) (by omega)
  unfold tTLaysL1
  repeat' (first
    | (first
      | (with_reducible refine st_need ?_ ?_
         focus (simp only [Bx.den, Ex.den, Bnd.den, gI, gB, gL, gF, gN, gNil, List.map_cons, List.map_nil, List.cons_append, List.nil_append, List.getElem?_cons_zero, List.getElem?_cons_succ, List.getD, Option.getD_some, cmp_eql_t, cmp_eql_f, cmp_neq_t, cmp_neq_f, cmp_lss_t, cmp_lss_f, cmp_leq_t, cmp_leq_f, cmp_gtr_t, cmp_gtr_f, cmp_geq_t, cmp_geq_f, Bool.not_eq_true', Bool.not_eq_false', Bool.and_eq_true, Bool.and_eq_false_iff, binDen, Option.some.injEq, EV.u.injEq, Nil.isNil, beq_self_eq_true, and_self, true_and, and_true, or_false, false_or, or_self, not_true_eq_false, not_false_eq_true, ne_eq, Bool.true_eq_false, Bool.false_eq_true, reduceCtorEq, hj0, hh0, hu0, hj1, hh1, hu1, hj2, hh2, hu2, hd, hk, Nil.isNil, gF, tn0, tn1, tn2] <;> first | omega | assumption))
      | (with_reducible refine st_and ?_ ?_)
      | (with_reducible exact st_ok)
      | (with_reducible refine st_br (fun hc => ?_) (fun hc => ?_) <;> (simp only [Bx.den, Ex.den, Bnd.den, gI, gB, gL, gF, gN, gNil, List.map_cons, List.map_nil, List.cons_append, List.nil_append, List.getElem?_cons_zero, List.getElem?_cons_succ, List.getD, Option.getD_some, cmp_eql_t, cmp_eql_f, cmp_neq_t, cmp_neq_f, cmp_lss_t, cmp_lss_f, cmp_leq_t, cmp_leq_f, cmp_gtr_t, cmp_gtr_f, cmp_geq_t, cmp_geq_f, Bool.not_eq_true', Bool.not_eq_false', Bool.and_eq_true, Bool.and_eq_false_iff, binDen, Option.some.injEq, EV.u.injEq, Nil.isNil, beq_self_eq_true, and_self, true_and, and_true, or_false, false_or, or_self, not_true_eq_false, not_false_eq_true, ne_eq, Bool.true_eq_false, Bool.false_eq_true, reduceCtorEq, hj0, hh0, hu0, hj1, hh1, hu1, hj2, hh2, hu2, hd, hk, Nil.isNil, gF, tn0, tn1, tn2] at hc) <;> (try (exfalso; first | contradiction | omega)))
      | (refine st_call (by rfl) (by simp only [Bx.den, Ex.den, Bnd.den, gI, gB, gL, gF, gN, gNil, List.map_cons, List.map_nil, List.cons_append, List.nil_append, List.getElem?_cons_zero, List.getElem?_cons_succ, List.getD, Option.getD_some, cmp_eql_t, cmp_eql_f, cmp_neq_t, cmp_neq_f, cmp_lss_t, cmp_lss_f, cmp_leq_t, cmp_leq_f, cmp_gtr_t, cmp_gtr_f, cmp_geq_t, cmp_geq_f, Bool.not_eq_true', Bool.not_eq_false', Bool.and_eq_true, Bool.and_eq_false_iff, binDen, Option.some.injEq, EV.u.injEq, Nil.isNil, beq_self_eq_true, and_self, true_and, and_true, or_false, false_or, or_self, not_true_eq_false, not_false_eq_true, ne_eq, Bool.true_eq_false, Bool.false_eq_true, reduceCtorEq, hj0, hh0, hu0, hj1, hh1, hu1, hj2, hh2, hu2, hd, hk, Nil.isNil, gF, tn0, tn1, tn2] <;> rfl) ?_ (by simp only [out_pick, tn0, tn1, tn2, q1, q2, q3, q4, q5, q6, out_store, out_words34 hl, out_nx, out_nx', out_w16 h, out_count, hN, out_new (show (1:Int) ≤ 34 by decide) (show (34:Int) ≤ 4096 by decide), out_fillC, fillC_N] <;> rfl) (by simp only [List.cons_append, List.nil_append] <;> rfl) ?_
         focus (first | exact pre_pick (by decide) (by decide) | exact ⟨_, _, _, rfl⟩ | exact ⟨_, rfl⟩ | rfl | exact pre_nx | exact pre_w16 h))
      | (with_reducible refine st_ret (by simp only [Bx.den, Ex.den, Bnd.den, gI, gB, gL, gF, gN, gNil, List.map_cons, List.map_nil, List.cons_append, List.nil_append, List.getElem?_cons_zero, List.getElem?_cons_succ, List.getD, Option.getD_some, cmp_eql_t, cmp_eql_f, cmp_neq_t, cmp_neq_f, cmp_lss_t, cmp_lss_f, cmp_leq_t, cmp_leq_f, cmp_gtr_t, cmp_gtr_f, cmp_geq_t, cmp_geq_f, Bool.not_eq_true', Bool.not_eq_false', Bool.and_eq_true, Bool.and_eq_false_iff, binDen, Option.some.injEq, EV.u.injEq, Nil.isNil, beq_self_eq_true, and_self, true_and, and_true, or_false, false_or, or_self, not_true_eq_false, not_false_eq_true, ne_eq, Bool.true_eq_false, Bool.false_eq_true, reduceCtorEq, hj0, hh0, hu0, hj1, hh1, hu1, hj2, hh2, hu2, hd, hk, Nil.isNil, gF, tn0, tn1, tn2] <;> rfl) ?_
         (first | rfl | exact ⟨_, rfl⟩)))
    | (refine st_lst (by simp only [List.map_cons, List.map_nil, Ex.den, List.cons_append, List.nil_append] <;> rfl) ?_)
    | (have hd4 : d = 4 := by omega
       subst hd4
       refine st_node (by rfl) (by simp only [Bx.den, Ex.den, Bnd.den, gI, gB, gL, gF, gN, gNil, List.map_cons, List.map_nil, List.cons_append, List.nil_append, List.getElem?_cons_zero, List.getElem?_cons_succ, List.getD, Option.getD_some, cmp_eql_t, cmp_eql_f, cmp_neq_t, cmp_neq_f, cmp_lss_t, cmp_lss_f, cmp_leq_t, cmp_leq_f, cmp_gtr_t, cmp_gtr_f, cmp_geq_t, cmp_geq_f, Bool.not_eq_true', Bool.not_eq_false', Bool.and_eq_true, Bool.and_eq_false_iff, binDen, Option.some.injEq, EV.u.injEq, Nil.isNil, beq_self_eq_true, and_self, true_and, and_true, or_false, false_or, or_self, not_true_eq_false, not_false_eq_true, ne_eq, Bool.true_eq_false, Bool.false_eq_true, reduceCtorEq, hj0, hh0, hu0, hj1, hh1, hu1, hj2, hh2, hu2, hd, hk, Nil.isNil, gF, tn0, tn1, tn2] <;> rfl) hl (node1 h) (fun cc env' he => ?_)
       simp only [List.cons_append, List.nil_append] at he
       subst he)
    | (refine st_back (by rfl) (by simp only [Bx.den, Ex.den, Bnd.den, gI, gB, gL, gF, gN, gNil, List.map_cons, List.map_nil, List.cons_append, List.nil_append, List.getElem?_cons_zero, List.getElem?_cons_succ, List.getD, Option.getD_some, cmp_eql_t, cmp_eql_f, cmp_neq_t, cmp_neq_f, cmp_lss_t, cmp_lss_f, cmp_leq_t, cmp_leq_f, cmp_gtr_t, cmp_gtr_f, cmp_geq_t, cmp_geq_f, Bool.not_eq_true', Bool.not_eq_false', Bool.and_eq_true, Bool.and_eq_false_iff, binDen, Option.some.injEq, EV.u.injEq, Nil.isNil, beq_self_eq_true, and_self, true_and, and_true, or_false, false_or, or_self, not_true_eq_false, not_false_eq_true, ne_eq, Bool.true_eq_false, Bool.false_eq_true, reduceCtorEq, hj0, hh0, hu0, hj1, hh1, hu1, hj2, hh2, hu2, hd, hk, Nil.isNil, gF, tn0, tn1, tn2] <;> rfl) (by simp only [List.take_succ_cons, List.take_zero] <;> rfl) (by rfl) ?_ ?_
       focus (exact ⟨_, _, _, _, _, _, _, _, _, _, _, _, _, _, _, _, _, _, _, _, _, _, _, _, _, _, _, _, _, _, _, _, _, _, _, _, _, _, _, _, _, _, _, _, rfl, by omega, by omega, by omega, hP, by first | exact h | exact (lays0 h (by decide) (by decide)).1 (by omega) | exact (lays0 h (by decide) (by decide)).2.1 (by omega) | exact (lays0 h (by decide) (by decide)).2.2.1 (by omega) | exact (lays0 h (by decide) (by decide)).2.2.2 (by omega) | exact (lays1 h (by decide) (by decide)).1 (by omega) | exact (lays1 h (by decide) (by decide)).2.1 (by omega) | exact (lays1 h (by decide) (by decide)).2.2.1 (by omega) | exact (lays1 h (by decide) (by decide)).2.2.2 (by omega) | exact (lays2 h (by decide) (by decide)).1 (by omega) | exact (lays2 h (by decide) (by decide)).2.1 (by omega) | exact (lays2 h (by decide) (by decide)).2.2.1 (by omega) | exact (lays2 h (by decide) (by decide)).2.2.2 (by omega)⟩)
       focus (show ((4 : Int) - (k + 1)).toNat < ((4 : Int) - k).toNat; omega))
    | (refine st_loop (by rfl) (by simp only [Bx.den, Ex.den, Bnd.den, gI, gB, gL, gF, gN, gNil, List.map_cons, List.map_nil, List.cons_append, List.nil_append, List.getElem?_cons_zero, List.getElem?_cons_succ, List.getD, Option.getD_some, cmp_eql_t, cmp_eql_f, cmp_neq_t, cmp_neq_f, cmp_lss_t, cmp_lss_f, cmp_leq_t, cmp_leq_f, cmp_gtr_t, cmp_gtr_f, cmp_geq_t, cmp_geq_f, Bool.not_eq_true', Bool.not_eq_false', Bool.and_eq_true, Bool.and_eq_false_iff, binDen, Option.some.injEq, EV.u.injEq, Nil.isNil, beq_self_eq_true, and_self, true_and, and_true, or_false, false_or, or_self, not_true_eq_false, not_false_eq_true, ne_eq, Bool.true_eq_false, Bool.false_eq_true, reduceCtorEq, hj0, hh0, hu0, hj1, hh1, hu1, hj2, hh2, hu2, hd, hk, Nil.isNil, gF, tn0, tn1, tn2] <;> rfl) (by simp only [List.take_succ_cons, List.take_zero] <;> rfl) ?_ (fun env' h => bTL0 P hx env' h)
       exact ⟨_, _, _, _, _, _, _, _, _, _, _, _, _, _, _, _, _, _, _, _, _, _, _, _, _, _, _, _, _, _, _, _, _, _, _, _, _, _, _, _, _, _, _, _, _, _, _, _, _, _, _, _, _, _, _, _, _, _, rfl, by omega, by omega, by omega, hP, h⟩)
    | fail "no step")
set_option maxRecDepth 10000 in
set_option maxHeartbeats 8000000 in
theorem bTL2 (P : Program) (hx : List (Nat × Nat × List Nat)) : ∀ env, lyAInv env → tTLaysL2.sat { cxT2 P with hints := hx } (ctrR cTLays) env := by
  rintro env ⟨g0, k0, c0, g1, k1, c1, g2, k2, c2, gl, kl, cl, x13, x14, x15, x16, j0, h0, j1, h1, j2, h2, x25, x26, d1, d2, x29, M, d, k, rfl, z1, z2, z3, hP, h⟩
  have hP' := hP
  obtain ⟨p1, p2, p3, ⟨r1, r2, r3, r4, r5, r6, r7, r8, r9, r10, r11, r12⟩, q1, q2, q3, q4, q5, q6⟩ := hP'
  have hj0 : IntKind.u64.wrap j0 = j0 := wu (by omega) (by omega)
  have hh0 : IntKind.i64.wrap (1 + h0) = 1 + h0 := wrap_small (by omega) (by omega)
  have hu0 : IntKind.u64.wrap (1 + h0) = 1 + h0 := wu (by omega) (by omega)
  have hj1 : IntKind.u64.wrap j1 = j1 := wu (by omega) (by omega)
  have hh1 : IntKind.i64.wrap (1 + h1) = 1 + h1 := wrap_small (by omega) (by omega)
  have hu1 : IntKind.u64.wrap (1 + h1) = 1 + h1 := wu (by omega) (by omega)
  have hj2 : IntKind.u64.wrap j2 = j2 := wu (by omega) (by omega)
  have hh2 : IntKind.i64.wrap (1 + h2) = 1 + h2 := wrap_small (by omega) (by omega)
  have hu2 : IntKind.u64.wrap (1 + h2) = 1 + h2 := wu (by omega) (by omega)
  have hh := h
  obtain ⟨hW, hN, e0, e1, e2, e3, e4, e5⟩ := hh
  have hl : M.W.length = 34 := by rw [hW]; rfl
  have hd : IntKind.i64.wrap (d + 1) = d + 1 := wrap_small (by omega) (by omega)
  have hk : IntKind.i64.wrap (k + 1) = k + 1 := wrap_small (by omega) (by omega)
  unfold tTLaysL2
  repeat' (first
    | (first
      | (with_reducible refine st_need ?_ ?_
         focus (simp only [Bx.den, Ex.den, Bnd.den, gI, gB, gL, gF, gN, gNil, List.map_cons, List.map_nil, List.cons_append, List.nil_append, List.getElem?_cons_zero, List.getElem?_cons_succ, List.getD, Option.getD_some, cmp_eql_t, cmp_eql_f, cmp_neq_t, cmp_neq_f, cmp_lss_t, cmp_lss_f, cmp_leq_t, cmp_leq_f, cmp_gtr_t, cmp_gtr_f, cmp_geq_t, cmp_geq_f, Bool.not_eq_true', Bool.not_eq_false', Bool.and_eq_true, Bool.and_eq_false_iff, binDen, Option.some.injEq, EV.u.injEq, Nil.isNil, beq_self_eq_true, and_self, true_and, and_true, or_false, false_or, or_self, not_true_eq_false, not_false_eq_true, ne_eq, Bool.true_eq_false, Bool.false_eq_true, reduceCtorEq, hj0, hh0, hu0, hj1, hh1, hu1, hj2, hh2, hu2, hd, hk, Nil.isNil, gF, tn0, tn1, tn2] <;> first | omega | assumption))
      | (with_reducible refine st_and ?_ ?_)
      | (with_reducible exact st_ok)
      | (with_reducible refine st_br (fun hc => ?_) (fun hc => ?_) <;> (simp only [Bx.den, Ex.den, Bnd.den, gI, gB, gL, gF, gN, gNil, List.map_cons, List.map_nil, List.cons_append, List.nil_append, List.getElem?_cons_zero, List.getElem?_cons_succ, List.getD, Option.getD_some, cmp_eql_t, cmp_eql_f, cmp_neq_t, cmp_neq_f, cmp_lss_t, cmp_lss_f, cmp_leq_t, cmp_leq_f, cmp_gtr_t, cmp_gtr_f, cmp_geq_t, cmp_geq_f, Bool.not_eq_true', Bool.not_eq_false', Bool.and_eq_true, Bool.and_eq_false_iff, binDen, Option.some.injEq, EV.u.injEq, Nil.isNil, beq_self_eq_true, and_self, true_and, and_true, or_false, false_or, or_self, not_true_eq_false, not_false_eq_true, ne_eq, Bool.true_eq_false, Bool.false_eq_true, reduceCtorEq, hj0, hh0, hu0, hj1, hh1, hu1, hj2, hh2, hu2, hd, hk, Nil.isNil, gF, tn0, tn1, tn2] at hc) <;> (try (exfalso; first | contradiction | omega)))
      | (refine st_call (by rfl) (by simp only [Bx.den, Ex.den, Bnd.den, gI, gB, gL, gF, gN, gNil, List.map_cons, List.map_nil, List.cons_append, List.nil_append, List.getElem?_cons_zero, List.getElem?_cons_succ, List.getD, Option.getD_some, cmp_eql_t, cmp_eql_f, cmp_neq_t, cmp_neq_f, cmp_lss_t, cmp_lss_f, cmp_leq_t, cmp_leq_f, cmp_gtr_t, cmp_gtr_f, cmp_geq_t, cmp_geq_f, Bool.not_eq_true', Bool.not_eq_false', Bool.and_eq_true, Bool.and_eq_false_iff, binDen, Option.some.injEq, EV.u.injEq, Nil.isNil, beq_self_eq_true, and_self, true_and, and_true, or_false, false_or, or_self, not_true_eq_false, not_false_eq_true, ne_eq, Bool.true_eq_false, Bool.false_eq_true, reduceCtorEq, hj0, hh0, hu0, hj1, hh1, hu1, hj2, hh2, hu2, hd, hk, Nil.isNil, gF, tn0, tn1, tn2] <;> rfl) ?_ (by simp only [out_pick, tn0, tn1, tn2, q1, q2, q3, q4, q5, q6, out_store, out_words34 hl, out_nx, out_nx', out_w16 h, out_count, hN, out_new (show (1:Int) ≤ 34 by decide) (show (34:Int) ≤ 4096 by decide), out_fillC, fillC_N] <;> rfl) (by simp only [List.cons_append, List.nil_append] <;> rfl) ?_
         focus (first | exact pre_pick (by decide) (by decide) | exact ⟨_, _, _, rfl⟩ | exact ⟨_, rfl⟩ | rfl | exact pre_nx | exact pre_w16 h))
      | (with_reducible refine st_ret (by simp only [Bx.den, Ex.den, Bnd.den, gI, gB, gL, gF, gN, gNil, List.map_cons, List.map_nil, List.cons_append, List.nil_append, List.getElem?_cons_zero, List.getElem?_cons_succ, List.getD, Option.getD_some, cmp_eql_t, cmp_eql_f, cmp_neq_t, cmp_neq_f, cmp_lss_t, cmp_lss_f, cmp_leq_t, cmp_leq_f, cmp_gtr_t, cmp_gtr_f, cmp_geq_t, cmp_geq_f, Bool.not_eq_true', Bool.not_eq_false', Bool.and_eq_true, Bool.and_eq_false_iff, binDen, Option.some.injEq, EV.u.injEq, Nil.isNil, beq_self_eq_true, and_self, true_and, and_true, or_false, false_or, or_self, not_true_eq_false, not_false_eq_true, ne_eq, Bool.true_eq_false, Bool.false_eq_true, reduceCtorEq, hj0, hh0, hu0, hj1, hh1, hu1, hj2, hh2, hu2, hd, hk, Nil.isNil, gF, tn0, tn1, tn2] <;> rfl) ?_
         (first | rfl | exact ⟨_, rfl⟩)))
    | (refine st_lst (by simp only [List.map_cons, List.map_nil, Ex.den, List.cons_append, List.nil_append] <;> rfl) ?_)
    | (have hd4 : d = 4 := by omega
       subst hd4
       refine st_node (by rfl) (by simp only [Bx.den, Ex.den, Bnd.den, gI, gB, gL, gF, gN, gNil, List.map_cons, List.map_nil, List.cons_append, List.nil_append, List.getElem?_cons_zero, List.getElem?_cons_succ, List.getD, Option.getD_some, cmp_eql_t, cmp_eql_f, cmp_neq_t, cmp_neq_f, cmp_lss_t, cmp_lss_f, cmp_leq_t, cmp_leq_f, cmp_gtr_t, cmp_gtr_f, cmp_geq_t, cmp_geq_f, Bool.not_eq_true', Bool.not_eq_false', Bool.and_eq_true, Bool.and_eq_false_iff, binDen, Option.some.injEq, EV.u.injEq, Nil.isNil, beq_self_eq_true, and_self, true_and, and_true, or_false, false_or, or_self, not_true_eq_false, not_false_eq_true, ne_eq, Bool.true_eq_false, Bool.false_eq_true, reduceCtorEq, hj0, hh0, hu0, hj1, hh1, hu1, hj2, hh2, hu2, hd, hk, Nil.isNil, gF, tn0, tn1, tn2] <;> rfl) hl (node0 h) (fun cc env' he => ?_)
       simp only [List.cons_append, List.nil_append] at he
       subst he)
    | (refine st_back (by rfl) (by simp only [Bx.den, Ex.den, Bnd.den, gI, gB, gL, gF, gN, gNil, List.map_cons, List.map_nil, List.cons_append, List.nil_append, List.getElem?_cons_zero, List.getElem?_cons_succ, List.getD, Option.getD_some, cmp_eql_t, cmp_eql_f, cmp_neq_t, cmp_neq_f, cmp_lss_t, cmp_lss_f, cmp_leq_t, cmp_leq_f, cmp_gtr_t, cmp_gtr_f, cmp_geq_t, cmp_geq_f, Bool.not_eq_true', Bool.not_eq_false', Bool.and_eq_true, Bool.and_eq_false_iff, binDen, Option.some.injEq, EV.u.injEq, Nil.isNil, beq_self_eq_true, and_self, true_and, and_true, or_false, false_or, or_self, not_true_eq_false, not_false_eq_true, ne_eq, Bool.true_eq_false, Bool.false_eq_true, reduceCtorEq, hj0, hh0, hu0, hj1, hh1, hu1, hj2, hh2, hu2, hd, hk, Nil.isNil, gF, tn0, tn1, tn2] <;> rfl) (by simp only [List.take_succ_cons, List.take_zero] <;> rfl) (by rfl) ?_ ?_
       focus (exact ⟨_, _, _, _, _, _, _, _, _, _, _, _, _, _, _, _, _, _, _, _, _, _, _, _, _, _, _, _, _, _, rfl, by omega, by omega, by omega, hP, by first | exact h | exact (lays0 h (by decide) (by decide)).1 (by omega) | exact (lays0 h (by decide) (by decide)).2.1 (by omega) | exact (lays0 h (by decide) (by decide)).2.2.1 (by omega) | exact (lays0 h (by decide) (by decide)).2.2.2 (by omega) | exact (lays1 h (by decide) (by decide)).1 (by omega) | exact (lays1 h (by decide) (by decide)).2.1 (by omega) | exact (lays1 h (by decide) (by decide)).2.2.1 (by omega) | exact (lays1 h (by decide) (by decide)).2.2.2 (by omega) | exact (lays2 h (by decide) (by decide)).1 (by omega) | exact (lays2 h (by decide) (by decide)).2.1 (by omega) | exact (lays2 h (by decide) (by decide)).2.2.1 (by omega) | exact (lays2 h (by decide) (by decide)).2.2.2 (by omega)⟩)
       focus (show ((4 : Int) - (k + 1)).toNat < ((4 : Int) - k).toNat; omega))
    | (refine st_loop (by rfl) (by simp only [Bx.den, Ex.den, Bnd.den, gI, gB, gL, gF, gN, gNil, List.map_cons, List.map_nil, List.cons_append, List.nil_append, List.getElem?_cons_zero, List.getElem?_cons_succ, List.getD, Option.getD_some, cmp_eql_t, cmp_eql_f, cmp_neq_t, cmp_neq_f, cmp_lss_t, cmp_lss_f, cmp_leq_t, cmp_leq_f, cmp_gtr_t, cmp_gtr_f, cmp_geq_t, cmp_geq_f, Bool.not_eq_true', Bool.not_eq_false', Bool.and_eq_true, Bool.and_eq_false_iff, binDen, Option.some.injEq, EV.u.injEq, Nil.isNil, beq_self_eq_true, and_self, true_and, and_true, or_false, false_or, or_self, not_true_eq_false, not_false_eq_true, ne_eq, Bool.true_eq_false, Bool.false_eq_true, reduceCtorEq, hj0, hh0, hu0, hj1, hh1, hu1, hj2, hh2, hu2, hd, hk, Nil.isNil, gF, tn0, tn1, tn2] <;> rfl) (by simp only [List.take_succ_cons, List.take_zero] <;> rfl) ?_ (fun env' h => bTL1 P hx env' h)
       exact ⟨_, _, _, _, _, _, _, _, _, _, _, _, _, _, _, _, _, _, _, _, _, _, _, _, _, _, _, _, _, _, _, _, _, _, _, _, _, _, _, _, _, _, _, _, rfl, by omega, by omega, by omega, hP, h⟩)
    | fail "no step")
set_option maxRecDepth 10000 in
set_option maxHeartbeats 8000000 in
theorem bTL3 (P : Program) (hx : List (Nat × Nat × List Nat)) : ∀ env, ly1Inv env → tTLaysL3.sat { cxT2 P with hints := hx } (ctrR cTLays) env := by
  rintro env ⟨g0, k0, c0, g1, k1, c1, g2, k2, c2, gl, kl, cl, x13, x14, x15, x16, j0, h0, j1, h1, j2, h2, M, d0, d1, d2, i, rfl, z1, z2, z3, hP, h⟩
  have hP' := hP
  obtain ⟨p1, p2, p3, ⟨r1, r2, r3, r4, r5, r6, r7, r8, r9, r10, r11, r12⟩, q1, q2, q3, q4, q5, q6⟩ := hP'
  have hj0 : IntKind.u64.wrap j0 = j0 := wu (by omega) (by omega)
  have hh0 : IntKind.i64.wrap (1 + h0) = 1 + h0 := wrap_small (by omega) (by omega)
  have hu0 : IntKind.u64.wrap (1 + h0) = 1 + h0 := wu (by omega) (by omega)
  have hj1 : IntKind.u64.wrap j1 = j1 := wu (by omega) (by omega)
  have hh1 : IntKind.i64.wrap (1 + h1) = 1 + h1 := wrap_small (by omega) (by omega)
  have hu1 : IntKind.u64.wrap (1 + h1) = 1 + h1 := wu (by omega) (by omega)
  have hj2 : IntKind.u64.wrap j2 = j2 := wu (by omega) (by omega)
  have hh2 : IntKind.i64.wrap (1 + h2) = 1 + h2 := wrap_small (by omega) (by omega)
  have hu2 : IntKind.u64.wrap (1 + h2) = 1 + h2 := wu (by omega) (by omega)
  have hh := h
  obtain ⟨hW, hN, e0, e1, e2, e3, e4, e5⟩ := hh
  have hl : M.W.length = 34 := by rw [hW]; rfl
  have hd0 : IntKind.i64.wrap (d0 + 1) = d0 + 1 := wrap_small (by omega) (by omega)
  have hd1 : IntKind.i64.wrap (d1 + 1) = d1 + 1 := wrap_small (by omega) (by omega)
  have hd2 : IntKind.i64.wrap (d2 + 1) = d2 + 1 := wrap_small (by omega) (by omega)
  have hi : IntKind.i64.wrap (i + 1) = i + 1 := wrap_small (by omega) (by omega)
  have m1 : 0 ≤ (gl i.toNat 0).emod 3 := Int.emod_nonneg _ (by decide)
  have m2 : (gl i.toNat 0).emod 3 < 3 := Int.emod_lt_of_pos _ (by decide)
  generalize hg : (gl i.toNat 0).emod 3 = pk at m1 m2
  unfold tTLaysL3
  repeat' (first
    | (first
      | (with_reducible refine st_need ?_ ?_
         focus (simp only [Bx.den, Ex.den, Bnd.den, gI, gB, gL, gF, gN, gNil, List.map_cons, List.map_nil, List.cons_append, List.nil_append, List.getElem?_cons_zero, List.getElem?_cons_succ, List.getD, Option.getD_some, cmp_eql_t, cmp_eql_f, cmp_neq_t, cmp_neq_f, cmp_lss_t, cmp_lss_f, cmp_leq_t, cmp_leq_f, cmp_gtr_t, cmp_gtr_f, cmp_geq_t, cmp_geq_f, Bool.not_eq_true', Bool.not_eq_false', Bool.and_eq_true, Bool.and_eq_false_iff, binDen, Option.some.injEq, EV.u.injEq, Nil.isNil, beq_self_eq_true, and_self, true_and, and_true, or_false, false_or, or_self, not_true_eq_false, not_false_eq_true, ne_eq, Bool.true_eq_false, Bool.false_eq_true, reduceCtorEq, hj0, hh0, hu0, hj1, hh1, hu1, hj2, hh2, hu2, hd0, hd1, hd2, hi, Nil.isNil, gF] <;> first | omega | assumption))
      | (with_reducible refine st_and ?_ ?_)
      | (with_reducible exact st_ok)
      | (with_reducible refine st_br (fun hc => ?_) (fun hc => ?_) <;> (simp only [Bx.den, Ex.den, Bnd.den, gI, gB, gL, gF, gN, gNil, List.map_cons, List.map_nil, List.cons_append, List.nil_append, List.getElem?_cons_zero, List.getElem?_cons_succ, List.getD, Option.getD_some, cmp_eql_t, cmp_eql_f, cmp_neq_t, cmp_neq_f, cmp_lss_t, cmp_lss_f, cmp_leq_t, cmp_leq_f, cmp_gtr_t, cmp_gtr_f, cmp_geq_t, cmp_geq_f, Bool.not_eq_true', Bool.not_eq_false', Bool.and_eq_true, Bool.and_eq_false_iff, binDen, Option.some.injEq, EV.u.injEq, Nil.isNil, beq_self_eq_true, and_self, true_and, and_true, or_false, false_or, or_self, not_true_eq_false, not_false_eq_true, ne_eq, Bool.true_eq_false, Bool.false_eq_true, reduceCtorEq, hj0, hh0, hu0, hj1, hh1, hu1, hj2, hh2, hu2, hd0, hd1, hd2, hi, Nil.isNil, gF] at hc) <;> (try (exfalso; first | contradiction | omega)))
      | (refine st_call (by rfl) (by simp only [Bx.den, Ex.den, Bnd.den, gI, gB, gL, gF, gN, gNil, List.map_cons, List.map_nil, List.cons_append, List.nil_append, List.getElem?_cons_zero, List.getElem?_cons_succ, List.getD, Option.getD_some, cmp_eql_t, cmp_eql_f, cmp_neq_t, cmp_neq_f, cmp_lss_t, cmp_lss_f, cmp_leq_t, cmp_leq_f, cmp_gtr_t, cmp_gtr_f, cmp_geq_t, cmp_geq_f, Bool.not_eq_true', Bool.not_eq_false', Bool.and_eq_true, Bool.and_eq_false_iff, binDen, Option.some.injEq, EV.u.injEq, Nil.isNil, beq_self_eq_true, and_self, true_and, and_true, or_false, false_or, or_self, not_true_eq_false, not_false_eq_true, ne_eq, Bool.true_eq_false, Bool.false_eq_true, reduceCtorEq, hj0, hh0, hu0, hj1, hh1, hu1, hj2, hh2, hu2, hd0, hd1, hd2, hi, Nil.isNil, gF] <;> rfl) ?_ (by simp only [out_pick, hg, q1, q2, q3, q4, q5, q6, out_store] <;> rfl) (by simp only [List.cons_append, List.nil_append] <;> rfl) ?_
         focus (first | exact pre_pick (by decide) (by decide) | exact ⟨_, _, _, rfl⟩ | exact ⟨_, rfl⟩))
      | (with_reducible refine st_ret (by simp only [Bx.den, Ex.den, Bnd.den, gI, gB, gL, gF, gN, gNil, List.map_cons, List.map_nil, List.cons_append, List.nil_append, List.getElem?_cons_zero, List.getElem?_cons_succ, List.getD, Option.getD_some, cmp_eql_t, cmp_eql_f, cmp_neq_t, cmp_neq_f, cmp_lss_t, cmp_lss_f, cmp_leq_t, cmp_leq_f, cmp_gtr_t, cmp_gtr_f, cmp_geq_t, cmp_geq_f, Bool.not_eq_true', Bool.not_eq_false', Bool.and_eq_true, Bool.and_eq_false_iff, binDen, Option.some.injEq, EV.u.injEq, Nil.isNil, beq_self_eq_true, and_self, true_and, and_true, or_false, false_or, or_self, not_true_eq_false, not_false_eq_true, ne_eq, Bool.true_eq_false, Bool.false_eq_true, reduceCtorEq, hj0, hh0, hu0, hj1, hh1, hu1, hj2, hh2, hu2, hd0, hd1, hd2, hi, Nil.isNil, gF] <;> rfl) ?_
         (first | rfl | exact ⟨_, rfl⟩)))
    | (refine st_back (by rfl) (by simp only [Bx.den, Ex.den, Bnd.den, gI, gB, gL, gF, gN, gNil, List.map_cons, List.map_nil, List.cons_append, List.nil_append, List.getElem?_cons_zero, List.getElem?_cons_succ, List.getD, Option.getD_some, cmp_eql_t, cmp_eql_f, cmp_neq_t, cmp_neq_f, cmp_lss_t, cmp_lss_f, cmp_leq_t, cmp_leq_f, cmp_gtr_t, cmp_gtr_f, cmp_geq_t, cmp_geq_f, Bool.not_eq_true', Bool.not_eq_false', Bool.and_eq_true, Bool.and_eq_false_iff, binDen, Option.some.injEq, EV.u.injEq, Nil.isNil, beq_self_eq_true, and_self, true_and, and_true, or_false, false_or, or_self, not_true_eq_false, not_false_eq_true, ne_eq, Bool.true_eq_false, Bool.false_eq_true, reduceCtorEq, hj0, hh0, hu0, hj1, hh1, hu1, hj2, hh2, hu2, hd0, hd1, hd2, hi, Nil.isNil, gF] <;> rfl) (by simp only [List.take_succ_cons, List.take_zero] <;> rfl) (by rfl) ?_ ?_
       focus (exact ⟨_, _, _, _, _, _, _, _, _, _, _, _, _, _, _, _, _, _, _, _, _, _, _, _, _, _, _, rfl, by omega, by omega, by omega, hP, by first | exact h | exact (lays0 h (by decide) (by decide)).1 (by omega) | exact (lays0 h (by decide) (by decide)).2.1 (by omega) | exact (lays0 h (by decide) (by decide)).2.2.1 (by omega) | exact (lays0 h (by decide) (by decide)).2.2.2 (by omega) | exact (lays1 h (by decide) (by decide)).1 (by omega) | exact (lays1 h (by decide) (by decide)).2.1 (by omega) | exact (lays1 h (by decide) (by decide)).2.2.1 (by omega) | exact (lays1 h (by decide) (by decide)).2.2.2 (by omega) | exact (lays2 h (by decide) (by decide)).1 (by omega) | exact (lays2 h (by decide) (by decide)).2.1 (by omega) | exact (lays2 h (by decide) (by decide)).2.2.1 (by omega) | exact (lays2 h (by decide) (by decide)).2.2.2 (by omega)⟩)
       focus (show ((kl : Int) - (i + 1)).toNat < ((kl : Int) - i).toNat; omega))
    | (refine st_loop (by rfl) (by simp only [Bx.den, Ex.den, Bnd.den, gI, gB, gL, gF, gN, gNil, List.map_cons, List.map_nil, List.cons_append, List.nil_append, List.getElem?_cons_zero, List.getElem?_cons_succ, List.getD, Option.getD_some, cmp_eql_t, cmp_eql_f, cmp_neq_t, cmp_neq_f, cmp_lss_t, cmp_lss_f, cmp_leq_t, cmp_leq_f, cmp_gtr_t, cmp_gtr_f, cmp_geq_t, cmp_geq_f, Bool.not_eq_true', Bool.not_eq_false', Bool.and_eq_true, Bool.and_eq_false_iff, binDen, Option.some.injEq, EV.u.injEq, Nil.isNil, beq_self_eq_true, and_self, true_and, and_true, or_false, false_or, or_self, not_true_eq_false, not_false_eq_true, ne_eq, Bool.true_eq_false, Bool.false_eq_true, reduceCtorEq, hj0, hh0, hu0, hj1, hh1, hu1, hj2, hh2, hu2, hd0, hd1, hd2, hi, Nil.isNil, gF] <;> rfl) (by simp only [List.take_succ_cons, List.take_zero] <;> rfl) ?_ (fun env' h => bTL2 P hx env' h)
       exact ⟨_, _, _, _, _, _, _, _, _, _, _, _, _, _, _, _, _, _, _, _, _, _, _, _, _, _, _, _, _, _, rfl, by omega, by omega, by omega, hP, h⟩)
    | fail "no step")
theorem pre_ref (r : Int) (x y : Int) : (cRefC r).pre [.i (x.emod 64), .i (1 + y.emod 2)] := by
  have a1 : 0 ≤ x.emod 64 := Int.emod_nonneg _ (by decide)
  have a2 : x.emod 64 < 64 := Int.emod_lt_of_pos _ (by decide)
  have a3 : 0 ≤ y.emod 2 := Int.emod_nonneg _ (by decide)
  have a4 : y.emod 2 < 2 := Int.emod_lt_of_pos _ (by decide)
  exact ⟨_, _, rfl, a1, a2, by omega, by omega⟩
set_option maxRecDepth 10000 in
set_option maxHeartbeats 8000000 in
theorem vTLays (P : Program) (hx : List (Nat × Nat × List Nat)) : ∀ ins, ins.length = cTLays.nin → cTLays.pre ins → tTLays.sat { cxT2 P with hints := hx } (ctrR cTLays) ins := by
  rintro ins _ ⟨g0, k0, c0, g1, k1, c1, g2, k2, c2, gl, kl, cl, rfl⟩
  have hw1 : ∀ y : Int, IntKind.i64.wrap (1 + y.emod 2) = 1 + y.emod 2 := fun y => by
    have a3 : 0 ≤ y.emod 2 := Int.emod_nonneg _ (by decide)
    have a4 : y.emod 2 < 2 := Int.emod_lt_of_pos _ (by decide)
    exact wrap_small (by omega) (by omega)
  have hm : ∀ y n : Int, 0 < n → 0 ≤ y.emod n ∧ y.emod n < n := fun y n h => ⟨Int.emod_nonneg _ (by omega), Int.emod_lt_of_pos _ h⟩
  unfold tTLays
  repeat' (first
    | (first
      | (with_reducible refine st_need ?_ ?_
         focus (simp only [Bx.den, Ex.den, Bnd.den, gI, gB, gL, gF, gN, gNil, List.map_cons, List.map_nil, List.cons_append, List.nil_append, List.getElem?_cons_zero, List.getElem?_cons_succ, List.getD, Option.getD_some, cmp_eql_t, cmp_eql_f, cmp_neq_t, cmp_neq_f, cmp_lss_t, cmp_lss_f, cmp_leq_t, cmp_leq_f, cmp_gtr_t, cmp_gtr_f, cmp_geq_t, cmp_geq_f, Bool.not_eq_true', Bool.not_eq_false', Bool.and_eq_true, Bool.and_eq_false_iff, binDen, Option.some.injEq, EV.u.injEq, Nil.isNil, beq_self_eq_true, and_self, true_and, and_true, or_false, false_or, or_self, not_true_eq_false, not_false_eq_true, ne_eq, Bool.true_eq_false, Bool.false_eq_true, reduceCtorEq, hw1, Nil.isNil, gF] <;> first | omega | assumption))
      | (with_reducible refine st_and ?_ ?_)
      | (with_reducible exact st_ok)
      | (with_reducible refine st_br (fun hc => ?_) (fun hc => ?_) <;> (simp only [Bx.den, Ex.den, Bnd.den, gI, gB, gL, gF, gN, gNil, List.map_cons, List.map_nil, List.cons_append, List.nil_append, List.getElem?_cons_zero, List.getElem?_cons_succ, List.getD, Option.getD_some, cmp_eql_t, cmp_eql_f, cmp_neq_t, cmp_neq_f, cmp_lss_t, cmp_lss_f, cmp_leq_t, cmp_leq_f, cmp_gtr_t, cmp_gtr_f, cmp_geq_t, cmp_geq_f, Bool.not_eq_true', Bool.not_eq_false', Bool.and_eq_true, Bool.and_eq_false_iff, binDen, Option.some.injEq, EV.u.injEq, Nil.isNil, beq_self_eq_true, and_self, true_and, and_true, or_false, false_or, or_self, not_true_eq_false, not_false_eq_true, ne_eq, Bool.true_eq_false, Bool.false_eq_true, reduceCtorEq, hw1, Nil.isNil, gF] at hc) <;> (try (exfalso; first | contradiction | omega)))
      | (refine st_call (by rfl) (by simp only [Bx.den, Ex.den, Bnd.den, gI, gB, gL, gF, gN, gNil, List.map_cons, List.map_nil, List.cons_append, List.nil_append, List.getElem?_cons_zero, List.getElem?_cons_succ, List.getD, Option.getD_some, cmp_eql_t, cmp_eql_f, cmp_neq_t, cmp_neq_f, cmp_lss_t, cmp_lss_f, cmp_leq_t, cmp_leq_f, cmp_gtr_t, cmp_gtr_f, cmp_geq_t, cmp_geq_f, Bool.not_eq_true', Bool.not_eq_false', Bool.and_eq_true, Bool.and_eq_false_iff, binDen, Option.some.injEq, EV.u.injEq, Nil.isNil, beq_self_eq_true, and_self, true_and, and_true, or_false, false_or, or_self, not_true_eq_false, not_false_eq_true, ne_eq, Bool.true_eq_false, Bool.false_eq_true, reduceCtorEq, hw1, Nil.isNil, gF] <;> rfl) ?_ (by simp only [out_pick, out_words34 fillC_l, out_new (show (1:Int) ≤ 34 by decide) (show (34:Int) ≤ 4096 by decide), out_fillC, out_ref0, out_ref1, out_ref2, out_litB] <;> rfl) (by simp only [List.cons_append, List.nil_append] <;> rfl) ?_
         focus (first | exact pre_pick (by decide) (by decide) | exact ⟨_, rfl⟩ | rfl | exact pre_ref _ _ _))
      | (with_reducible refine st_ret (by simp only [Bx.den, Ex.den, Bnd.den, gI, gB, gL, gF, gN, gNil, List.map_cons, List.map_nil, List.cons_append, List.nil_append, List.getElem?_cons_zero, List.getElem?_cons_succ, List.getD, Option.getD_some, cmp_eql_t, cmp_eql_f, cmp_neq_t, cmp_neq_f, cmp_lss_t, cmp_lss_f, cmp_leq_t, cmp_leq_f, cmp_gtr_t, cmp_gtr_f, cmp_geq_t, cmp_geq_f, Bool.not_eq_true', Bool.not_eq_false', Bool.and_eq_true, Bool.and_eq_false_iff, binDen, Option.some.injEq, EV.u.injEq, Nil.isNil, beq_self_eq_true, and_self, true_and, and_true, or_false, false_or, or_self, not_true_eq_false, not_false_eq_true, ne_eq, Bool.true_eq_false, Bool.false_eq_true, reduceCtorEq, hw1, Nil.isNil, gF] <;> rfl) ?_
         (first | rfl | exact ⟨_, rfl⟩)))
    | (refine st_loop (by rfl) (by simp only [Bx.den, Ex.den, Bnd.den, gI, gB, gL, gF, gN, gNil, List.map_cons, List.map_nil, List.cons_append, List.nil_append, List.getElem?_cons_zero, List.getElem?_cons_succ, List.getD, Option.getD_some, cmp_eql_t, cmp_eql_f, cmp_neq_t, cmp_neq_f, cmp_lss_t, cmp_lss_f, cmp_leq_t, cmp_leq_f, cmp_gtr_t, cmp_gtr_f, cmp_geq_t, cmp_geq_f, Bool.not_eq_true', Bool.not_eq_false', Bool.and_eq_true, Bool.and_eq_false_iff, binDen, Option.some.injEq, EV.u.injEq, Nil.isNil, beq_self_eq_true, and_self, true_and, and_true, or_false, false_or, or_self, not_true_eq_false, not_false_eq_true, ne_eq, Bool.true_eq_false, Bool.false_eq_true, reduceCtorEq, hw1, gF] <;> rfl) (by simp only [List.take_succ_cons, List.take_zero] <;> rfl) ?_ (fun env' h => bTL3 P hx env' h)
       exact ⟨_, _, _, _, _, _, _, _, _, _, _, _, _, _, _, _, _, _, _, _, _, _, _, _, _, _, _, rfl, by omega, by omega, by omega, ⟨by omega, by omega, by omega, ⟨(hm _ _ (by decide)).1, (hm _ _ (by decide)).2, (hm _ _ (by decide)).1, (hm _ _ (by decide)).2, (hm _ _ (by decide)).1, (hm _ _ (by decide)).2, (hm _ _ (by decide)).1, (hm _ _ (by decide)).2, (hm _ _ (by decide)).1, (hm _ _ (by decide)).2, (hm _ _ (by decide)).1, (hm _ _ (by decide)).2⟩, rfl, rfl, rfl, rfl, rfl, rfl⟩, lays_new⟩)
    | fail "no step")
theorem hTLays : cTLays.Holds objs Try.prog := runCtr_holds (X := { cxT2 Try.prog with hints := hsTLays }) (fuel := 40) (opens := []) (folds := []) objsOk mixed hctsT1 (callable _ Try.func11 (by kernel_rfl) (by kernel_rfl)) (by rintro ins _ ⟨_, _, _, _, _, _, _, _, _, _, _, _, rfl⟩; rfl) (by rw [rTLays]; exact vTLays _ _)
theorem towerLays_walk {v0 v1 v2 v3 : Value} {n0 c0 n1 c1 n2 c2 n3 c3 : Nat} {g0 g1 g2 g3 : Nat → Nat → Int} (W : World) (h0 : SliceAt W [some .i64] v0 n0 c0 g0) (h1 : SliceAt W [some .i64] v1 n1 c1 g1) (h2 : SliceAt W [some .i64] v2 n2 c2 g2) (h3 : SliceAt W [some .i64] v3 n3 c3 g3) : Calls Try.prog 11 #[v0, v1, v2, v3] W fun e W' => e = .returned (.bool true) ∧ Below W.heap.size W W' :=
  hTLays.law rfl (ins := [.f g0 n0, .i n0, .i c0, .f g1 n1, .i n1, .i c1, .f g2 n2, .i n2, .i c2, .f g3 n3, .i n3, .i c3]) (ρ := [ptrOf v0, ptrOf v1, ptrOf v2, ptrOf v3]) (vals := [v0, v1, v2, v3]) rfl ⟨_, _, _, _, _, _, _, _, _, _, _, _, rfl⟩ rfl
    (DenL.cons (h0.den rfl (by simp) rfl rfl) (DenL.cons (h1.den rfl (by simp) rfl rfl) (DenL.cons (h2.den rfl (by simp) rfl rfl) (DenL.cons (h3.den rfl (by simp) rfl rfl) DenL.nil))))
    (Sat.inputs rfl (by intro m e hm; match m, hm with | 0, hm => cases hm; exact .inl ⟨_, _, rfl, h0.ro rfl⟩ | 1, hm => cases hm; exact .inl ⟨_, _, rfl, h1.ro rfl⟩ | 2, hm => cases hm; exact .inl ⟨_, _, rfl, h2.ro rfl⟩ | 3, hm => cases hm; exact .inl ⟨_, _, rfl, h3.ro rfl⟩ | m + 4, hm => cases hm))
end Go.Proofs.Ytbmbiiiacajolaa
