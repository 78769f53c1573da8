/- Stacks: alone each ends: a round of the core 2. -/
import Derived.Test.YtdabdbbgaekmdaaZlV
namespace Go.Proofs.Ytdabdbbgaekmdaa
set_option linter.unusedVariables false
set_option linter.unusedSimpArgs false
set_option linter.unusedSectionVars false
open Go Go.RowKit

set_option maxRecDepth 10000 in
set_option maxHeartbeats 40000000 in
theorem bAl2 (P : Program) (hs : List (Nat × Nat × List Nat)) {o0 o1 o2 : CoreP} {H0 c0 H1 c1 H2 c2 : List Int} {y0 y1 y2 m0 m1 m2 q0 q1 q2 sz : Int} {gl : Nat → Nat → Int} {kl : Nat} {cl p : Int} {x6 x7 x8 : EV U} {M : MemSt} {i N : Int} (h1 : 0 ≤ i) (h2 : i < kl) (h3 : kl ≤ 200) (h4 : 0 ≤ p) (h5 : p < 12) (g : Geo 0 1 (1 + p)) (h : SInv M 0 1 (1 + p) i ⟨o0, H0, y0⟩ ⟨o1, H1, y1⟩ ⟨o2, H2, y2⟩) (ha : abOk M 0 o2 m2 q2 i) (hbX : abOk M 0 o0 m0 q0 i) (hcX : abOk M 0 o1 m1 q1 i) (hN : (gl i.toNat 0).emod 300 = N) (hq : N.tmod 3 = 2) :
    tAloneL3.sat { cxAl P with hints := hs } (ctrR cSAlone) (alIns o0 o1 o2 H0 c0 H1 c1 H2 c2 y0 y1 y2 m0 m1 m2 q0 q1 q2 sz gl kl cl p x6 x7 x8 M i) := by
  have hw : IntKind.i64.wrap (1 + p) = 1 + p := wrap_small (by omega) (by omega)
  have hwi : IntKind.i64.wrap (i + 1) = i + 1 := wrap_small (by omega) (by omega)
  obtain ⟨⟨z0, z1, z2, z3⟩, _⟩ := id ha
  obtain ⟨⟨z4, z5, z6, z7⟩, _⟩ := id hbX
  obtain ⟨⟨z8, z9, z10, z11⟩, _⟩ := id hcX
  have hwm : IntKind.i64.wrap (m2 + 1) = m2 + 1 := wrap_small (by omega) (by omega)
  have hwq : IntKind.i64.wrap (3 * q2) = 3 * q2 := wrap_small (by omega) (by omega)
  have hwq3 : IntKind.i64.wrap (3 * q2 + 3) = 3 * q2 + 3 := wrap_small (by omega) (by omega)
  have hwa : IntKind.i64.wrap (q0 + 1) = q0 + 1 := wrap_small (by omega) (by omega)
  have hwb : IntKind.i64.wrap (q1 + 1) = q1 + 1 := wrap_small (by omega) (by omega)
  have hg := h.swap2
  have hk3 : True := trivial
  have hh3 : True := trivial
  have hA : True := trivial
  have hB : True := trivial
  have hC : True := trivial
  have hD : True := trivial
  have hL : True := trivial
  have hLn : True := trivial
  have hLk : True := trivial
  rcases o2 with _ | P1 | P1 | P1
  rcases nil_or_last H2 with rfl | ⟨G, x, rfl⟩
  rotate_left
  · have hgl : (G.length : Int) < 100 := by
      have e1 := hg.pm.length_eq
      simp only [len_iot, CoreT.own, CoreP.lays, List.length_append, List.length_singleton] at e1
      omega
    have hA : (G ++ [x]) ++ c2 = G ++ (x :: c2) := by simp
    have hB : ((((G ++ [x]).length + c2.length : Nat)) : Int) = ((G.length + (x :: c2).length : Nat) : Int) := by simp only [List.length_append, List.length_cons, List.length_nil]; omega
    have hC : (((G ++ [x]).length : Nat) : Int) = (G.length : Int) + 1 := by simp only [List.length_append, List.length_singleton]; omega
    have hD : IntKind.i64.wrap ((G.length : Int) + 1 - 1) = (G.length : Int) := by rw [wrap_small (by omega) (by omega)]; omega
    have hL : (G ++ (x :: c2))[((G.length : Int)).toNat]?.getD 0 = x := row_last
    have hLn : (G ++ (x :: c2)).length = G.length + 1 + c2.length := by simp only [List.length_append, List.length_cons]; omega
    have hLk : (x :: c2).length = c2.length + 1 := List.length_cons
    unfold tAloneL3
    simp only [alIns, cpA_n, cpB_n, cpC_n, cpA_po, cpB_po, cpC_po, cpA_pu, cpB_pu, cpC_pu, cpA_al, cpB_al, cpC_al, hA, hB, hC]
    repeat' (first
      | (obtain ⟨hm, hab⟩ := ab_step hV (by first | exact ha | exact ab_begin rfl h1 | exact ab_begin ln_all h1 | exact ab_begin (ln_push g hg) h1) (by intro e; cases e)
         try simp only [Int.zero_add] at hab
         clear hV
         rcases cas_cases hE with ⟨hk3, hh3, hwd⟩ | ⟨hk3, hh3, hwd⟩ | ⟨hk3, hh3, hwd⟩
         have hb' := ab_other (M' := M') (q' := q0 + 1) hbX (.inr rfl)
         have hc' := ab_other (M' := M') (q' := q1 + 1) hcX (.inr rfl)
         rotate_left
         have hb' := ab_other (M' := M') (q' := q0) hbX (.inl ⟨hwd, rfl⟩)
         have hc' := ab_other (M' := M') (q' := q1) hcX (.inl ⟨hwd, rfl⟩)
         rotate_left
         have hb' := ab_other (M' := M') (q' := q0) hbX (.inl ⟨hwd, rfl⟩)
         have hc' := ab_other (M' := M') (q' := q1) hcX (.inl ⟨hwd, rfl⟩))
      | (first
        | (with_reducible refine st_need ?_ ?_
           focus (simp only [Bx.den, Ex.den, Bnd.den, gI, gB, gL, gF, gN, gNil, List.map_cons, List.map_nil, List.cons_append, List.nil_append, List.getElem?_cons_zero, List.getElem?_cons_succ, List.getD, Option.getD_some, cmp_eql_t, cmp_eql_f, cmp_neq_t, cmp_neq_f, cmp_lss_t, cmp_lss_f, cmp_leq_t, cmp_leq_f, cmp_gtr_t, cmp_gtr_f, cmp_geq_t, cmp_geq_f, Bool.not_eq_true', Bool.not_eq_false', Bool.and_eq_true, Bool.and_eq_false_iff, binDen, Option.some.injEq, EV.u.injEq, Nil.isNil, beq_self_eq_true, and_self, true_and, and_true, or_false, false_or, or_self, not_true_eq_false, not_false_eq_true, ne_eq, Bool.true_eq_false, Bool.false_eq_true, reduceCtorEq, hN, hw, hwi, hq, Nil.isNil, hwm, hwq, hwq3, hwa, hwb, List.nil_append, List.length_nil, hA, hB, hC, hD, hL, hLn, hLk, hk3, hh3] <;> first | omega | assumption))
        | (with_reducible refine st_and ?_ ?_)
        | (with_reducible exact st_ok)
        | (with_reducible refine st_br (fun hc => ?_) (fun hc => ?_) <;> (simp only [Bx.den, Ex.den, Bnd.den, gI, gB, gL, gF, gN, gNil, List.map_cons, List.map_nil, List.cons_append, List.nil_append, List.getElem?_cons_zero, List.getElem?_cons_succ, List.getD, Option.getD_some, cmp_eql_t, cmp_eql_f, cmp_neq_t, cmp_neq_f, cmp_lss_t, cmp_lss_f, cmp_leq_t, cmp_leq_f, cmp_gtr_t, cmp_gtr_f, cmp_geq_t, cmp_geq_f, Bool.not_eq_true', Bool.not_eq_false', Bool.and_eq_true, Bool.and_eq_false_iff, binDen, Option.some.injEq, EV.u.injEq, Nil.isNil, beq_self_eq_true, and_self, true_and, and_true, or_false, false_or, or_self, not_true_eq_false, not_false_eq_true, ne_eq, Bool.true_eq_false, Bool.false_eq_true, reduceCtorEq, hN, hw, hwi, hq, Nil.isNil, hwm, hwq, hwq3, hwa, hwb, List.nil_append, List.length_nil, hA, hB, hC, hD, hL, hLn, hLk, hk3, hh3] at hc) <;> (try (exfalso; first | contradiction | omega)))
        | (refine st_call (by rfl) (by simp only [Bx.den, Ex.den, Bnd.den, gI, gB, gL, gF, gN, gNil, List.map_cons, List.map_nil, List.cons_append, List.nil_append, List.getElem?_cons_zero, List.getElem?_cons_succ, List.getD, Option.getD_some, cmp_eql_t, cmp_eql_f, cmp_neq_t, cmp_neq_f, cmp_lss_t, cmp_lss_f, cmp_leq_t, cmp_leq_f, cmp_gtr_t, cmp_gtr_f, cmp_geq_t, cmp_geq_f, Bool.not_eq_true', Bool.not_eq_false', Bool.and_eq_true, Bool.and_eq_false_iff, binDen, Option.some.injEq, EV.u.injEq, Nil.isNil, beq_self_eq_true, and_self, true_and, and_true, or_false, false_or, or_self, not_true_eq_false, not_false_eq_true, ne_eq, Bool.true_eq_false, Bool.false_eq_true, reduceCtorEq, hN, hw, hwi, hq, Nil.isNil, hwm, hwq, hwq3, hwa, hwb, List.nil_append, List.length_nil, hA, hB, hC, hD, hL, hLn, hLk, hk3, hh3] <;> rfl) ?_ (by simp only [out_pick, hN, hw, out_newpo, out_newpu, out_newal, out_last, hk3, hh3] <;> rfl) (by simp only [List.cons_append, List.nil_append] <;> rfl) ?_
           focus (first | exact pre_pick (by decide) (by decide) | exact ⟨_, _, _, _, rfl⟩ | exact ⟨_, _, _, rfl⟩ | exact ⟨_, rfl⟩)))
      | (refine st_back (by rfl) (by simp only [Bx.den, Ex.den, Bnd.den, gI, gB, gL, gF, gN, gNil, List.map_cons, List.map_nil, List.cons_append, List.nil_append, List.getElem?_cons_zero, List.getElem?_cons_succ, List.getD, Option.getD_some, cmp_eql_t, cmp_eql_f, cmp_neq_t, cmp_neq_f, cmp_lss_t, cmp_lss_f, cmp_leq_t, cmp_leq_f, cmp_gtr_t, cmp_gtr_f, cmp_geq_t, cmp_geq_f, Bool.not_eq_true', Bool.not_eq_false', Bool.and_eq_true, Bool.and_eq_false_iff, binDen, Option.some.injEq, EV.u.injEq, Nil.isNil, beq_self_eq_true, and_self, true_and, and_true, or_false, false_or, or_self, not_true_eq_false, not_false_eq_true, ne_eq, Bool.true_eq_false, Bool.false_eq_true, reduceCtorEq, hN, hw, hwi, hq, Nil.isNil, hwm, hwq, hwq3, hwa, hwb, List.nil_append, List.length_nil, hA, hB, hC, hD, hL, hLn, hLk, hk3, hh3] <;> rfl) (by simp only [List.take_succ_cons, List.take_zero] <;> rfl) (by rfl) ?_ ?_
         focus (exact ⟨o0, o1, o', H0, c0, H1, c1, H', dd, _, _, _, _, _, _, _, _, _, sz, gl, kl, cl, p, _, _, _, _, i + 1, rfl, by omega, by omega, h3, h4, h5, h'.swap2, hb', hc', hab⟩)
         focus (show ((kl : Int) - (i + 1)).toNat < ((kl : Int) - i).toNat; omega))
      | (refine st_K2 (o := .pop (newPo 0 1 (1 + p))) (H := G ++ [x]) (cc := c2) (by rfl) (by simp only [Bx.den, Ex.den, Bnd.den, gI, gB, gL, gF, gN, gNil, List.map_cons, List.map_nil, List.cons_append, List.nil_append, List.getElem?_cons_zero, List.getElem?_cons_succ, List.getD, Option.getD_some, cmp_eql_t, cmp_eql_f, cmp_neq_t, cmp_neq_f, cmp_lss_t, cmp_lss_f, cmp_leq_t, cmp_leq_f, cmp_gtr_t, cmp_gtr_f, cmp_geq_t, cmp_geq_f, Bool.not_eq_true', Bool.not_eq_false', Bool.and_eq_true, Bool.and_eq_false_iff, binDen, Option.some.injEq, EV.u.injEq, Nil.isNil, beq_self_eq_true, and_self, true_and, and_true, or_false, false_or, or_self, not_true_eq_false, not_false_eq_true, ne_eq, Bool.true_eq_false, Bool.false_eq_true, reduceCtorEq, hN, hw, hwi, hq, Nil.isNil, hwm, hwq, hwq3, hwa, hwb, List.nil_append, List.length_nil, hA, hB, hC, hD, hL, hLn, hLk, hk3, hh3] <;> rfl) g (begin_pop hg) (by omega) (by intro e; cases e) (fun o' H' M' dd env' h' hV hE hok he => ?_)
         simp only [List.cons_append, List.nil_append] at he
         subst he)
      | (refine st_K2 (o := .all (newAl 0 1 (1 + p))) (H := G ++ [x]) (cc := c2) (by rfl) (by simp only [Bx.den, Ex.den, Bnd.den, gI, gB, gL, gF, gN, gNil, List.map_cons, List.map_nil, List.cons_append, List.nil_append, List.getElem?_cons_zero, List.getElem?_cons_succ, List.getD, Option.getD_some, cmp_eql_t, cmp_eql_f, cmp_neq_t, cmp_neq_f, cmp_lss_t, cmp_lss_f, cmp_leq_t, cmp_leq_f, cmp_gtr_t, cmp_gtr_f, cmp_geq_t, cmp_geq_f, Bool.not_eq_true', Bool.not_eq_false', Bool.and_eq_true, Bool.and_eq_false_iff, binDen, Option.some.injEq, EV.u.injEq, Nil.isNil, beq_self_eq_true, and_self, true_and, and_true, or_false, false_or, or_self, not_true_eq_false, not_false_eq_true, ne_eq, Bool.true_eq_false, Bool.false_eq_true, reduceCtorEq, hN, hw, hwi, hq, Nil.isNil, hwm, hwq, hwq3, hwa, hwb, List.nil_append, List.length_nil, hA, hB, hC, hD, hL, hLn, hLk, hk3, hh3] <;> rfl) g (begin_all hg) (by omega) (by intro e; cases e) (fun o' H' M' dd env' h' hV hE hok he => ?_)
         simp only [List.cons_append, List.nil_append] at he
         subst he)
      | (refine st_K2 (o := .push (newPu 0 1 (1 + p) x)) (H := G) (cc := x :: c2) (by rfl) (by simp only [Bx.den, Ex.den, Bnd.den, gI, gB, gL, gF, gN, gNil, List.map_cons, List.map_nil, List.cons_append, List.nil_append, List.getElem?_cons_zero, List.getElem?_cons_succ, List.getD, Option.getD_some, cmp_eql_t, cmp_eql_f, cmp_neq_t, cmp_neq_f, cmp_lss_t, cmp_lss_f, cmp_leq_t, cmp_leq_f, cmp_gtr_t, cmp_gtr_f, cmp_geq_t, cmp_geq_f, Bool.not_eq_true', Bool.not_eq_false', Bool.and_eq_true, Bool.and_eq_false_iff, binDen, Option.some.injEq, EV.u.injEq, Nil.isNil, beq_self_eq_true, and_self, true_and, and_true, or_false, false_or, or_self, not_true_eq_false, not_false_eq_true, ne_eq, Bool.true_eq_false, Bool.false_eq_true, reduceCtorEq, hN, hw, hwi, hq, Nil.isNil, hwm, hwq, hwq3, hwa, hwb, List.nil_append, List.length_nil, hA, hB, hC, hD, hL, hLn, hLk, hk3, hh3] <;> rfl) g (begin_push g hg) (by omega) (by intro e; cases e) (fun o' H' M' dd env' h' hV hE hok he => ?_)
         simp only [List.cons_append, List.nil_append] at he
         subst he)
      | fail "no step")
  all_goals
    unfold tAloneL3
    simp only [alIns, cpA_n, cpB_n, cpC_n, cpA_po, cpB_po, cpC_po, cpA_pu, cpB_pu, cpC_pu, cpA_al, cpB_al, cpC_al, hA, hB, hC]
    repeat' (first
      | (obtain ⟨hm, hab⟩ := ab_step hV (by first | exact ha | exact ab_begin rfl h1 | exact ab_begin ln_all h1 | exact ab_begin (ln_push g hg) h1) (by intro e; cases e)
         try simp only [Int.zero_add] at hab
         clear hV
         rcases cas_cases hE with ⟨hk3, hh3, hwd⟩ | ⟨hk3, hh3, hwd⟩ | ⟨hk3, hh3, hwd⟩
         have hb' := ab_other (M' := M') (q' := q0 + 1) hbX (.inr rfl)
         have hc' := ab_other (M' := M') (q' := q1 + 1) hcX (.inr rfl)
         rotate_left
         have hb' := ab_other (M' := M') (q' := q0) hbX (.inl ⟨hwd, rfl⟩)
         have hc' := ab_other (M' := M') (q' := q1) hcX (.inl ⟨hwd, rfl⟩)
         rotate_left
         have hb' := ab_other (M' := M') (q' := q0) hbX (.inl ⟨hwd, rfl⟩)
         have hc' := ab_other (M' := M') (q' := q1) hcX (.inl ⟨hwd, rfl⟩))
      | (first
        | (with_reducible refine st_need ?_ ?_
           focus (simp only [Bx.den, Ex.den, Bnd.den, gI, gB, gL, gF, gN, gNil, List.map_cons, List.map_nil, List.cons_append, List.nil_append, List.getElem?_cons_zero, List.getElem?_cons_succ, List.getD, Option.getD_some, cmp_eql_t, cmp_eql_f, cmp_neq_t, cmp_neq_f, cmp_lss_t, cmp_lss_f, cmp_leq_t, cmp_leq_f, cmp_gtr_t, cmp_gtr_f, cmp_geq_t, cmp_geq_f, Bool.not_eq_true', Bool.not_eq_false', Bool.and_eq_true, Bool.and_eq_false_iff, binDen, Option.some.injEq, EV.u.injEq, Nil.isNil, beq_self_eq_true, and_self, true_and, and_true, or_false, false_or, or_self, not_true_eq_false, not_false_eq_true, ne_eq, Bool.true_eq_false, Bool.false_eq_true, reduceCtorEq, hN, hw, hwi, hq, Nil.isNil, hwm, hwq, hwq3, hwa, hwb, List.nil_append, List.length_nil, hA, hB, hC, hD, hL, hLn, hLk, hk3, hh3] <;> first | omega | assumption))
        | (with_reducible refine st_and ?_ ?_)
        | (with_reducible exact st_ok)
        | (with_reducible refine st_br (fun hc => ?_) (fun hc => ?_) <;> (simp only [Bx.den, Ex.den, Bnd.den, gI, gB, gL, gF, gN, gNil, List.map_cons, List.map_nil, List.cons_append, List.nil_append, List.getElem?_cons_zero, List.getElem?_cons_succ, List.getD, Option.getD_some, cmp_eql_t, cmp_eql_f, cmp_neq_t, cmp_neq_f, cmp_lss_t, cmp_lss_f, cmp_leq_t, cmp_leq_f, cmp_gtr_t, cmp_gtr_f, cmp_geq_t, cmp_geq_f, Bool.not_eq_true', Bool.not_eq_false', Bool.and_eq_true, Bool.and_eq_false_iff, binDen, Option.some.injEq, EV.u.injEq, Nil.isNil, beq_self_eq_true, and_self, true_and, and_true, or_false, false_or, or_self, not_true_eq_false, not_false_eq_true, ne_eq, Bool.true_eq_false, Bool.false_eq_true, reduceCtorEq, hN, hw, hwi, hq, Nil.isNil, hwm, hwq, hwq3, hwa, hwb, List.nil_append, List.length_nil, hA, hB, hC, hD, hL, hLn, hLk, hk3, hh3] at hc) <;> (try (exfalso; first | contradiction | omega)))
        | (refine st_call (by rfl) (by simp only [Bx.den, Ex.den, Bnd.den, gI, gB, gL, gF, gN, gNil, List.map_cons, List.map_nil, List.cons_append, List.nil_append, List.getElem?_cons_zero, List.getElem?_cons_succ, List.getD, Option.getD_some, cmp_eql_t, cmp_eql_f, cmp_neq_t, cmp_neq_f, cmp_lss_t, cmp_lss_f, cmp_leq_t, cmp_leq_f, cmp_gtr_t, cmp_gtr_f, cmp_geq_t, cmp_geq_f, Bool.not_eq_true', Bool.not_eq_false', Bool.and_eq_true, Bool.and_eq_false_iff, binDen, Option.some.injEq, EV.u.injEq, Nil.isNil, beq_self_eq_true, and_self, true_and, and_true, or_false, false_or, or_self, not_true_eq_false, not_false_eq_true, ne_eq, Bool.true_eq_false, Bool.false_eq_true, reduceCtorEq, hN, hw, hwi, hq, Nil.isNil, hwm, hwq, hwq3, hwa, hwb, List.nil_append, List.length_nil, hA, hB, hC, hD, hL, hLn, hLk, hk3, hh3] <;> rfl) ?_ (by simp only [out_pick, hN, hw, out_newpo, out_newpu, out_newal, out_last, hk3, hh3] <;> rfl) (by simp only [List.cons_append, List.nil_append] <;> rfl) ?_
           focus (first | exact pre_pick (by decide) (by decide) | exact ⟨_, _, _, _, rfl⟩ | exact ⟨_, _, _, rfl⟩ | exact ⟨_, rfl⟩)))
      | (refine st_back (by rfl) (by simp only [Bx.den, Ex.den, Bnd.den, gI, gB, gL, gF, gN, gNil, List.map_cons, List.map_nil, List.cons_append, List.nil_append, List.getElem?_cons_zero, List.getElem?_cons_succ, List.getD, Option.getD_some, cmp_eql_t, cmp_eql_f, cmp_neq_t, cmp_neq_f, cmp_lss_t, cmp_lss_f, cmp_leq_t, cmp_leq_f, cmp_gtr_t, cmp_gtr_f, cmp_geq_t, cmp_geq_f, Bool.not_eq_true', Bool.not_eq_false', Bool.and_eq_true, Bool.and_eq_false_iff, binDen, Option.some.injEq, EV.u.injEq, Nil.isNil, beq_self_eq_true, and_self, true_and, and_true, or_false, false_or, or_self, not_true_eq_false, not_false_eq_true, ne_eq, Bool.true_eq_false, Bool.false_eq_true, reduceCtorEq, hN, hw, hwi, hq, Nil.isNil, hwm, hwq, hwq3, hwa, hwb, List.nil_append, List.length_nil, hA, hB, hC, hD, hL, hLn, hLk, hk3, hh3] <;> rfl) (by simp only [List.take_succ_cons, List.take_zero] <;> rfl) (by rfl) ?_ ?_
         focus (exact ⟨o0, o1, o', H0, c0, H1, c1, H', dd, _, _, _, _, _, _, _, _, _, sz, gl, kl, cl, p, _, _, _, _, i + 1, rfl, by omega, by omega, h3, h4, h5, h'.swap2, hb', hc', hab⟩)
         focus (show ((kl : Int) - (i + 1)).toNat < ((kl : Int) - i).toNat; omega))
      | (refine st_K2 (o := .pop P1) (H := H2) (cc := c2) (by rfl) (by simp only [Bx.den, Ex.den, Bnd.den, gI, gB, gL, gF, gN, gNil, List.map_cons, List.map_nil, List.cons_append, List.nil_append, List.getElem?_cons_zero, List.getElem?_cons_succ, List.getD, Option.getD_some, cmp_eql_t, cmp_eql_f, cmp_neq_t, cmp_neq_f, cmp_lss_t, cmp_lss_f, cmp_leq_t, cmp_leq_f, cmp_gtr_t, cmp_gtr_f, cmp_geq_t, cmp_geq_f, Bool.not_eq_true', Bool.not_eq_false', Bool.and_eq_true, Bool.and_eq_false_iff, binDen, Option.some.injEq, EV.u.injEq, Nil.isNil, beq_self_eq_true, and_self, true_and, and_true, or_false, false_or, or_self, not_true_eq_false, not_false_eq_true, ne_eq, Bool.true_eq_false, Bool.false_eq_true, reduceCtorEq, hN, hw, hwi, hq, Nil.isNil, hwm, hwq, hwq3, hwa, hwb, List.nil_append, List.length_nil, hA, hB, hC, hD, hL, hLn, hLk, hk3, hh3] <;> rfl) g (hg) (by omega) (by intro e; cases e) (fun o' H' M' dd env' h' hV hE hok he => ?_)
         simp only [List.cons_append, List.nil_append] at he
         subst he)
      | (refine st_K2 (o := .push P1) (H := H2) (cc := c2) (by rfl) (by simp only [Bx.den, Ex.den, Bnd.den, gI, gB, gL, gF, gN, gNil, List.map_cons, List.map_nil, List.cons_append, List.nil_append, List.getElem?_cons_zero, List.getElem?_cons_succ, List.getD, Option.getD_some, cmp_eql_t, cmp_eql_f, cmp_neq_t, cmp_neq_f, cmp_lss_t, cmp_lss_f, cmp_leq_t, cmp_leq_f, cmp_gtr_t, cmp_gtr_f, cmp_geq_t, cmp_geq_f, Bool.not_eq_true', Bool.not_eq_false', Bool.and_eq_true, Bool.and_eq_false_iff, binDen, Option.some.injEq, EV.u.injEq, Nil.isNil, beq_self_eq_true, and_self, true_and, and_true, or_false, false_or, or_self, not_true_eq_false, not_false_eq_true, ne_eq, Bool.true_eq_false, Bool.false_eq_true, reduceCtorEq, hN, hw, hwi, hq, Nil.isNil, hwm, hwq, hwq3, hwa, hwb, List.nil_append, List.length_nil, hA, hB, hC, hD, hL, hLn, hLk, hk3, hh3] <;> rfl) g (hg) (by omega) (by intro e; cases e) (fun o' H' M' dd env' h' hV hE hok he => ?_)
         simp only [List.cons_append, List.nil_append] at he
         subst he)
      | (refine st_K2 (o := .all P1) (H := H2) (cc := c2) (by rfl) (by simp only [Bx.den, Ex.den, Bnd.den, gI, gB, gL, gF, gN, gNil, List.map_cons, List.map_nil, List.cons_append, List.nil_append, List.getElem?_cons_zero, List.getElem?_cons_succ, List.getD, Option.getD_some, cmp_eql_t, cmp_eql_f, cmp_neq_t, cmp_neq_f, cmp_lss_t, cmp_lss_f, cmp_leq_t, cmp_leq_f, cmp_gtr_t, cmp_gtr_f, cmp_geq_t, cmp_geq_f, Bool.not_eq_true', Bool.not_eq_false', Bool.and_eq_true, Bool.and_eq_false_iff, binDen, Option.some.injEq, EV.u.injEq, Nil.isNil, beq_self_eq_true, and_self, true_and, and_true, or_false, false_or, or_self, not_true_eq_false, not_false_eq_true, ne_eq, Bool.true_eq_false, Bool.false_eq_true, reduceCtorEq, hN, hw, hwi, hq, Nil.isNil, hwm, hwq, hwq3, hwa, hwb, List.nil_append, List.length_nil, hA, hB, hC, hD, hL, hLn, hLk, hk3, hh3] <;> rfl) g (hg) (by omega) (by intro e; cases e) (fun o' H' M' dd env' h' hV hE hok he => ?_)
         simp only [List.cons_append, List.nil_append] at he
         subst he)
      | (refine st_K2 (o := .pop (newPo 0 1 (1 + p))) (H := []) (cc := c2) (by rfl) (by simp only [Bx.den, Ex.den, Bnd.den, gI, gB, gL, gF, gN, gNil, List.map_cons, List.map_nil, List.cons_append, List.nil_append, List.getElem?_cons_zero, List.getElem?_cons_succ, List.getD, Option.getD_some, cmp_eql_t, cmp_eql_f, cmp_neq_t, cmp_neq_f, cmp_lss_t, cmp_lss_f, cmp_leq_t, cmp_leq_f, cmp_gtr_t, cmp_gtr_f, cmp_geq_t, cmp_geq_f, Bool.not_eq_true', Bool.not_eq_false', Bool.and_eq_true, Bool.and_eq_false_iff, binDen, Option.some.injEq, EV.u.injEq, Nil.isNil, beq_self_eq_true, and_self, true_and, and_true, or_false, false_or, or_self, not_true_eq_false, not_false_eq_true, ne_eq, Bool.true_eq_false, Bool.false_eq_true, reduceCtorEq, hN, hw, hwi, hq, Nil.isNil, hwm, hwq, hwq3, hwa, hwb, List.nil_append, List.length_nil, hA, hB, hC, hD, hL, hLn, hLk, hk3, hh3] <;> rfl) g (begin_pop hg) (by omega) (by intro e; cases e) (fun o' H' M' dd env' h' hV hE hok he => ?_)
         simp only [List.cons_append, List.nil_append] at he
         subst he)
      | (refine st_K2 (o := .all (newAl 0 1 (1 + p))) (H := []) (cc := c2) (by rfl) (by simp only [Bx.den, Ex.den, Bnd.den, gI, gB, gL, gF, gN, gNil, List.map_cons, List.map_nil, List.cons_append, List.nil_append, List.getElem?_cons_zero, List.getElem?_cons_succ, List.getD, Option.getD_some, cmp_eql_t, cmp_eql_f, cmp_neq_t, cmp_neq_f, cmp_lss_t, cmp_lss_f, cmp_leq_t, cmp_leq_f, cmp_gtr_t, cmp_gtr_f, cmp_geq_t, cmp_geq_f, Bool.not_eq_true', Bool.not_eq_false', Bool.and_eq_true, Bool.and_eq_false_iff, binDen, Option.some.injEq, EV.u.injEq, Nil.isNil, beq_self_eq_true, and_self, true_and, and_true, or_false, false_or, or_self, not_true_eq_false, not_false_eq_true, ne_eq, Bool.true_eq_false, Bool.false_eq_true, reduceCtorEq, hN, hw, hwi, hq, Nil.isNil, hwm, hwq, hwq3, hwa, hwb, List.nil_append, List.length_nil, hA, hB, hC, hD, hL, hLn, hLk, hk3, hh3] <;> rfl) g (begin_all hg) (by omega) (by intro e; cases e) (fun o' H' M' dd env' h' hV hE hok he => ?_)
         simp only [List.cons_append, List.nil_append] at he
         subst he)
      | fail "no step")
end Go.Proofs.Ytdabdbbgaekmdaa
