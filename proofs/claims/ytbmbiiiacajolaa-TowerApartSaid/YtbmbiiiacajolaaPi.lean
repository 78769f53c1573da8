/- Cells of a tower are apart: the law holds. -/
import Derived.Test.YtbmbiiiacajolaaPhT
namespace Go.Proofs.Ytbmbiiiacajolaa
set_option linter.unusedVariables false
set_option linter.unusedSimpArgs false
set_option linter.unusedSectionVars false
open Go Go.RowKit

theorem runI_mem {a : Int} : ∀ {n i : Nat}, i < n → IntKind.i64.wrap (a + i) ∈ runI a n
  | 0, _, h => absurd h (Nat.not_lt_zero _)
  | n + 1, i, h => by
    rw [runI, List.mem_append]
    by_cases e : i = n
    · subst e; exact .inr (by simp)
    · exact .inl (runI_mem (by omega))
structure ApL (n h a s c q : Int) (H : List Int) : Prop where
  pk : 1 ≤ a ∧ a ≤ 4 ∧ 1 ≤ s ∧ s ≤ 128 ∧ 0 ≤ n ∧ n < 4096 ∧ 0 ≤ h ∧ h < 4096
  pq : 5 ≤ q ∧ q ≤ 1024
  pc : 1 ≤ c ∧ c ≤ 4096
  pn : n + q ≤ c
  ph : h + a ≤ c
  pd : n + q ≤ h ∨ h + a ≤ n
  pl : ∀ x ∈ H, ¬ (n ≤ x ∧ x < n + q) ∧ ¬ (h ≤ x ∧ x < h + a)
theorem apL_of {n h a t l s g w m ea ep ec tp c q : Int} (hf : fits15 n h a t l s g w m ea ep ec tp c = 0) (hq : s * (4 + a) = q) : ApL n h a s c q (held13 t l s g w ea ep ec tp) ∧ 1 ≤ s ∧ s ≤ 128 ∧ ec ≤ 64 ∧ (held13 t l s g w ea ep ec tp).length ≤ 8300 := by
  obtain ⟨hA, hN, hc⟩ := fits15_facts hf
  obtain ⟨h1, h2, h3, h4⟩ := id hA
  have hk := okT_facts h1
  have hl := fits13_facts h2
  have hec := (fits12_facts hl.1.2.1).2.1
  have hql : 5 ≤ q ∧ q ≤ 1024 := by
    obtain ⟨k1, k2, k3, k4, _⟩ := hk
    have : a = 1 ∨ a = 2 ∨ a = 3 ∨ a = 4 := by omega
    rcases this with rfl | rfl | rfl | rfl <;> omega
  unfold all15 at hN hc
  rw [hq] at hN hc
  have inN : ∀ x, n ≤ x → x < n + q → x ∈ runI n q.toNat := fun x hx hx' => by
    have := @runI_mem n q.toNat (x - n).toNat (by omega)
    rwa [wrap_small (by omega) (by omega), show n + (((x - n).toNat : Nat) : Int) = x by omega] at this
  have inH : ∀ x, h ≤ x → x < h + a → x ∈ runI h a.toNat := fun x hx hx' => by
    have := @runI_mem h a.toNat (x - h).toNat (by omega)
    rwa [wrap_small (by omega) (by omega), show h + (((x - h).toNat : Nat) : Int) = x by omega] at this
  have c1 := hc (n + q - 1) (List.mem_append_left _ (List.mem_append_right _ (inN _ (by omega) (by omega))))
  have c2 := hc (h + a - 1) (List.mem_append_right _ (inH _ (by omega) (by omega)))
  rw [List.nodup_append, List.nodup_append] at hN
  obtain ⟨⟨_, _, n1⟩, _, n2⟩ := hN
  refine ⟨⟨hk, hql, ⟨h3, h4⟩, by omega, by omega, ?_, fun x hx => ⟨fun e => n1 x hx x (inN x e.1 e.2) rfl, fun e => n2 x (List.mem_append_left _ hx) x (inH x e.1 e.2) rfl⟩⟩, hk.2.2.1, hk.2.2.2.1, hec, held_len (by omega) hec⟩
  have nn : ∀ x, n ≤ x → x < n + q → h ≤ x → x < h + a → False := fun x e1 e2 e3 e4 => n2 x (List.mem_append_right _ (inN x e1 e2)) x (inH x e3 e4) rfl
  by_cases e : n ≤ h
  · by_cases e2 : h < n + q
    · exact (nn h e e2 (by omega) (by omega)).elim
    · exact .inl (by omega)
  · by_cases e2 : n < h + a
    · exact (nn n (by omega) (by omega) (by omega) e2).elim
    · exact .inr (by omega)
theorem out_Who (n h a t l s g w m ea ep ec tp x : Int) : cWho.out [.i n, .i h, .i a, .i t, .i l, .i s, .i g, .i w, .i m, .i ea, .i ep, .i ec, .i tp, .i x] = [.i (whoT n h a s x).1, .i (whoT n h a s x).2.1, .b (whoT n h a s x).2.2] := rfl
theorem out_At (n h a t l s g w m ea ep ec tp i p : Int) : cAt.out [.i n, .i h, .i a, .i t, .i l, .i s, .i g, .i w, .i m, .i ea, .i ep, .i ec, .i tp, .i i, .i p] = [.i (atT n h a s i p)] := rfl
theorem out_Tk : (boolC 8 : Ctr U).out [] = [.b true] := rfl
theorem who_none {n h a s x : Int} (h1 : ¬ (n ≤ x ∧ x < n + s * (4 + a))) (h2 : ¬ (h ≤ x ∧ x < h + a)) : whoT n h a s x = (0, 0, false) := (who_out h1 h2).symm
set_option maxHeartbeats 8000000 in
theorem bAp2 (P : Program) (hs : List (Nat × Nat × List Nat)) : ∀ env, apInv2 env → tTApartL0.sat { cxPh P with hints := hs } (ctrR cTApart) env := by
  rintro env ⟨n, h, a, t, l, s, g, w, m, ea, ep, ec, tp, c, x15, x17, V, d, cap, k, rfl, hf, hV, h0, h1⟩
  obtain ⟨q, hq⟩ : ∃ q, s * (4 + a) = q := ⟨_, rfl⟩
  obtain ⟨A, hs1, hs2, hec, hvl⟩ := apL_of hf hq
  rw [← hV] at A hvl
  obtain ⟨k1, k2, k3, k4, k5, k6, k7, k8⟩ := A.pk
  obtain ⟨q1, q2⟩ := A.pq
  obtain ⟨c1, c2⟩ := A.pc
  have hwk : IntKind.i64.wrap (k + 1) = k + 1 := wrap_small (by omega) (by omega)
  have hwa : IntKind.i64.wrap (4 + a) = 4 + a := wrap_small (by omega) (by omega)
  have hwq : IntKind.i64.wrap q = q := wrap_small (by omega) (by omega)
  have hwqa : IntKind.i64.wrap (q + a) = q + a := wrap_small (by omega) (by omega)
  have hla : (V ++ d).length = V.length + d.length := List.length_append
  rw [hq]
  by_cases hk : k < V.length
  · have hg := getD_app (d := d) h0 hk
    have hgm := (get_at h0 hk).1
    obtain ⟨x, hx⟩ : ∃ x, V[k.toNat]?.getD 0 = x := ⟨_, rfl⟩
    rw [hx] at hg hgm
    have hx2 := A.pl x hgm
    have hW := @who_none n h a s x (by rw [hq]; exact hx2.1) hx2.2
    unfold tTApartL0
    repeat' (first
      | (first
        | (with_reducible refine st_need ?_ ?_
           focus (simp only [Bx.den, Ex.den, Bnd.den, gI, gB, gL, gF, gN, gNil, List.map_cons, List.map_nil, List.cons_append, List.nil_append, List.getElem?_cons_zero, List.getElem?_cons_succ, List.getD, Option.getD_some, cmp_eql_t, cmp_eql_f, cmp_neq_t, cmp_neq_f, cmp_lss_t, cmp_lss_f, cmp_leq_t, cmp_leq_f, cmp_gtr_t, cmp_gtr_f, cmp_geq_t, cmp_geq_f, Bool.not_eq_true', Bool.not_eq_false', Bool.and_eq_true, Bool.and_eq_false_iff, binDen, Option.some.injEq, EV.u.injEq, Nil.isNil, beq_self_eq_true, and_self, true_and, and_true, or_false, false_or, or_self, not_true_eq_false, not_false_eq_true, ne_eq, Bool.true_eq_false, Bool.false_eq_true, reduceCtorEq, hla, hg, hW, hwk] <;> first | omega | assumption))
        | (with_reducible refine st_and ?_ ?_)
        | (with_reducible exact st_ok)
        | (with_reducible refine st_br (fun hc => ?_) (fun hc => ?_) <;> (simp only [Bx.den, Ex.den, Bnd.den, gI, gB, gL, gF, gN, gNil, List.map_cons, List.map_nil, List.cons_append, List.nil_append, List.getElem?_cons_zero, List.getElem?_cons_succ, List.getD, Option.getD_some, cmp_eql_t, cmp_eql_f, cmp_neq_t, cmp_neq_f, cmp_lss_t, cmp_lss_f, cmp_leq_t, cmp_leq_f, cmp_gtr_t, cmp_gtr_f, cmp_geq_t, cmp_geq_f, Bool.not_eq_true', Bool.not_eq_false', Bool.and_eq_true, Bool.and_eq_false_iff, binDen, Option.some.injEq, EV.u.injEq, Nil.isNil, beq_self_eq_true, and_self, true_and, and_true, or_false, false_or, or_self, not_true_eq_false, not_false_eq_true, ne_eq, Bool.true_eq_false, Bool.false_eq_true, reduceCtorEq, hla, hg, hW, hwk] at hc) <;> (try (exfalso; first | contradiction | omega)))
        | (refine st_call (by rfl) (by simp only [Bx.den, Ex.den, Bnd.den, gI, gB, gL, gF, gN, gNil, List.map_cons, List.map_nil, List.cons_append, List.nil_append, List.getElem?_cons_zero, List.getElem?_cons_succ, List.getD, Option.getD_some, cmp_eql_t, cmp_eql_f, cmp_neq_t, cmp_neq_f, cmp_lss_t, cmp_lss_f, cmp_leq_t, cmp_leq_f, cmp_gtr_t, cmp_gtr_f, cmp_geq_t, cmp_geq_f, Bool.not_eq_true', Bool.not_eq_false', Bool.and_eq_true, Bool.and_eq_false_iff, binDen, Option.some.injEq, EV.u.injEq, Nil.isNil, beq_self_eq_true, and_self, true_and, and_true, or_false, false_or, or_self, not_true_eq_false, not_false_eq_true, ne_eq, Bool.true_eq_false, Bool.false_eq_true, reduceCtorEq, hla, hg, hW, hwk] <;> rfl) ?_ (by simp only [out_Who, hg, hW] <;> rfl) (by simp only [List.cons_append, List.nil_append] <;> rfl) ?_
           focus (first | exact ⟨_, _, _, _, _, _, _, _, _, _, _, _, _, _, rfl⟩)))
      | (refine st_back (by rfl) (by simp only [Bx.den, Ex.den, Bnd.den, gI, gB, gL, gF, gN, gNil, List.map_cons, List.map_nil, List.cons_append, List.nil_append, List.getElem?_cons_zero, List.getElem?_cons_succ, List.getD, Option.getD_some, cmp_eql_t, cmp_eql_f, cmp_neq_t, cmp_neq_f, cmp_lss_t, cmp_lss_f, cmp_leq_t, cmp_leq_f, cmp_gtr_t, cmp_gtr_f, cmp_geq_t, cmp_geq_f, Bool.not_eq_true', Bool.not_eq_false', Bool.and_eq_true, Bool.and_eq_false_iff, binDen, Option.some.injEq, EV.u.injEq, Nil.isNil, beq_self_eq_true, and_self, true_and, and_true, or_false, false_or, or_self, not_true_eq_false, not_false_eq_true, ne_eq, Bool.true_eq_false, Bool.false_eq_true, reduceCtorEq, hwk] <;> rfl) (by simp only [List.take_succ_cons, List.take_zero] <;> rfl) (by rfl) ?_ ?_
         focus exact ⟨n, h, a, t, l, s, g, w, m, ea, ep, ec, tp, c, x15, x17, V, d, cap, k + 1, by rw [hq]; rfl, hf, hV, by omega, by omega⟩
         focus (show ((V.length : Int) - (k + 1)).toNat < ((V.length : Int) - k).toNat; omega))
      | fail "no step")
  · have hg : True := trivial
    unfold tTApartL0
    repeat' (first
      | (first
        | (with_reducible refine st_need ?_ ?_
           focus (simp only [Bx.den, Ex.den, Bnd.den, gI, gB, gL, gF, gN, gNil, List.map_cons, List.map_nil, List.cons_append, List.nil_append, List.getElem?_cons_zero, List.getElem?_cons_succ, List.getD, Option.getD_some, cmp_eql_t, cmp_eql_f, cmp_neq_t, cmp_neq_f, cmp_lss_t, cmp_lss_f, cmp_leq_t, cmp_leq_f, cmp_gtr_t, cmp_gtr_f, cmp_geq_t, cmp_geq_f, Bool.not_eq_true', Bool.not_eq_false', Bool.and_eq_true, Bool.and_eq_false_iff, binDen, Option.some.injEq, EV.u.injEq, Nil.isNil, beq_self_eq_true, and_self, true_and, and_true, or_false, false_or, or_self, not_true_eq_false, not_false_eq_true, ne_eq, Bool.true_eq_false, Bool.false_eq_true, reduceCtorEq, hla, hwa, hq, hwq, hwqa] <;> first | omega | assumption))
        | (with_reducible refine st_and ?_ ?_)
        | (with_reducible exact st_ok)
        | (with_reducible refine st_br (fun hc => ?_) (fun hc => ?_) <;> (simp only [Bx.den, Ex.den, Bnd.den, gI, gB, gL, gF, gN, gNil, List.map_cons, List.map_nil, List.cons_append, List.nil_append, List.getElem?_cons_zero, List.getElem?_cons_succ, List.getD, Option.getD_some, cmp_eql_t, cmp_eql_f, cmp_neq_t, cmp_neq_f, cmp_lss_t, cmp_lss_f, cmp_leq_t, cmp_leq_f, cmp_gtr_t, cmp_gtr_f, cmp_geq_t, cmp_geq_f, Bool.not_eq_true', Bool.not_eq_false', Bool.and_eq_true, Bool.and_eq_false_iff, binDen, Option.some.injEq, EV.u.injEq, Nil.isNil, beq_self_eq_true, and_self, true_and, and_true, or_false, false_or, or_self, not_true_eq_false, not_false_eq_true, ne_eq, Bool.true_eq_false, Bool.false_eq_true, reduceCtorEq, hla, hwa, hq, hwq, hwqa] at hc) <;> (try (exfalso; first | contradiction | omega)))
        | (refine st_call (by rfl) (by simp only [Bx.den, Ex.den, Bnd.den, gI, gB, gL, gF, gN, gNil, List.map_cons, List.map_nil, List.cons_append, List.nil_append, List.getElem?_cons_zero, List.getElem?_cons_succ, List.getD, Option.getD_some, cmp_eql_t, cmp_eql_f, cmp_neq_t, cmp_neq_f, cmp_lss_t, cmp_lss_f, cmp_leq_t, cmp_leq_f, cmp_gtr_t, cmp_gtr_f, cmp_geq_t, cmp_geq_f, Bool.not_eq_true', Bool.not_eq_false', Bool.and_eq_true, Bool.and_eq_false_iff, binDen, Option.some.injEq, EV.u.injEq, Nil.isNil, beq_self_eq_true, and_self, true_and, and_true, or_false, false_or, or_self, not_true_eq_false, not_false_eq_true, ne_eq, Bool.true_eq_false, Bool.false_eq_true, reduceCtorEq, hla, hwa, hq, hwq, hwqa] <;> rfl) ?_ (by rfl <;> rfl) (by simp only [List.cons_append, List.nil_append] <;> rfl) ?_
           focus (first | rfl)))
      | (refine st_ret (by simp only [Bx.den, Ex.den, Bnd.den, gI, gB, gL, gF, gN, gNil, List.map_cons, List.map_nil, List.cons_append, List.nil_append, List.getElem?_cons_zero, List.getElem?_cons_succ, List.getD, Option.getD_some, cmp_eql_t, cmp_eql_f, cmp_neq_t, cmp_neq_f, cmp_lss_t, cmp_lss_f, cmp_leq_t, cmp_leq_f, cmp_gtr_t, cmp_gtr_f, cmp_geq_t, cmp_geq_f, Bool.not_eq_true', Bool.not_eq_false', Bool.and_eq_true, Bool.and_eq_false_iff, binDen, Option.some.injEq, EV.u.injEq, Nil.isNil, beq_self_eq_true, and_self, true_and, and_true, or_false, false_or, or_self, not_true_eq_false, not_false_eq_true, ne_eq, Bool.true_eq_false, Bool.false_eq_true, reduceCtorEq, hwa, hq, hwq, hwqa] <;> rfl) ?_
         focus (show [EV.b _] = [EV.b true]; simp [cmpDen]))
      | fail "no step")
set_option maxHeartbeats 8000000 in
theorem bAp1 (P : Program) (hs : List (Nat × Nat × List Nat)) : ∀ env, apInv1 env → tTApartL1.sat { cxPh P with hints := hs } (ctrR cTApart) env := by
  rintro env ⟨n, h, a, t, l, s, g, w, m, ea, ep, ec, tp, c, x15, k, rfl, hf, h0, h1⟩
  obtain ⟨q, hq⟩ : ∃ q, s * (4 + a) = q := ⟨_, rfl⟩
  obtain ⟨A, hs1, hs2, hec, hvl⟩ := apL_of hf hq
  obtain ⟨k1, k2, k3, k4, k5, k6, k7, k8⟩ := id A.pk
  obtain ⟨q1, q2⟩ := A.pq
  obtain ⟨c1, c2⟩ := A.pc
  have a1 := A.pn
  have a2 := A.ph
  have a3 := A.pd
  have hwk : IntKind.i64.wrap (k + 1) = k + 1 := wrap_small (by omega) (by omega)
  rw [hq]
  have u1 : 0 ≤ upto n q k ∧ upto n q k ≤ q := by unfold upto; split <;> (try split) <;> omega
  have u2 : 0 ≤ upto h a k ∧ upto h a k ≤ a := by unfold upto; split <;> (try split) <;> omega
  have hwm : IntKind.i64.wrap (upto n q k + upto h a k + 1) = upto n q k + upto h a k + 1 := wrap_small (by omega) (by omega)
  by_cases hk : k < c
  · have main : (∃ i p, whoT n h a s k = (i, p, true) ∧ atT n h a s i p = k ∧ 0 ≤ p ∧ p < 8 ∧ upto n q k + upto h a k + 1 = upto n q (k + 1) + upto h a (k + 1)) ∨ whoT n h a s k = (0, 0, false) ∧ upto n q k + upto h a k = upto n q (k + 1) + upto h a (k + 1) := by
      by_cases hn : n ≤ k ∧ k < n + q
      · refine .inl ⟨_, _, (who_node A.pk (by rw [hq]; exact hn) rfl rfl).symm, ?_, ?_, ?_, ?_⟩
        · have e1 := Int.mul_ediv_add_emod (k - n) (4 + a)
          have e2 := Int.emod_nonneg (k - n) (show (4 + a : Int) ≠ 0 by omega)
          have e3 := Int.emod_lt_of_pos (k - n) (show (0 : Int) < 4 + a by omega)
          have e4 := Int.ediv_nonneg (show 0 ≤ k - n by omega) (show 0 ≤ 4 + a by omega)
          have e5 : (k - n) / (4 + a) < s := Int.ediv_lt_of_lt_mul (by omega) (by rw [hq]; omega)
          rw [at_in A.pk ⟨by omega, e5, e2, e3, .inl e4⟩, if_neg (by omega), Int.mul_comm ((k - n) / (4 + a)) (4 + a)]
          omega
        · exact Int.emod_nonneg _ (by omega)
        · have := Int.emod_lt_of_pos (k - n) (show (0 : Int) < 4 + a by omega); omega
        · unfold upto; repeat' split
          all_goals omega
      · by_cases hh : h ≤ k ∧ k < h + a
        · refine .inl ⟨_, _, (who_head A.pk (by rw [hq]; exact hn) hh rfl).symm, ?_, by omega, by omega, ?_⟩
          · rw [at_in A.pk ⟨by omega, by omega, by omega, by omega, .inr (by omega)⟩, if_pos (by omega)]; omega
          · unfold upto; repeat' split
            all_goals omega
        · refine .inr ⟨who_none (by rw [hq]; exact hn) hh, ?_⟩
          unfold upto; repeat' split
          all_goals omega
    rcases main with ⟨i, p, hW, hA, hp0, hp8, hM⟩ | ⟨hW, hM⟩
    · have hwm2 := hwm
      rw [hM] at hwm2
      have hp4 : IntKind.i64.wrap (p - 4) = p - 4 := wrap_small (by omega) (by omega)
      have hp5 : IntKind.i64.wrap (4 + (p - 4)) = p := by rw [wrap_small (by omega) (by omega)]; omega
      unfold tTApartL1
      repeat' (first
        | (first
          | (with_reducible refine st_need ?_ ?_
             focus (simp only [Bx.den, Ex.den, Bnd.den, gI, gB, gL, gF, gN, gNil, List.map_cons, List.map_nil, List.cons_append, List.nil_append, List.getElem?_cons_zero, List.getElem?_cons_succ, List.getD, Option.getD_some, cmp_eql_t, cmp_eql_f, cmp_neq_t, cmp_neq_f, cmp_lss_t, cmp_lss_f, cmp_leq_t, cmp_leq_f, cmp_gtr_t, cmp_gtr_f, cmp_geq_t, cmp_geq_f, Bool.not_eq_true', Bool.not_eq_false', Bool.and_eq_true, Bool.and_eq_false_iff, binDen, Option.some.injEq, EV.u.injEq, Nil.isNil, beq_self_eq_true, and_self, true_and, and_true, or_false, false_or, or_self, not_true_eq_false, not_false_eq_true, ne_eq, Bool.true_eq_false, Bool.false_eq_true, reduceCtorEq, hW, hA, hwk, hp4, hp5] <;> first | omega | assumption))
          | (with_reducible refine st_and ?_ ?_)
          | (with_reducible exact st_ok)
          | (with_reducible refine st_br (fun hc => ?_) (fun hc => ?_) <;> (simp only [Bx.den, Ex.den, Bnd.den, gI, gB, gL, gF, gN, gNil, List.map_cons, List.map_nil, List.cons_append, List.nil_append, List.getElem?_cons_zero, List.getElem?_cons_succ, List.getD, Option.getD_some, cmp_eql_t, cmp_eql_f, cmp_neq_t, cmp_neq_f, cmp_lss_t, cmp_lss_f, cmp_leq_t, cmp_leq_f, cmp_gtr_t, cmp_gtr_f, cmp_geq_t, cmp_geq_f, Bool.not_eq_true', Bool.not_eq_false', Bool.and_eq_true, Bool.and_eq_false_iff, binDen, Option.some.injEq, EV.u.injEq, Nil.isNil, beq_self_eq_true, and_self, true_and, and_true, or_false, false_or, or_self, not_true_eq_false, not_false_eq_true, ne_eq, Bool.true_eq_false, Bool.false_eq_true, reduceCtorEq, hW, hA, hwk, hp4, hp5] at hc) <;> (try (exfalso; first | contradiction | omega)))
          | (refine st_call (by rfl) (by simp only [Bx.den, Ex.den, Bnd.den, gI, gB, gL, gF, gN, gNil, List.map_cons, List.map_nil, List.cons_append, List.nil_append, List.getElem?_cons_zero, List.getElem?_cons_succ, List.getD, Option.getD_some, cmp_eql_t, cmp_eql_f, cmp_neq_t, cmp_neq_f, cmp_lss_t, cmp_lss_f, cmp_leq_t, cmp_leq_f, cmp_gtr_t, cmp_gtr_f, cmp_geq_t, cmp_geq_f, Bool.not_eq_true', Bool.not_eq_false', Bool.and_eq_true, Bool.and_eq_false_iff, binDen, Option.some.injEq, EV.u.injEq, Nil.isNil, beq_self_eq_true, and_self, true_and, and_true, or_false, false_or, or_self, not_true_eq_false, not_false_eq_true, ne_eq, Bool.true_eq_false, Bool.false_eq_true, reduceCtorEq, hW, hA, hwk, hp4, hp5] <;> rfl) ?_ (by simp only [out_Who, out_At, hW, hA] <;> rfl) (by simp only [List.cons_append, List.nil_append] <;> rfl) ?_
             focus (first | exact ⟨_, _, _, _, _, _, _, _, _, _, _, _, _, _, rfl⟩ | exact ⟨_, _, _, _, _, _, _, _, _, _, _, _, _, _, _, rfl⟩)))
        | (refine st_back (by rfl) (by simp only [Bx.den, Ex.den, Bnd.den, gI, gB, gL, gF, gN, gNil, List.map_cons, List.map_nil, List.cons_append, List.nil_append, List.getElem?_cons_zero, List.getElem?_cons_succ, List.getD, Option.getD_some, cmp_eql_t, cmp_eql_f, cmp_neq_t, cmp_neq_f, cmp_lss_t, cmp_lss_f, cmp_leq_t, cmp_leq_f, cmp_gtr_t, cmp_gtr_f, cmp_geq_t, cmp_geq_f, Bool.not_eq_true', Bool.not_eq_false', Bool.and_eq_true, Bool.and_eq_false_iff, binDen, Option.some.injEq, EV.u.injEq, Nil.isNil, beq_self_eq_true, and_self, true_and, and_true, or_false, false_or, or_self, not_true_eq_false, not_false_eq_true, ne_eq, Bool.true_eq_false, Bool.false_eq_true, reduceCtorEq, hwk, hM, hwm2] <;> rfl) (by simp only [List.take_succ_cons, List.take_zero] <;> rfl) (by rfl) ?_ ?_
           focus exact ⟨n, h, a, t, l, s, g, w, m, ea, ep, ec, tp, c, x15, k + 1, by rw [hq]; rfl, hf, by omega, by omega⟩
           focus (show (c - (k + 1)).toNat < (c - k).toNat; omega))
        | fail "no step")
    · unfold tTApartL1
      repeat' (first
        | (first
          | (with_reducible refine st_need ?_ ?_
             focus (simp only [Bx.den, Ex.den, Bnd.den, gI, gB, gL, gF, gN, gNil, List.map_cons, List.map_nil, List.cons_append, List.nil_append, List.getElem?_cons_zero, List.getElem?_cons_succ, List.getD, Option.getD_some, cmp_eql_t, cmp_eql_f, cmp_neq_t, cmp_neq_f, cmp_lss_t, cmp_lss_f, cmp_leq_t, cmp_leq_f, cmp_gtr_t, cmp_gtr_f, cmp_geq_t, cmp_geq_f, Bool.not_eq_true', Bool.not_eq_false', Bool.and_eq_true, Bool.and_eq_false_iff, binDen, Option.some.injEq, EV.u.injEq, Nil.isNil, beq_self_eq_true, and_self, true_and, and_true, or_false, false_or, or_self, not_true_eq_false, not_false_eq_true, ne_eq, Bool.true_eq_false, Bool.false_eq_true, reduceCtorEq, hW, hwk] <;> first | omega | assumption))
          | (with_reducible refine st_and ?_ ?_)
          | (with_reducible exact st_ok)
          | (with_reducible refine st_br (fun hc => ?_) (fun hc => ?_) <;> (simp only [Bx.den, Ex.den, Bnd.den, gI, gB, gL, gF, gN, gNil, List.map_cons, List.map_nil, List.cons_append, List.nil_append, List.getElem?_cons_zero, List.getElem?_cons_succ, List.getD, Option.getD_some, cmp_eql_t, cmp_eql_f, cmp_neq_t, cmp_neq_f, cmp_lss_t, cmp_lss_f, cmp_leq_t, cmp_leq_f, cmp_gtr_t, cmp_gtr_f, cmp_geq_t, cmp_geq_f, Bool.not_eq_true', Bool.not_eq_false', Bool.and_eq_true, Bool.and_eq_false_iff, binDen, Option.some.injEq, EV.u.injEq, Nil.isNil, beq_self_eq_true, and_self, true_and, and_true, or_false, false_or, or_self, not_true_eq_false, not_false_eq_true, ne_eq, Bool.true_eq_false, Bool.false_eq_true, reduceCtorEq, hW, hwk] at hc) <;> (try (exfalso; first | contradiction | omega)))
          | (refine st_call (by rfl) (by simp only [Bx.den, Ex.den, Bnd.den, gI, gB, gL, gF, gN, gNil, List.map_cons, List.map_nil, List.cons_append, List.nil_append, List.getElem?_cons_zero, List.getElem?_cons_succ, List.getD, Option.getD_some, cmp_eql_t, cmp_eql_f, cmp_neq_t, cmp_neq_f, cmp_lss_t, cmp_lss_f, cmp_leq_t, cmp_leq_f, cmp_gtr_t, cmp_gtr_f, cmp_geq_t, cmp_geq_f, Bool.not_eq_true', Bool.not_eq_false', Bool.and_eq_true, Bool.and_eq_false_iff, binDen, Option.some.injEq, EV.u.injEq, Nil.isNil, beq_self_eq_true, and_self, true_and, and_true, or_false, false_or, or_self, not_true_eq_false, not_false_eq_true, ne_eq, Bool.true_eq_false, Bool.false_eq_true, reduceCtorEq, hW, hwk] <;> rfl) ?_ (by simp only [out_Who, hW] <;> rfl) (by simp only [List.cons_append, List.nil_append] <;> rfl) ?_
             focus (first | exact ⟨_, _, _, _, _, _, _, _, _, _, _, _, _, _, rfl⟩)))
        | (refine st_back (by rfl) (by simp only [Bx.den, Ex.den, Bnd.den, gI, gB, gL, gF, gN, gNil, List.map_cons, List.map_nil, List.cons_append, List.nil_append, List.getElem?_cons_zero, List.getElem?_cons_succ, List.getD, Option.getD_some, cmp_eql_t, cmp_eql_f, cmp_neq_t, cmp_neq_f, cmp_lss_t, cmp_lss_f, cmp_leq_t, cmp_leq_f, cmp_gtr_t, cmp_gtr_f, cmp_geq_t, cmp_geq_f, Bool.not_eq_true', Bool.not_eq_false', Bool.and_eq_true, Bool.and_eq_false_iff, binDen, Option.some.injEq, EV.u.injEq, Nil.isNil, beq_self_eq_true, and_self, true_and, and_true, or_false, false_or, or_self, not_true_eq_false, not_false_eq_true, ne_eq, Bool.true_eq_false, Bool.false_eq_true, reduceCtorEq, hwk, hM] <;> rfl) (by simp only [List.take_succ_cons, List.take_zero] <;> rfl) (by rfl) ?_ ?_
           focus exact ⟨n, h, a, t, l, s, g, w, m, ea, ep, ec, tp, c, x15, k + 1, by rw [hq]; rfl, hf, by omega, by omega⟩
           focus (show (c - (k + 1)).toNat < (c - k).toNat; omega))
        | fail "no step")
  · have hM : upto n q k + upto h a k = q + a := by unfold upto; repeat' split
                                                    all_goals omega
    rw [hM]
    unfold tTApartL1
    repeat' (first
      | (first
        | (with_reducible refine st_need ?_ ?_
           focus (simp only [Bx.den, Ex.den, Bnd.den, gI, gB, gL, gF, gN, gNil, List.map_cons, List.map_nil, List.cons_append, List.nil_append, List.getElem?_cons_zero, List.getElem?_cons_succ, List.getD, Option.getD_some, cmp_eql_t, cmp_eql_f, cmp_neq_t, cmp_neq_f, cmp_lss_t, cmp_lss_f, cmp_leq_t, cmp_leq_f, cmp_gtr_t, cmp_gtr_f, cmp_geq_t, cmp_geq_f, Bool.not_eq_true', Bool.not_eq_false', Bool.and_eq_true, Bool.and_eq_false_iff, binDen, Option.some.injEq, EV.u.injEq, Nil.isNil, beq_self_eq_true, and_self, true_and, and_true, or_false, false_or, or_self, not_true_eq_false, not_false_eq_true, ne_eq, Bool.true_eq_false, Bool.false_eq_true, reduceCtorEq, hM] <;> first | omega | assumption))
        | (with_reducible refine st_and ?_ ?_)
        | (with_reducible exact st_ok)
        | (with_reducible refine st_br (fun hc => ?_) (fun hc => ?_) <;> (simp only [Bx.den, Ex.den, Bnd.den, gI, gB, gL, gF, gN, gNil, List.map_cons, List.map_nil, List.cons_append, List.nil_append, List.getElem?_cons_zero, List.getElem?_cons_succ, List.getD, Option.getD_some, cmp_eql_t, cmp_eql_f, cmp_neq_t, cmp_neq_f, cmp_lss_t, cmp_lss_f, cmp_leq_t, cmp_leq_f, cmp_gtr_t, cmp_gtr_f, cmp_geq_t, cmp_geq_f, Bool.not_eq_true', Bool.not_eq_false', Bool.and_eq_true, Bool.and_eq_false_iff, binDen, Option.some.injEq, EV.u.injEq, Nil.isNil, beq_self_eq_true, and_self, true_and, and_true, or_false, false_or, or_self, not_true_eq_false, not_false_eq_true, ne_eq, Bool.true_eq_false, Bool.false_eq_true, reduceCtorEq, hM] at hc) <;> (try (exfalso; first | contradiction | omega)))
        | (refine st_call (by rfl) (by simp only [Bx.den, Ex.den, Bnd.den, gI, gB, gL, gF, gN, gNil, List.map_cons, List.map_nil, List.cons_append, List.nil_append, List.getElem?_cons_zero, List.getElem?_cons_succ, List.getD, Option.getD_some, cmp_eql_t, cmp_eql_f, cmp_neq_t, cmp_neq_f, cmp_lss_t, cmp_lss_f, cmp_leq_t, cmp_leq_f, cmp_gtr_t, cmp_gtr_f, cmp_geq_t, cmp_geq_f, Bool.not_eq_true', Bool.not_eq_false', Bool.and_eq_true, Bool.and_eq_false_iff, binDen, Option.some.injEq, EV.u.injEq, Nil.isNil, beq_self_eq_true, and_self, true_and, and_true, or_false, false_or, or_self, not_true_eq_false, not_false_eq_true, ne_eq, Bool.true_eq_false, Bool.false_eq_true, reduceCtorEq, hM] <;> rfl) ?_ (by rfl <;> rfl) (by simp only [List.cons_append, List.nil_append] <;> rfl) ?_
           focus (first | rfl)))
      | (refine st_held (f := 55) (by rfl) (by simp only [Bx.den, Ex.den, Bnd.den, gI, gB, gL, gF, gN, gNil, List.map_cons, List.map_nil, List.cons_append, List.nil_append, List.getElem?_cons_zero, List.getElem?_cons_succ, List.getD, Option.getD_some, cmp_eql_t, cmp_eql_f, cmp_neq_t, cmp_neq_f, cmp_lss_t, cmp_lss_f, cmp_leq_t, cmp_leq_f, cmp_gtr_t, cmp_gtr_f, cmp_geq_t, cmp_geq_f, Bool.not_eq_true', Bool.not_eq_false', Bool.and_eq_true, Bool.and_eq_false_iff, binDen, Option.some.injEq, EV.u.injEq, Nil.isNil, beq_self_eq_true, and_self, true_and, and_true, or_false, false_or, or_self, not_true_eq_false, not_false_eq_true, ne_eq, Bool.true_eq_false, Bool.false_eq_true, reduceCtorEq, hM] <;> rfl) (by omega) hec (fun d env' he => ?_)
         simp only [List.cons_append, List.nil_append] at he
         subst he)
      | (refine st_loop (by rfl) (by simp only [Bx.den, Ex.den, Bnd.den, gI, gB, gL, gF, gN, gNil, List.map_cons, List.map_nil, List.cons_append, List.nil_append, List.getElem?_cons_zero, List.getElem?_cons_succ, List.getD, Option.getD_some, cmp_eql_t, cmp_eql_f, cmp_neq_t, cmp_neq_f, cmp_lss_t, cmp_lss_f, cmp_leq_t, cmp_leq_f, cmp_gtr_t, cmp_gtr_f, cmp_geq_t, cmp_geq_f, Bool.not_eq_true', Bool.not_eq_false', Bool.and_eq_true, Bool.and_eq_false_iff, binDen, Option.some.injEq, EV.u.injEq, Nil.isNil, beq_self_eq_true, and_self, true_and, and_true, or_false, false_or, or_self, not_true_eq_false, not_false_eq_true, ne_eq, Bool.true_eq_false, Bool.false_eq_true, reduceCtorEq, hM] <;> rfl) (by simp only [List.take_succ_cons, List.take_zero] <;> rfl) ?_ (fun env' h => bAp2 P hs env' h)
         exact ⟨n, h, a, t, l, s, g, w, m, ea, ep, ec, tp, c, x15, _, _, d, _, 0, by rw [hq]; rfl, hf, rfl, by omega, by omega⟩)
      | fail "no step")
set_option maxHeartbeats 8000000 in
theorem vTApart (P : Program) (hs : List (Nat × Nat × List Nat)) : ∀ ins, ins.length = cTApart.nin → cTApart.pre ins → tTApart.sat { cxPh P with hints := hs } (ctrR cTApart) ins := by
  rintro ins _ ⟨n, h, a, t, l, s, g, w, m, ea, ep, ec, tp, c, rfl⟩
  by_cases hf : fits15 n h a t l s g w m ea ep ec tp c = 0
  · obtain ⟨A, hs1, hs2, hec, hvl⟩ := apL_of hf rfl
    obtain ⟨k1, k2, k3, k4, k5, k6, k7, k8⟩ := A.pk
    obtain ⟨c1, c2⟩ := A.pc
    unfold tTApart
    repeat' (first
      | (first
        | (with_reducible refine st_need ?_ ?_
           focus (simp only [Bx.den, Ex.den, Bnd.den, gI, gB, gL, gF, gN, gNil, List.map_cons, List.map_nil, List.cons_append, List.nil_append, List.getElem?_cons_zero, List.getElem?_cons_succ, List.getD, Option.getD_some, cmp_eql_t, cmp_eql_f, cmp_neq_t, cmp_neq_f, cmp_lss_t, cmp_lss_f, cmp_leq_t, cmp_leq_f, cmp_gtr_t, cmp_gtr_f, cmp_geq_t, cmp_geq_f, Bool.not_eq_true', Bool.not_eq_false', Bool.and_eq_true, Bool.and_eq_false_iff, binDen, Option.some.injEq, EV.u.injEq, Nil.isNil, beq_self_eq_true, and_self, true_and, and_true, or_false, false_or, or_self, not_true_eq_false, not_false_eq_true, ne_eq, Bool.true_eq_false, Bool.false_eq_true, reduceCtorEq, hf] <;> first | omega | assumption))
        | (with_reducible refine st_and ?_ ?_)
        | (with_reducible exact st_ok)
        | (with_reducible refine st_br (fun hc => ?_) (fun hc => ?_) <;> (simp only [Bx.den, Ex.den, Bnd.den, gI, gB, gL, gF, gN, gNil, List.map_cons, List.map_nil, List.cons_append, List.nil_append, List.getElem?_cons_zero, List.getElem?_cons_succ, List.getD, Option.getD_some, cmp_eql_t, cmp_eql_f, cmp_neq_t, cmp_neq_f, cmp_lss_t, cmp_lss_f, cmp_leq_t, cmp_leq_f, cmp_gtr_t, cmp_gtr_f, cmp_geq_t, cmp_geq_f, Bool.not_eq_true', Bool.not_eq_false', Bool.and_eq_true, Bool.and_eq_false_iff, binDen, Option.some.injEq, EV.u.injEq, Nil.isNil, beq_self_eq_true, and_self, true_and, and_true, or_false, false_or, or_self, not_true_eq_false, not_false_eq_true, ne_eq, Bool.true_eq_false, Bool.false_eq_true, reduceCtorEq, hf] at hc) <;> (try (exfalso; first | contradiction | omega)))
        | (refine st_call (by rfl) (by simp only [Bx.den, Ex.den, Bnd.den, gI, gB, gL, gF, gN, gNil, List.map_cons, List.map_nil, List.cons_append, List.nil_append, List.getElem?_cons_zero, List.getElem?_cons_succ, List.getD, Option.getD_some, cmp_eql_t, cmp_eql_f, cmp_neq_t, cmp_neq_f, cmp_lss_t, cmp_lss_f, cmp_leq_t, cmp_leq_f, cmp_gtr_t, cmp_gtr_f, cmp_geq_t, cmp_geq_f, Bool.not_eq_true', Bool.not_eq_false', Bool.and_eq_true, Bool.and_eq_false_iff, binDen, Option.some.injEq, EV.u.injEq, Nil.isNil, beq_self_eq_true, and_self, true_and, and_true, or_false, false_or, or_self, not_true_eq_false, not_false_eq_true, ne_eq, Bool.true_eq_false, Bool.false_eq_true, reduceCtorEq, hf] <;> rfl) ?_ (by simp only [out_Tk, out_TFits, hf] <;> rfl) (by simp only [List.cons_append, List.nil_append] <;> rfl) ?_
           focus (first | rfl | exact ⟨_, _, _, _, _, _, _, _, _, _, _, _, _, _, rfl⟩)))
      | (refine st_loop (by rfl) (by simp only [Bx.den, Ex.den, Bnd.den, gI, gB, gL, gF, gN, gNil, List.map_cons, List.map_nil, List.cons_append, List.nil_append, List.getElem?_cons_zero, List.getElem?_cons_succ, List.getD, Option.getD_some, cmp_eql_t, cmp_eql_f, cmp_neq_t, cmp_neq_f, cmp_lss_t, cmp_lss_f, cmp_leq_t, cmp_leq_f, cmp_gtr_t, cmp_gtr_f, cmp_geq_t, cmp_geq_f, Bool.not_eq_true', Bool.not_eq_false', Bool.and_eq_true, Bool.and_eq_false_iff, binDen, Option.some.injEq, EV.u.injEq, Nil.isNil, beq_self_eq_true, and_self, true_and, and_true, or_false, false_or, or_self, not_true_eq_false, not_false_eq_true, ne_eq, Bool.true_eq_false, Bool.false_eq_true, reduceCtorEq, hf] <;> rfl) (by simp only [List.take_succ_cons, List.take_zero] <;> rfl) ?_ (fun env' h => bAp1 P hs env' h)
         exact ⟨n, h, a, t, l, s, g, w, m, ea, ep, ec, tp, c, _, 0, by rw [show upto n (s * (4 + a)) 0 = 0 from if_pos k5, show upto h a 0 = 0 from if_pos k7]; rfl, hf, by omega, by omega⟩)
      | fail "no step")
  · unfold tTApart
    repeat' (first
      | (first
        | (with_reducible refine st_need ?_ ?_
           focus (simp only [Bx.den, Ex.den, Bnd.den, gI, gB, gL, gF, gN, gNil, List.map_cons, List.map_nil, List.cons_append, List.nil_append, List.getElem?_cons_zero, List.getElem?_cons_succ, List.getD, Option.getD_some, cmp_eql_t, cmp_eql_f, cmp_neq_t, cmp_neq_f, cmp_lss_t, cmp_lss_f, cmp_leq_t, cmp_leq_f, cmp_gtr_t, cmp_gtr_f, cmp_geq_t, cmp_geq_f, Bool.not_eq_true', Bool.not_eq_false', Bool.and_eq_true, Bool.and_eq_false_iff, binDen, Option.some.injEq, EV.u.injEq, Nil.isNil, beq_self_eq_true, and_self, true_and, and_true, or_false, false_or, or_self, not_true_eq_false, not_false_eq_true, ne_eq, Bool.true_eq_false, Bool.false_eq_true, reduceCtorEq, hf] <;> first | omega | assumption))
        | (with_reducible refine st_and ?_ ?_)
        | (with_reducible exact st_ok)
        | (with_reducible refine st_br (fun hc => ?_) (fun hc => ?_) <;> (simp only [Bx.den, Ex.den, Bnd.den, gI, gB, gL, gF, gN, gNil, List.map_cons, List.map_nil, List.cons_append, List.nil_append, List.getElem?_cons_zero, List.getElem?_cons_succ, List.getD, Option.getD_some, cmp_eql_t, cmp_eql_f, cmp_neq_t, cmp_neq_f, cmp_lss_t, cmp_lss_f, cmp_leq_t, cmp_leq_f, cmp_gtr_t, cmp_gtr_f, cmp_geq_t, cmp_geq_f, Bool.not_eq_true', Bool.not_eq_false', Bool.and_eq_true, Bool.and_eq_false_iff, binDen, Option.some.injEq, EV.u.injEq, Nil.isNil, beq_self_eq_true, and_self, true_and, and_true, or_false, false_or, or_self, not_true_eq_false, not_false_eq_true, ne_eq, Bool.true_eq_false, Bool.false_eq_true, reduceCtorEq, hf] at hc) <;> (try (exfalso; first | contradiction | omega)))
        | (refine st_call (by rfl) (by simp only [Bx.den, Ex.den, Bnd.den, gI, gB, gL, gF, gN, gNil, List.map_cons, List.map_nil, List.cons_append, List.nil_append, List.getElem?_cons_zero, List.getElem?_cons_succ, List.getD, Option.getD_some, cmp_eql_t, cmp_eql_f, cmp_neq_t, cmp_neq_f, cmp_lss_t, cmp_lss_f, cmp_leq_t, cmp_leq_f, cmp_gtr_t, cmp_gtr_f, cmp_geq_t, cmp_geq_f, Bool.not_eq_true', Bool.not_eq_false', Bool.and_eq_true, Bool.and_eq_false_iff, binDen, Option.some.injEq, EV.u.injEq, Nil.isNil, beq_self_eq_true, and_self, true_and, and_true, or_false, false_or, or_self, not_true_eq_false, not_false_eq_true, ne_eq, Bool.true_eq_false, Bool.false_eq_true, reduceCtorEq, hf] <;> rfl) ?_ (by simp only [out_Tk, out_TFits] <;> rfl) (by simp only [List.cons_append, List.nil_append] <;> rfl) ?_
           focus (first | rfl | exact ⟨_, _, _, _, _, _, _, _, _, _, _, _, _, _, rfl⟩))
        | (with_reducible refine st_ret (by simp only [Bx.den, Ex.den, Bnd.den, gI, gB, gL, gF, gN, gNil, List.map_cons, List.map_nil, List.cons_append, List.nil_append, List.getElem?_cons_zero, List.getElem?_cons_succ, List.getD, Option.getD_some, cmp_eql_t, cmp_eql_f, cmp_neq_t, cmp_neq_f, cmp_lss_t, cmp_lss_f, cmp_leq_t, cmp_leq_f, cmp_gtr_t, cmp_gtr_f, cmp_geq_t, cmp_geq_f, Bool.not_eq_true', Bool.not_eq_false', Bool.and_eq_true, Bool.and_eq_false_iff, binDen, Option.some.injEq, EV.u.injEq, Nil.isNil, beq_self_eq_true, and_self, true_and, and_true, or_false, false_or, or_self, not_true_eq_false, not_false_eq_true, ne_eq, Bool.true_eq_false, Bool.false_eq_true, reduceCtorEq, hf] <;> rfl) ?_
           (first | rfl | exact ⟨_, rfl⟩)))
      | fail "no step")
theorem hTApart : cTApart.Holds objs Try.prog := runCtr_holds (X := { cxPh Try.prog with hints := hsTApart }) objsOk mixed hctsPh (callable _ Try.func9 (by kernel_rfl) (by kernel_rfl)) (by rintro ins _ ⟨_, _, _, _, _, _, _, _, _, _, _, _, _, _, rfl⟩; rfl) (by rw [rTApart]; exact vTApart _ _)
theorem towerApart_walk (a0 a1 a2 a3 a4 a5 a6 a7 a8 a9 a10 a11 a12 c : Int) (W : World) : Calls Try.prog 9 #[.agg #[.int .i64 a0, .int .i64 a1, .int .i64 a2, .int .i64 a3, .int .i64 a4, .int .i64 a5, .int .i64 a6, .int .i64 a7, .int .i64 a8, .int .i64 a9, .int .i64 a10, .int .i64 a11, .int .i64 a12], .int .i64 c] W fun e W' => e = .returned (.bool true) ∧ Below W.heap.size W W' :=
  hTApart.law rfl (ins := [.i a0, .i a1, .i a2, .i a3, .i a4, .i a5, .i a6, .i a7, .i a8, .i a9, .i a10, .i a11, .i a12, .i c]) (ρ := []) (vals := [.agg #[.int .i64 a0, .int .i64 a1, .int .i64 a2, .int .i64 a3, .int .i64 a4, .int .i64 a5, .int .i64 a6, .int .i64 a7, .int .i64 a8, .int .i64 a9, .int .i64 a10, .int .i64 a11, .int .i64 a12], .int .i64 c]) rfl ⟨_, _, _, _, _, _, _, _, _, _, _, _, _, _, rfl⟩ rfl
    ⟨fun _ _ => rfl, ⟨⟨trivial, trivial, trivial, trivial, trivial, trivial, trivial, trivial, trivial, trivial, trivial, trivial, trivial, trivial⟩, trivial, trivial⟩⟩ (Sat.inputs rfl (by intro n e h; simp [cTApart] at h))
end Go.Proofs.Ytbmbiiiacajolaa
