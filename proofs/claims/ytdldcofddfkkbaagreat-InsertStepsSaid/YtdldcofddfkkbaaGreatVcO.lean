/- Texts of this proof. -/
import Derived.Test.YtdldcofddfkkbaaGreatVbO
namespace Go.Proofs.YtdldcofddfkkbaaGreat
set_option linter.unusedVariables false
set_option linter.unusedSimpArgs false
set_option linter.unusedSectionVars false
open Go Go.RowKit
theorem vDF10 (P : Program) (hs : List (Nat × Nat × List Nat)) : ∀ ins, ins.length = cDF10.nin → cDF10.pre ins → tDF10.sat { cx P [] with hints := hs } (ctrR cDF10) ins := by
 rintro ins _ ⟨a, b, n, s, rfl⟩
 simp only [Tree.sat, Bx.den, Ex.den, Bnd.den, gI, gB, gL, gF, gN, gNil, List.map_cons, List.map_nil, List.cons_append, List.nil_append, List.getElem?_cons_zero, List.getElem?_cons_succ, List.getD, Option.getD_some, cmp_eql_t, cmp_eql_f, cmp_neq_t, cmp_neq_f, cmp_lss_t, cmp_lss_f, cmp_leq_t, cmp_leq_f, cmp_gtr_t, cmp_gtr_f, cmp_geq_t, cmp_geq_f, Bool.not_eq_true', Bool.not_eq_false', Bool.and_eq_true, Bool.and_eq_false_iff, binDen, ctrR, Ctr.may, List.take_succ_cons, List.take_zero, Option.some.injEq, EV.u.injEq, tDF10, cx, cDF10, cSFits, fits10, true_and, and_true, ne_eq, not_true_eq_false, not_false_eq_true, false_implies, true_implies, implies_true, List.append_assoc]
 repeat' (first | with_reducible apply And.intro | intro _)
 all_goals first
  | omega
  | (rw [if_pos (by omega)])
  | (rw [if_neg (by omega), if_pos (by omega)])
  | (rw [if_neg (by omega), if_neg (by omega)])
theorem hDF10 : cDF10.Holds objs Tryz.prog := runCtr_holds (X := { cx Tryz.prog [] with hints := hsDF10 }) objsOk mixed noCts (callable _ Tryz.func166 (by kernel_rfl) (by kernel_rfl)) (by rintro ins _ ⟨_, _, _, _, rfl⟩; rfl) (by rw [rDF10]; exact vDF10 _ _)
theorem vDF12 (P : Program) (hs : List (Nat × Nat × List Nat)) : ∀ ins, ins.length = cDF12.nin → cDF12.pre ins → tDF12.sat { cx P [] with hints := hs } (ctrR cDF12) ins := by
 rintro ins _ ⟨a, b, n, s, rfl⟩
 simp only [Tree.sat, Bx.den, Ex.den, Bnd.den, gI, gB, gL, gF, gN, gNil, List.map_cons, List.map_nil, List.cons_append, List.nil_append, List.getElem?_cons_zero, List.getElem?_cons_succ, List.getD, Option.getD_some, cmp_eql_t, cmp_eql_f, cmp_neq_t, cmp_neq_f, cmp_lss_t, cmp_lss_f, cmp_leq_t, cmp_leq_f, cmp_gtr_t, cmp_gtr_f, cmp_geq_t, cmp_geq_f, Bool.not_eq_true', Bool.not_eq_false', Bool.and_eq_true, Bool.and_eq_false_iff, binDen, ctrR, Ctr.may, List.take_succ_cons, List.take_zero, Option.some.injEq, EV.u.injEq, tDF12, cx, cDF12, cEFits, fits12, true_and, and_true, ne_eq, not_true_eq_false, not_false_eq_true, false_implies, true_implies, implies_true, List.append_assoc]
 repeat' (first | with_reducible apply And.intro | intro _)
 all_goals first
  | omega
  | (rw [if_pos (by omega)])
  | (rw [if_neg (by omega), if_pos (by omega)])
  | (rw [if_neg (by omega), if_neg (by omega)])
theorem hDF12 : cDF12.Holds objs Tryz.prog := runCtr_holds (X := { cx Tryz.prog [] with hints := hsDF12 }) objsOk mixed noCts (callable _ Tryz.func89 (by kernel_rfl) (by kernel_rfl)) (by rintro ins _ ⟨_, _, _, _, rfl⟩; rfl) (by rw [rDF12]; exact vDF12 _ _)
theorem vDSnd (P : Program) (hs : List (Nat × Nat × List Nat)) : ∀ ins, ins.length = cDSnd.nin → cDSnd.pre ins → tDSnd.sat { cx P [] with hints := hs } (ctrR cDSnd) ins := by
 rintro ins _ ⟨n, h, k, t, l, s, g, w, m, ea, ep, ec, tp, rfl⟩
 simp only [Tree.sat, Bx.den, Ex.den, Bnd.den, gI, gB, gL, gF, gN, gNil, List.map_cons, List.map_nil, List.cons_append, List.nil_append, List.getElem?_cons_zero, List.getElem?_cons_succ, List.getD, Option.getD_some, cmp_eql_t, cmp_eql_f, cmp_neq_t, cmp_neq_f, cmp_lss_t, cmp_lss_f, cmp_leq_t, cmp_leq_f, cmp_gtr_t, cmp_gtr_f, cmp_geq_t, cmp_geq_f, Bool.not_eq_true', Bool.not_eq_false', Bool.and_eq_true, Bool.and_eq_false_iff, binDen, ctrR, Ctr.may, List.take_succ_cons, List.take_zero, Option.some.injEq, EV.u.injEq, tDSnd, cx, cDSnd, cSnd15, okT, true_and, and_true, ne_eq, not_true_eq_false, not_false_eq_true, false_implies, true_implies, implies_true, List.append_assoc]
 repeat' (first | with_reducible apply And.intro | intro _)
 all_goals first
  | omega
  | (refine congrArg (fun b => [EV.b b]) ?_; rw [Bool.eq_iff_iff]; simp only [decide_eq_true_eq, Bool.false_eq_true, cmp_lss_t, false_iff, true_iff, eq_self]; omega)
theorem hDSnd : cDSnd.Holds objs Tryz.prog := runCtr_holds (X := { cx Tryz.prog [] with hints := hsDSnd }) objsOk mixed noCts (callable _ Tryz.func121 (by kernel_rfl) (by kernel_rfl)) (by rintro ins _ ⟨_, _, _, _, _, _, _, _, _, _, _, _, _, rfl⟩; rfl) (by rw [rDSnd]; exact vDSnd _ _)
theorem hctsVf0 : ∀ (ci : Nat) (c : Ctr U), [cDF10, cDF12, cDSnd, cCe11, cCe13, cOwn15, cApD][ci]? = some c → c.Holds objs Tryz.prog := by
 intro ci c h
 match ci, h with
 | 0, h => cases h; exact hDF10
 | 1, h => cases h; exact hDF12
 | 2, h => cases h; exact hDSnd
 | 3, h => cases h; exact hCe11
 | 4, h => cases h; exact hCe13
 | 5, h => cases h; exact hOwn15
 | 6, h => cases h; exact hApD
 | n + 7, h => cases h
theorem take_all {L d : List Int} : (L ++ d).take (L.length : Int).toNat = L := by rw [Int.toNat_natCast, List.take_left' rfl]
theorem cells11D_len {t l s g w : Int} (h : s ≤ 4096) : (cells11D t l s g w).length ≤ 8200 := by rw [cells11D, List.length_append, runP_len]; simp; omega
theorem held13D_len {t l s g w ea ep ec tp : Int} (h : s ≤ 4096) (h' : ec ≤ 64) : (held13D t l s g w ea ep ec tp).length ≤ 8300 := by
 have := @cells11D_len t l s g w h
 rw [held13D, List.length_append, List.length_append, runI_len]; simp; omega
set_option maxHeartbeats 4000000 in
theorem vDF11 (P : Program) (hs : List (Nat × Nat × List Nat)) : ∀ ins, ins.length = cDF11.nin → cDF11.pre ins → tDF11.sat { cxVf0 P with hints := hs } (ctrR cDF11) ins := by
 rintro ins _ ⟨t, l, s, g, w, m, c, rfl⟩
 by_cases hc : c < 1 ∨ 4096 < c
 · have hR : fits11D t l s g w m c = 3 := if_pos hc
   unfold tDF11
   repeat' (first
    | (first
      | (with_reducible refine st_need ?_ ?_
         focus (simp only [dn, reduceCtorEq, hR] <;> first | omega | assumption))
      | (with_reducible refine st_and ?_ ?_)
      | (with_reducible exact st_ok)
      | (with_reducible refine st_br (fun hc => ?_) (fun hc => ?_) <;> (simp only [dn, reduceCtorEq, hR] at hc) <;> (try (exfalso; first | contradiction | omega)))
      | (refine st_call (by rfl) (by simp only [dn, reduceCtorEq, hR] <;> rfl) ?_ (by simp only [out_DF10] <;> rfl) (by simp only [dn] <;> rfl) ?_
         focus (first | exact ⟨_, _, _, _, rfl⟩)))
    | (refine st_ret (by simp only [dn, reduceCtorEq, hR] <;> rfl) ?_
       focus (show [EV.i _] = [EV.i _]; rw [hR]))
    | fail "no step")
 · by_cases h0 : fits10 t l s c = 0
   · have hs1 := (fits10_facts h0).2.1
     have hlen := @cells11D_len t l s g w hs1
     obtain ⟨C, hC⟩ : ∃ C, cells11D t l s g w = C := ⟨_, rfl⟩
     by_cases hm : m < 1 ∨ 4294967295 < m
     · have hR : fits11D t l s g w m c = 2 := by unfold fits11D; rw [if_neg hc, if_pos (by omega)]
       rw [hC] at hlen
       unfold tDF11
       repeat' (first
       | (first
         | (with_reducible refine st_need ?_ ?_
            focus (simp only [dn, reduceCtorEq, h0] <;> first | omega | assumption))
         | (with_reducible refine st_and ?_ ?_)
         | (with_reducible exact st_ok)
         | (with_reducible refine st_br (fun hc => ?_) (fun hc => ?_) <;> (simp only [dn, reduceCtorEq, h0] at hc) <;> (try (exfalso; first | contradiction | omega)))
         | (refine st_call (by rfl) (by simp only [dn, reduceCtorEq, h0] <;> rfl) ?_ (by simp only [out_DF10, h0] <;> rfl) (by simp only [dn] <;> rfl) ?_
            focus (first | exact ⟨_, _, _, _, rfl⟩)))
       | (refine st_ce11 (by rfl) (by simp only [dn, reduceCtorEq, h0] <;> rfl) hs1 (fun d env' he => ?_)
          rw [hC] at he
          simp only [List.cons_append, List.nil_append] at he
          subst he)
       | (refine st_ret (by simp only [dn, reduceCtorEq, h0] <;> rfl) ?_
          focus (show [EV.i _] = [EV.i _]; rw [hR]))
       | fail "no step")
     · have hla : ∀ d : List Int, (C ++ d).length = C.length + d.length := fun d => List.length_append
       rw [hC] at hlen
       cases ha : apartB C c
       · have hR : fits11D t l s g w m c = 2 := by unfold fits11D; rw [if_neg hc, hC, ha, if_pos (by simp)]
         unfold tDF11
         repeat' (first
       | (first
         | (with_reducible refine st_need ?_ ?_
            focus (simp only [dn, reduceCtorEq, h0, hla, ha] <;> first | omega | assumption))
         | (with_reducible refine st_and ?_ ?_)
         | (with_reducible exact st_ok)
         | (with_reducible refine st_br (fun hc => ?_) (fun hc => ?_) <;> (simp only [dn, reduceCtorEq, h0, hla, ha] at hc) <;> (try (exfalso; first | contradiction | omega)))
         | (refine st_call (by rfl) (by simp only [dn, reduceCtorEq, h0, hla, ha] <;> rfl) ?_ (by simp only [out_DF10, h0, out_ApD, take_all, ha] <;> rfl) (by simp only [dn] <;> rfl) ?_
            focus (first | exact ⟨_, _, _, _, rfl⟩ | exact ⟨_, _, _, _, rfl, by omega, by rw [hla]; omega, by omega, by omega⟩)))
       | (refine st_ce11 (by rfl) (by simp only [dn, reduceCtorEq, h0] <;> rfl) hs1 (fun d env' he => ?_)
          rw [hC] at he
          simp only [List.cons_append, List.nil_append] at he
          subst he)
       | (refine st_ret (by simp only [dn, reduceCtorEq, h0, hla, ha] <;> rfl) ?_
          focus (show [EV.i _] = [EV.i _]; rw [hR]))
       | fail "no step")
       · have hR : fits11D t l s g w m c = 0 := by unfold fits11D; rw [if_neg hc, hC, ha, if_neg (by simp; omega)]
         unfold tDF11
         repeat' (first
       | (first
         | (with_reducible refine st_need ?_ ?_
            focus (simp only [dn, reduceCtorEq, h0, hla, ha] <;> first | omega | assumption))
         | (with_reducible refine st_and ?_ ?_)
         | (with_reducible exact st_ok)
         | (with_reducible refine st_br (fun hc => ?_) (fun hc => ?_) <;> (simp only [dn, reduceCtorEq, h0, hla, ha] at hc) <;> (try (exfalso; first | contradiction | omega)))
         | (refine st_call (by rfl) (by simp only [dn, reduceCtorEq, h0, hla, ha] <;> rfl) ?_ (by simp only [out_DF10, h0, out_ApD, take_all, ha] <;> rfl) (by simp only [dn] <;> rfl) ?_
            focus (first | exact ⟨_, _, _, _, rfl⟩ | exact ⟨_, _, _, _, rfl, by omega, by rw [hla]; omega, by omega, by omega⟩)))
       | (refine st_ce11 (by rfl) (by simp only [dn, reduceCtorEq, h0] <;> rfl) hs1 (fun d env' he => ?_)
          rw [hC] at he
          simp only [List.cons_append, List.nil_append] at he
          subst he)
       | (refine st_ret (by simp only [dn, reduceCtorEq, h0, hla, ha] <;> rfl) ?_
          focus (show [EV.i _] = [EV.i _]; rw [hR]))
       | fail "no step")
   · have hR : fits11D t l s g w m c = 2 := by unfold fits11D; rw [if_neg hc, if_pos (.inl h0)]
     unfold tDF11
     repeat' (first
      | (first
        | (with_reducible refine st_need ?_ ?_
           focus (simp only [dn, reduceCtorEq, h0] <;> first | omega | assumption))
        | (with_reducible refine st_and ?_ ?_)
        | (with_reducible exact st_ok)
        | (with_reducible refine st_br (fun hc => ?_) (fun hc => ?_) <;> (simp only [dn, reduceCtorEq, h0] at hc) <;> (try (exfalso; first | contradiction | omega)))
        | (refine st_call (by rfl) (by simp only [dn, reduceCtorEq, h0] <;> rfl) ?_ (by simp only [out_DF10] <;> rfl) (by simp only [dn] <;> rfl) ?_
           focus (first | exact ⟨_, _, _, _, rfl⟩)))
      | (refine st_ret (by simp only [dn, reduceCtorEq, h0] <;> rfl) ?_
         focus (show [EV.i _] = [EV.i _]; rw [hR]))
      | fail "no step")
theorem hDF11 : cDF11.Holds objs Tryz.prog := runCtr_holds (X := { cxVf0 Tryz.prog with hints := hsDF11 }) (fuel := 20) (opens := []) (folds := []) objsOk mixed hctsVf0 (callable _ Tryz.func88 (by kernel_rfl) (by kernel_rfl)) (by rintro ins _ ⟨_, _, _, _, _, _, _, rfl⟩; rfl) (by rw [rDF11]; exact vDF11 _ _)
theorem hctsVf1 : ∀ (ci : Nat) (c : Ctr U), ([cDF10, cDF12, cDSnd, cCe11, cCe13, cOwn15, cApD] ++ [cDF11])[ci]? = some c → c.Holds objs Tryz.prog := by
 intro ci c h
 by_cases hlt : ci < 7
 · exact hctsVf0 ci c (by rw [← h, List.getElem?_append_left (by exact hlt)])
 · rw [List.getElem?_append_right (by show 7 ≤ ci; omega)] at h
   match e : ci - [cDF10, cDF12, cDSnd, cCe11, cCe13, cOwn15, cApD].length, h with
   | 0, h => cases h; exact hDF11
   | n + 1, h => cases h
theorem fits11D_facts {t l s g w m c : Int} (h : fits11D t l s g w m c = 0) : fits10 t l s c = 0 := by
 unfold fits11D at h
 by_cases h1 : c < 1 ∨ 4096 < c
 · rw [if_pos h1] at h; omega
 · rw [if_neg h1] at h
   by_cases h0 : fits10 t l s c = 0
   · exact h0
   · rw [if_pos (.inl h0)] at h; omega
theorem fits13D_facts {t l s g w m ea ep ec tp c : Int} (h : fits13D t l s g w m ea ep ec tp c = 0) : fits11D t l s g w m c = 0 ∧ fits12 ea ep ec c = 0 ∧ apartB (held13D t l s g w ea ep ec tp) c = true := by
 unfold fits13D at h
 by_cases h1 : c < 1 ∨ 4096 < c
 · rw [if_pos h1] at h; omega
 · rw [if_neg h1] at h
   by_cases h0 : fits11D t l s g w m c ≠ 0 ∨ fits12 ea ep ec c ≠ 0 ∨ apartB (held13D t l s g w ea ep ec tp) c = false
   · rw [if_pos h0] at h; omega
   · refine ⟨by omega, by omega, ?_⟩
     cases e : apartB (held13D t l s g w ea ep ec tp) c
     · exact absurd (.inr (.inr e)) h0
     · rfl
set_option maxHeartbeats 4000000 in
theorem vDF13 (P : Program) (hs : List (Nat × Nat × List Nat)) : ∀ ins, ins.length = cDF13.nin → cDF13.pre ins → tDF13.sat { cxVf1 P with hints := hs } (ctrR cDF13) ins := by
 rintro ins _ ⟨t, l, s, g, w, m, ea, ep, ec, tp, c, rfl⟩
 by_cases hc : c < 1 ∨ 4096 < c
 · have hR : fits13D t l s g w m ea ep ec tp c = 3 := if_pos hc
   unfold tDF13
   repeat' (first
    | (first
      | (with_reducible refine st_need ?_ ?_
         focus (simp only [dn, reduceCtorEq, hR] <;> first | omega | assumption))
      | (with_reducible refine st_and ?_ ?_)
      | (with_reducible exact st_ok)
      | (with_reducible refine st_br (fun hc => ?_) (fun hc => ?_) <;> (simp only [dn, reduceCtorEq, hR] at hc) <;> (try (exfalso; first | contradiction | omega)))
      | (refine st_call (by rfl) (by simp only [dn, reduceCtorEq, hR] <;> rfl) ?_ (by simp only [out_DF11] <;> rfl) (by simp only [dn] <;> rfl) ?_
         focus (first | exact ⟨_, _, _, _, rfl⟩)))
    | (refine st_ret (by simp only [dn, reduceCtorEq, hR] <;> rfl) ?_
       focus (show [EV.i _] = [EV.i _]; rw [hR]))
    | fail "no step")
 · by_cases h0 : fits11D t l s g w m c = 0
   · by_cases h2 : fits12 ea ep ec c = 0
     · have hs1 := (fits10_facts (fits11D_facts h0)).2.1
       have hs2 := (fits12_facts h2).2.1
       have hlen := @held13D_len t l s g w ea ep ec tp hs1 hs2
       obtain ⟨C, hC⟩ : ∃ C, held13D t l s g w ea ep ec tp = C := ⟨_, rfl⟩
       have hla : ∀ d : List Int, (C ++ d).length = C.length + d.length := fun d => List.length_append
       rw [hC] at hlen
       cases ha : apartB C c
       · have hR : fits13D t l s g w m ea ep ec tp c = 2 := by unfold fits13D; rw [if_neg hc, hC, ha, if_pos (by simp)]
         unfold tDF13
         repeat' (first
       | (first
         | (with_reducible refine st_need ?_ ?_
            focus (simp only [dn, reduceCtorEq, h0, h2, hla, ha] <;> first | omega | assumption))
         | (with_reducible refine st_and ?_ ?_)
         | (with_reducible exact st_ok)
         | (with_reducible refine st_br (fun hc => ?_) (fun hc => ?_) <;> (simp only [dn, reduceCtorEq, h0, h2, hla, ha] at hc) <;> (try (exfalso; first | contradiction | omega)))
         | (refine st_call (by rfl) (by simp only [dn, reduceCtorEq, h0, h2, hla, ha] <;> rfl) ?_ (by simp only [out_DF11, out_DF12, h0, h2, out_ApD, take_all, ha] <;> rfl) (by simp only [dn] <;> rfl) ?_
            focus (first | exact ⟨_, _, _, _, _, _, _, rfl⟩ | exact ⟨_, _, _, _, rfl⟩ | exact ⟨_, _, _, _, rfl, by omega, by rw [hla]; omega, by omega, by omega⟩)))
       | (refine st_ce13 (by rfl) (by simp only [dn, reduceCtorEq, h0] <;> rfl) hs1 hs2 (fun d env' he => ?_)
          rw [hC] at he
          simp only [List.cons_append, List.nil_append] at he
          subst he)
       | (refine st_ret (by simp only [dn, reduceCtorEq, h0, h2, hla, ha] <;> rfl) ?_
          focus (show [EV.i _] = [EV.i _]; rw [hR]))
       | fail "no step")
       · have hR : fits13D t l s g w m ea ep ec tp c = 0 := by unfold fits13D; rw [if_neg hc, hC, ha, if_neg (by simp; omega)]
         unfold tDF13
         repeat' (first
       | (first
         | (with_reducible refine st_need ?_ ?_
            focus (simp only [dn, reduceCtorEq, h0, h2, hla, ha] <;> first | omega | assumption))
         | (with_reducible refine st_and ?_ ?_)
         | (with_reducible exact st_ok)
         | (with_reducible refine st_br (fun hc => ?_) (fun hc => ?_) <;> (simp only [dn, reduceCtorEq, h0, h2, hla, ha] at hc) <;> (try (exfalso; first | contradiction | omega)))
         | (refine st_call (by rfl) (by simp only [dn, reduceCtorEq, h0, h2, hla, ha] <;> rfl) ?_ (by simp only [out_DF11, out_DF12, h0, h2, out_ApD, take_all, ha] <;> rfl) (by simp only [dn] <;> rfl) ?_
            focus (first | exact ⟨_, _, _, _, _, _, _, rfl⟩ | exact ⟨_, _, _, _, rfl⟩ | exact ⟨_, _, _, _, rfl, by omega, by rw [hla]; omega, by omega, by omega⟩)))
       | (refine st_ce13 (by rfl) (by simp only [dn, reduceCtorEq, h0] <;> rfl) hs1 hs2 (fun d env' he => ?_)
          rw [hC] at he
          simp only [List.cons_append, List.nil_append] at he
          subst he)
       | (refine st_ret (by simp only [dn, reduceCtorEq, h0, h2, hla, ha] <;> rfl) ?_
          focus (show [EV.i _] = [EV.i _]; rw [hR]))
       | fail "no step")
     · have hR : fits13D t l s g w m ea ep ec tp c = 2 := by unfold fits13D; rw [if_neg hc, if_pos (.inr (.inl h2))]
       unfold tDF13
       repeat' (first
       | (first
         | (with_reducible refine st_need ?_ ?_
            focus (simp only [dn, reduceCtorEq, h0, h2] <;> first | omega | assumption))
         | (with_reducible refine st_and ?_ ?_)
         | (with_reducible exact st_ok)
         | (with_reducible refine st_br (fun hc => ?_) (fun hc => ?_) <;> (simp only [dn, reduceCtorEq, h0, h2] at hc) <;> (try (exfalso; first | contradiction | omega)))
         | (refine st_call (by rfl) (by simp only [dn, reduceCtorEq, h0, h2] <;> rfl) ?_ (by simp only [out_DF11, out_DF12, h0] <;> rfl) (by simp only [dn] <;> rfl) ?_
            focus (first | exact ⟨_, _, _, _, _, _, _, rfl⟩ | exact ⟨_, _, _, _, rfl⟩)))
       | (refine st_ret (by simp only [dn, reduceCtorEq, h0, h2] <;> rfl) ?_
          focus (show [EV.i _] = [EV.i _]; rw [hR]))
       | fail "no step")
   · have hR : fits13D t l s g w m ea ep ec tp c = 2 := by unfold fits13D; rw [if_neg hc, if_pos (.inl h0)]
     unfold tDF13
     repeat' (first
      | (first
        | (with_reducible refine st_need ?_ ?_
           focus (simp only [dn, reduceCtorEq, h0] <;> first | omega | assumption))
        | (with_reducible refine st_and ?_ ?_)
        | (with_reducible exact st_ok)
        | (with_reducible refine st_br (fun hc => ?_) (fun hc => ?_) <;> (simp only [dn, reduceCtorEq, h0] at hc) <;> (try (exfalso; first | contradiction | omega)))
        | (refine st_call (by rfl) (by simp only [dn, reduceCtorEq, h0] <;> rfl) ?_ (by simp only [out_DF11, out_DF12] <;> rfl) (by simp only [dn] <;> rfl) ?_
           focus (first | exact ⟨_, _, _, _, _, _, _, rfl⟩ | exact ⟨_, _, _, _, rfl⟩)))
      | (refine st_ret (by simp only [dn, reduceCtorEq, h0] <;> rfl) ?_
         focus (show [EV.i _] = [EV.i _]; rw [hR]))
      | fail "no step")
theorem hDF13 : cDF13.Holds objs Tryz.prog := runCtr_holds (X := { cxVf1 Tryz.prog with hints := hsDF13 }) (fuel := 20) (opens := []) (folds := []) objsOk mixed hctsVf1 (callable _ Tryz.func31 (by kernel_rfl) (by kernel_rfl)) (by rintro ins _ ⟨_, _, _, _, _, _, _, _, _, _, _, rfl⟩; rfl) (by rw [rDF13]; exact vDF13 _ _)
theorem hctsVf2 : ∀ (ci : Nat) (c : Ctr U), ctsVf[ci]? = some c → c.Holds objs Tryz.prog := by
 intro ci c h
 by_cases hlt : ci < 8
 · exact hctsVf1 ci c (by rw [← h]; exact (List.getElem?_append_left (l₂ := [cDF13]) (by exact hlt)).symm)
 · have h' : ([cDF10, cDF12, cDSnd, cCe11, cCe13, cOwn15, cApD, cDF11] ++ [cDF13])[ci]? = some c := h
   rw [List.getElem?_append_right (by show 8 ≤ ci; omega)] at h'
   match e : ci - [cDF10, cDF12, cDSnd, cCe11, cCe13, cOwn15, cApD, cDF11].length, h' with
   | 0, h => cases h; exact hDF13
   | n + 1, h => cases h
theorem own15_len {n h a s : Int} (ho : okT n h a s = true) : (own15 n h a s).length ≤ 1100 ∧ 1 ≤ (own15 n h a s).length := by
 have hk' := okT_facts ho
 have hm := @mul_le s a ⟨hk'.1, hk'.2.1, hk'.2.2.1, hk'.2.2.2.1⟩
 rw [own15, List.length_append, runI_len, runI_len]
 omega
set_option maxHeartbeats 4000000 in
theorem vDF15 (P : Program) (hs : List (Nat × Nat × List Nat)) : ∀ ins, ins.length = cDF15.nin → cDF15.pre ins → tDF15.sat { cxVf P with hints := hs } (ctrR cDF15) ins := by
 rintro ins _ ⟨n, h, a, t, l, s, g, w, m, ea, ep, ec, tp, c, rfl⟩
 by_cases hc : c < 1 ∨ 4096 < c
 · have hR : fits15D n h a t l s g w m ea ep ec tp c = 3 := if_pos hc
   unfold tDF15
   repeat' (first
    | (first
      | (with_reducible refine st_need ?_ ?_
         focus (simp only [dn, reduceCtorEq, hR] <;> first | omega | assumption))
      | (with_reducible refine st_and ?_ ?_)
      | (with_reducible exact st_ok)
      | (with_reducible refine st_br (fun hc => ?_) (fun hc => ?_) <;> (simp only [dn, reduceCtorEq, hR] at hc) <;> (try (exfalso; first | contradiction | omega)))
      | (refine st_call (by rfl) (by simp only [dn, reduceCtorEq, hR] <;> rfl) ?_ (by simp only [out_DF11] <;> rfl) (by simp only [dn] <;> rfl) ?_
         focus (first | exact ⟨_, _, _, _, rfl⟩)))
    | (refine st_ret (by simp only [dn, reduceCtorEq, hR] <;> rfl) ?_
       focus (show [EV.i _] = [EV.i _]; rw [hR]))
    | fail "no step")
 · cases ho : okT n h a s
   · have hR : fits15D n h a t l s g w m ea ep ec tp c = 2 := by unfold fits15D; rw [if_neg hc, if_pos (.inl ho)]
     unfold tDF15
     repeat' (first
      | (first
        | (with_reducible refine st_need ?_ ?_
           focus (simp only [dn, reduceCtorEq, ho] <;> first | omega | assumption))
        | (with_reducible refine st_and ?_ ?_)
        | (with_reducible exact st_ok)
        | (with_reducible refine st_br (fun hc => ?_) (fun hc => ?_) <;> (simp only [dn, reduceCtorEq, ho] at hc) <;> (try (exfalso; first | contradiction | omega)))
        | (refine st_call (by rfl) (by simp only [dn, reduceCtorEq, ho] <;> rfl) ?_ (by simp only [out_DSnd, ho] <;> rfl) (by simp only [dn] <;> rfl) ?_
           focus (first | exact ⟨_, _, _, _, _, _, _, _, _, _, _, _, _, rfl⟩)))
      | (refine st_ret (by simp only [dn, reduceCtorEq, ho] <;> rfl) ?_
         focus (show [EV.i _] = [EV.i _]; rw [hR]))
      | fail "no step")
   · by_cases h0 : fits13D t l s g w m ea ep ec tp c = 0
     · obtain ⟨f1, f2, f3⟩ := fits13D_facts h0
       have hs1 := (fits10_facts (fits11D_facts f1)).2.1
       have hs2 := (fits12_facts f2).2.1
       have hlen := @held13D_len t l s g w ea ep ec tp hs1 hs2
       have hlo := own15_len ho
       obtain ⟨C, hC⟩ : ∃ C, held13D t l s g w ea ep ec tp = C := ⟨_, rfl⟩
       obtain ⟨D, hD⟩ : ∃ D, own15 n h a s = D := ⟨_, rfl⟩
       have hla : ∀ d : List Int, (C ++ d).length = C.length + d.length := fun d => List.length_append
       have hlb : ∀ d : List Int, (D ++ d).length = D.length + d.length := fun d => List.length_append
       have hlc : ∀ d : List Int, (C ++ D ++ d).length = C.length + D.length + d.length := fun d => by rw [List.length_append, List.length_append]
       have hld : (C ++ D).length = C.length + D.length := List.length_append
       rw [hC] at hlen
       rw [hD] at hlo
       have hw : IntKind.i64.wrap ((C.length : Int) + D.length) = ((C ++ D).length : Int) := by rw [wrap_small (by omega) (by omega), hld]; rfl
       have hta : ∀ d : List Int, List.take (((C.length + D.length : Nat) : Int)).toNat (C ++ D ++ d) = C ++ D := fun d => by rw [Int.toNat_natCast, ← hld]; exact List.take_left' rfl
       cases ha : apartB (C ++ D) c
       · have hR : fits15D n h a t l s g w m ea ep ec tp c = 2 := by unfold fits15D; rw [if_neg hc, hC, hD, ha, if_pos (by simp)]
         unfold tDF15
         repeat' (first
       | (first
         | (with_reducible refine st_need ?_ ?_
            focus (simp only [dn, reduceCtorEq, ho, h0, hla, hlb, hlc, hw, ha] <;> first | omega | assumption))
         | (with_reducible refine st_and ?_ ?_)
         | (with_reducible exact st_ok)
         | (with_reducible refine st_br (fun hc => ?_) (fun hc => ?_) <;> (simp only [dn, reduceCtorEq, ho, h0, hla, hlb, hlc, hw, ha] at hc) <;> (try (exfalso; first | contradiction | omega)))
         | (refine st_call (by rfl) (by simp only [dn, reduceCtorEq, ho, h0, hla, hlb, hlc, hw, ha] <;> rfl) ?_ (by simp only [out_DSnd, out_DF13, ho, h0, hw, out_ApD, hta, take_all, ha] <;> rfl) (by simp only [dn] <;> rfl) ?_
            focus (first | exact ⟨_, _, _, _, _, _, _, _, _, _, _, _, _, rfl⟩ | exact ⟨_, _, _, _, _, _, _, _, _, _, _, rfl⟩ | exact ⟨_, _, _, _, rfl, by omega, by rw [hlc]; omega, by omega, by omega⟩)))
       | (refine st_ce13 (by rfl) (by simp only [dn, reduceCtorEq, h0] <;> rfl) hs1 hs2 (fun d env' he => ?_)
          rw [hC] at he
          simp only [List.cons_append, List.nil_append] at he
          subst he)
       | (refine st_own (by rfl) (by simp only [dn, reduceCtorEq, h0] <;> rfl) ho (fun d2 env' he => ?_)
          rw [hD] at he
          simp only [List.cons_append, List.nil_append] at he
          subst he)
       | (refine st_apprP (V := C) (D := D) (by rfl) (by rfl) (by rfl) (by rfl) (fun rr env' he => ?_)
          simp only [List.cons_append, List.nil_append] at he
          subst he)
       | (refine st_ret (by simp only [dn, reduceCtorEq, ho, h0, hla, hlb, hlc, hw, ha] <;> rfl) ?_
          focus (show [EV.i _] = [EV.i _]; rw [hR]))
       | fail "no step")
       · have hR : fits15D n h a t l s g w m ea ep ec tp c = 0 := by unfold fits15D; rw [if_neg hc, hC, hD, ha, if_neg (by simp; exact ⟨ho, h0⟩)]
         unfold tDF15
         repeat' (first
       | (first
         | (with_reducible refine st_need ?_ ?_
            focus (simp only [dn, reduceCtorEq, ho, h0, hla, hlb, hlc, hw, ha] <;> first | omega | assumption))
         | (with_reducible refine st_and ?_ ?_)
         | (with_reducible exact st_ok)
         | (with_reducible refine st_br (fun hc => ?_) (fun hc => ?_) <;> (simp only [dn, reduceCtorEq, ho, h0, hla, hlb, hlc, hw, ha] at hc) <;> (try (exfalso; first | contradiction | omega)))
         | (refine st_call (by rfl) (by simp only [dn, reduceCtorEq, ho, h0, hla, hlb, hlc, hw, ha] <;> rfl) ?_ (by simp only [out_DSnd, out_DF13, ho, h0, hw, out_ApD, hta, take_all, ha] <;> rfl) (by simp only [dn] <;> rfl) ?_
            focus (first | exact ⟨_, _, _, _, _, _, _, _, _, _, _, _, _, rfl⟩ | exact ⟨_, _, _, _, _, _, _, _, _, _, _, rfl⟩ | exact ⟨_, _, _, _, rfl, by omega, by rw [hlc]; omega, by omega, by omega⟩)))
       | (refine st_ce13 (by rfl) (by simp only [dn, reduceCtorEq, h0] <;> rfl) hs1 hs2 (fun d env' he => ?_)
          rw [hC] at he
          simp only [List.cons_append, List.nil_append] at he
          subst he)
       | (refine st_own (by rfl) (by simp only [dn, reduceCtorEq, h0] <;> rfl) ho (fun d2 env' he => ?_)
          rw [hD] at he
          simp only [List.cons_append, List.nil_append] at he
          subst he)
       | (refine st_apprP (V := C) (D := D) (by rfl) (by rfl) (by rfl) (by rfl) (fun rr env' he => ?_)
          simp only [List.cons_append, List.nil_append] at he
          subst he)
       | (refine st_ret (by simp only [dn, reduceCtorEq, ho, h0, hla, hlb, hlc, hw, ha] <;> rfl) ?_
          focus (show [EV.i _] = [EV.i _]; rw [hR]))
       | fail "no step")
     · have hR : fits15D n h a t l s g w m ea ep ec tp c = 2 := by unfold fits15D; rw [if_neg hc, if_pos (.inr (.inl h0))]
       unfold tDF15
       repeat' (first
       | (first
         | (with_reducible refine st_need ?_ ?_
            focus (simp only [dn, reduceCtorEq, ho, h0] <;> first | omega | assumption))
         | (with_reducible refine st_and ?_ ?_)
         | (with_reducible exact st_ok)
         | (with_reducible refine st_br (fun hc => ?_) (fun hc => ?_) <;> (simp only [dn, reduceCtorEq, ho, h0] at hc) <;> (try (exfalso; first | contradiction | omega)))
         | (refine st_call (by rfl) (by simp only [dn, reduceCtorEq, ho, h0] <;> rfl) ?_ (by simp only [out_DSnd, out_DF13, ho] <;> rfl) (by simp only [dn] <;> rfl) ?_
            focus (first | exact ⟨_, _, _, _, _, _, _, _, _, _, _, _, _, rfl⟩ | exact ⟨_, _, _, _, _, _, _, _, _, _, _, rfl⟩)))
       | (refine st_ret (by simp only [dn, reduceCtorEq, ho, h0] <;> rfl) ?_
          focus (show [EV.i _] = [EV.i _]; rw [hR]))
       | fail "no step")
theorem hDF15 : cDF15.Holds objs Tryz.prog := runCtr_holds (X := { cxVf Tryz.prog with hints := hsDF15 }) objsOk mixed hctsVf2 (callable _ Tryz.func56 (by kernel_rfl) (by kernel_rfl)) (by rintro ins _ ⟨_, _, _, _, _, _, _, _, _, _, _, _, _, _, rfl⟩; rfl) (by rw [rDF15]; exact vDF15 _ _)
end Go.Proofs.YtdldcofddfkkbaaGreat
