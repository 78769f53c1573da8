/- Which arenas may be; the cells of a limbo: the contracts hold. -/
import Derived.Test.YtdldcofddfkkbaaGreatPcT
import Derived.Test.YtdldcofddfkkbaaGreatSy
namespace Go.Proofs.YtdldcofddfkkbaaGreat
set_option linter.unusedVariables false
set_option linter.unusedSimpArgs false
set_option linter.unusedSectionVars false
open Go Go.RowKit

theorem out_SFits (a b n s : Int) : cSFits.out [.i a, .i b, .i n, .i s] = [.i (fits10 a b n s)] := rfl
theorem out_EFits (a b n s : Int) : cEFits.out [.i a, .i b, .i n, .i s] = [.i (fits12 a b n s)] := rfl
theorem out_AFits (t l s g w m c : Int) : cAFits.out [.i t, .i l, .i s, .i g, .i w, .i m, .i c] = [.i (fits11 t l s g w m c)] := rfl
theorem out_LFits (t l s g w m ea ep ec tp c : Int) : cLFits.out [.i t, .i l, .i s, .i g, .i w, .i m, .i ea, .i ep, .i ec, .i tp, .i c] = [.i (fits13 t l s g w m ea ep ec tp c)] := rfl
theorem out_Snd15 (n h k t l s g w m ea ep ec tp : Int) : cSnd15.out [.i n, .i h, .i k, .i t, .i l, .i s, .i g, .i w, .i m, .i ea, .i ep, .i ec, .i tp] = [.b (okT n h k s)] := rfl
theorem vSFits (P : Program) (hs : List (Nat × Nat × List Nat)) : ∀ ins, ins.length = cSFits.nin → cSFits.pre ins → tSFits.sat { cx P [] with hints := hs } (ctrR cSFits) ins := by
  rintro ins _ ⟨a, b, n, s, rfl⟩
  simp only [Tree.sat, Bx.den, Ex.den, Bnd.den, gI, gB, gL, gF, gN, gNil, List.map_cons, List.map_nil, List.cons_append, List.nil_append, List.getElem?_cons_zero, List.getElem?_cons_succ, List.getD, Option.getD_some, cmp_eql_t, cmp_eql_f, cmp_neq_t, cmp_neq_f, cmp_lss_t, cmp_lss_f, cmp_leq_t, cmp_leq_f, cmp_gtr_t, cmp_gtr_f, cmp_geq_t, cmp_geq_f, Bool.not_eq_true', Bool.not_eq_false', Bool.and_eq_true, Bool.and_eq_false_iff, binDen, ctrR, Ctr.may, List.take_succ_cons, List.take_zero, Option.some.injEq, EV.u.injEq, tSFits, cx, cSFits, fits10, true_and, and_true, ne_eq, not_true_eq_false, not_false_eq_true, false_implies, true_implies, implies_true, List.append_assoc]
  repeat' (first | with_reducible apply And.intro | intro _)
  all_goals first
    | omega
    | (rw [if_pos (by omega)])
    | (rw [if_neg (by omega), if_pos (by omega)])
    | (rw [if_neg (by omega), if_neg (by omega)])
theorem hSFits : cSFits.Holds objs Tryz.prog := runCtr_holds (X := { cx Tryz.prog [] with hints := hsSFits }) objsOk mixed noCts (callable _ Tryz.func163 (by kernel_rfl) (by kernel_rfl)) (by rintro ins _ ⟨_, _, _, _, rfl⟩; rfl) (by rw [rSFits]; exact vSFits _ _)
theorem vEFits (P : Program) (hs : List (Nat × Nat × List Nat)) : ∀ ins, ins.length = cEFits.nin → cEFits.pre ins → tEFits.sat { cx P [] with hints := hs } (ctrR cEFits) ins := by
  rintro ins _ ⟨a, b, n, s, rfl⟩
  simp only [Tree.sat, Bx.den, Ex.den, Bnd.den, gI, gB, gL, gF, gN, gNil, List.map_cons, List.map_nil, List.cons_append, List.nil_append, List.getElem?_cons_zero, List.getElem?_cons_succ, List.getD, Option.getD_some, cmp_eql_t, cmp_eql_f, cmp_neq_t, cmp_neq_f, cmp_lss_t, cmp_lss_f, cmp_leq_t, cmp_leq_f, cmp_gtr_t, cmp_gtr_f, cmp_geq_t, cmp_geq_f, Bool.not_eq_true', Bool.not_eq_false', Bool.and_eq_true, Bool.and_eq_false_iff, binDen, ctrR, Ctr.may, List.take_succ_cons, List.take_zero, Option.some.injEq, EV.u.injEq, tEFits, cx, cEFits, fits12, true_and, and_true, ne_eq, not_true_eq_false, not_false_eq_true, false_implies, true_implies, implies_true, List.append_assoc]
  repeat' (first | with_reducible apply And.intro | intro _)
  all_goals first
    | omega
    | (rw [if_pos (by omega)])
    | (rw [if_neg (by omega), if_pos (by omega)])
    | (rw [if_neg (by omega), if_neg (by omega)])
theorem hEFits : cEFits.Holds objs Tryz.prog := runCtr_holds (X := { cx Tryz.prog [] with hints := hsEFits }) objsOk mixed noCts (callable _ Tryz.func86 (by kernel_rfl) (by kernel_rfl)) (by rintro ins _ ⟨_, _, _, _, rfl⟩; rfl) (by rw [rEFits]; exact vEFits _ _)
theorem vSnd15 (P : Program) (hs : List (Nat × Nat × List Nat)) : ∀ ins, ins.length = cSnd15.nin → cSnd15.pre ins → tSnd15.sat { cx P [] with hints := hs } (ctrR cSnd15) ins := by
  rintro ins _ ⟨n, h, k, t, l, s, g, w, m, ea, ep, ec, tp, rfl⟩
  simp only [Tree.sat, Bx.den, Ex.den, Bnd.den, gI, gB, gL, gF, gN, gNil, List.map_cons, List.map_nil, List.cons_append, List.nil_append, List.getElem?_cons_zero, List.getElem?_cons_succ, List.getD, Option.getD_some, cmp_eql_t, cmp_eql_f, cmp_neq_t, cmp_neq_f, cmp_lss_t, cmp_lss_f, cmp_leq_t, cmp_leq_f, cmp_gtr_t, cmp_gtr_f, cmp_geq_t, cmp_geq_f, Bool.not_eq_true', Bool.not_eq_false', Bool.and_eq_true, Bool.and_eq_false_iff, binDen, ctrR, Ctr.may, List.take_succ_cons, List.take_zero, Option.some.injEq, EV.u.injEq, tSnd15, cx, cSnd15, okT, true_and, and_true, ne_eq, not_true_eq_false, not_false_eq_true, false_implies, true_implies, implies_true, List.append_assoc]
  repeat' (first | with_reducible apply And.intro | intro _)
  all_goals first
    | omega
    | (refine congrArg (fun b => [EV.b b]) ?_; rw [Bool.eq_iff_iff]; simp only [decide_eq_true_eq, Bool.false_eq_true, cmp_lss_t, false_iff, true_iff, eq_self]; omega)
theorem hSnd15 : cSnd15.Holds objs Tryz.prog := runCtr_holds (X := { cx Tryz.prog [] with hints := hsSnd15 }) objsOk mixed noCts (callable _ Tryz.func140 (by kernel_rfl) (by kernel_rfl)) (by rintro ins _ ⟨_, _, _, _, _, _, _, _, _, _, _, _, _, rfl⟩; rfl) (by rw [rSnd15]; exact vSnd15 _ _)
theorem hctsPa : ∀ (ci : Nat) (c : Ctr U), ctsPa[ci]? = some c → c.Holds objs Tryz.prog := by
  intro ci c h
  match ci, h with
  | 0, h => cases h; exact hSFits
  | 1, h => cases h; exact hEFits
  | n + 2, h => cases h
/-! ### rows of cells -/
theorem he_step {a b : Int} {k : Nat} {six : List Int} : six ++ runP a b (k + 1) = (six ++ runP a b k) ++ [IntKind.i64.wrap (a + k), IntKind.i64.wrap (b + k)] := by rw [runP, List.append_assoc]
theorem he_step1 {a : Int} {k : Nat} {six : List Int} : six ++ runI a (k + 1) = (six ++ runI a k) ++ [IntKind.i64.wrap (a + k)] := by rw [runI, List.append_assoc]
section
variable {k : Tree} {env : List (EV U)} {X : Cx U} {R : List (EV U) → List (EV U) → Prop}
theorem st_rowP {i : Nat} {e x : Ex} {V vc : List Int} {y : Int} (hl : gL env i = V ++ vc) (hn : e.den env = (V.length : Int)) (hx : x.den env = y)
    (hk : ∀ (r : List Int) (env' : List (EV U)), env ++ [.l ((V ++ [y]) ++ r), .i (((V ++ [y]).length + r.length : Nat) : Int)] = env' → k.sat X R env') : (Tree.app (some i) e x k).sat X R env := by
  intro r
  refine hk r _ ?_
  simp only
  rw [hl, hn, hx, Int.toNat_natCast, List.take_left' rfl, List.length_append, List.append_assoc]
  rfl
theorem st_rowsP {i : Nat} {e x x' : Ex} {V vc : List Int} {y y' : Int} (hl : gL env i = V ++ vc) (hn : e.den env = (V.length : Int)) (hx : x.den env = y) (hx' : x'.den env = y')
    (hk : ∀ (r : List Int) (env' : List (EV U)), env ++ [.l ((V ++ [y, y']) ++ r), .i (((V ++ [y, y']).length + r.length : Nat) : Int)] = env' → k.sat X R env') : (Tree.apps (some i) e [x, x'] k).sat X R env := by
  intro r
  refine hk r _ ?_
  simp only
  rw [hl, hn, Int.toNat_natCast, List.take_left' rfl, List.length_append]
  simp only [List.map_cons, List.map_nil, hx, hx', List.append_assoc]
  rfl
end
set_option maxHeartbeats 4000000 in
theorem bHe2_1 (P : Program) (hs : List (Nat × Nat × List Nat)) : ∀ env, heInv2 env → tHeld1L0.sat { cxPhe cHeld1.fn 29 8 50 P with hints := hs } (ctrR cHeld1) env := by
  rintro env ⟨t, l, s, g, w, m, ea, ep, ec, tp, x10, x11, x12, x13, k, V, d, rfl, h1, h2, h3, hV⟩
  have hvl : V.length ≤ 9000 := by rw [hV, List.length_append, List.length_append, runP_len, runI_len]; simp; omega
  have hwk : IntKind.i64.wrap ((k : Int) + 1) = ((k + 1 : Nat) : Int) := by rw [wrap_small (by omega) (by omega)]; rfl
  have hla : (V ++ d).length = V.length + d.length := List.length_append
  by_cases hk : (k : Int) < ec
  all_goals
    unfold tHeld1L0
    have hw1 : IntKind.i64.wrap ((V.length : Int) + 1) = ((V ++ [IntKind.i64.wrap (ep + k)]).length : Int) := by rw [wrap_small (by omega) (by omega), List.length_append]; rfl
    repeat' (first
      | (first
        | (with_reducible refine st_need ?_ ?_
           focus (simp only [dn, reduceCtorEq, hw1, hla, hwk] <;> first | omega | assumption))
        | (with_reducible refine st_and ?_ ?_)
        | (with_reducible exact st_ok)
        | (with_reducible refine st_br (fun hc => ?_) (fun hc => ?_) <;> (simp only [dn, reduceCtorEq, hw1, hla, hwk] at hc) <;> (try (exfalso; first | contradiction | omega)))
        | (refine st_call (by rfl) (by simp only [dn, reduceCtorEq, hw1, hla, hwk] <;> rfl) ?_ (by rfl <;> rfl) (by simp only [dn] <;> rfl) ?_
           focus (first | rfl)))
      | (refine st_rowP (V := V) (by rfl) (by rfl) (by rfl) (fun rr env' he => ?_)
         simp only [List.cons_append, List.nil_append] at he
         subst he)
      | (refine st_back (by rfl) (by simp only [dn, reduceCtorEq, hw1, hwk] <;> rfl) (by simp only [dn] <;> rfl) (by rfl) ?_ ?_
         focus exact ⟨t, l, s, g, w, m, ea, ep, ec, tp, x10, x11, x12, x13, k + 1, V ++ [IntKind.i64.wrap (ep + k)], rr, rfl, h1, h2, by omega, by rw [he_step1, hV]⟩
         focus (show (ec - ((k + 1 : Nat) : Int)).toNat < (ec - (k : Int)).toNat; omega))
      | (refine st_ret (by simp only [dn, reduceCtorEq, hw1] <;> rfl) ?_
         focus exact ⟨t, l, s, g, w, m, ea, ep, ec, tp, d, rfl, by rw [show held13 t l s g w ea ep ec tp = V by rw [hV, show k = ec.toNat by omega]; rfl]⟩)
      | fail "no step")
set_option maxHeartbeats 4000000 in
theorem bHe1_1 (P : Program) (hs : List (Nat × Nat × List Nat)) : ∀ env, heInv1 env → tHeld1L1.sat { cxPhe cHeld1.fn 29 8 50 P with hints := hs } (ctrR cHeld1) env := by
  rintro env ⟨t, l, s, g, w, m, ea, ep, ec, tp, k, V, d, rfl, h1, h2, h3, hV⟩
  have hvl : V.length ≤ 9000 := by rw [hV, List.length_append, runP_len]; simp; omega
  have hwk : IntKind.i64.wrap ((k : Int) + 1) = ((k + 1 : Nat) : Int) := by rw [wrap_small (by omega) (by omega)]; rfl
  have hla : (V ++ d).length = V.length + d.length := List.length_append
  by_cases hk : (k : Int) < s
  all_goals
    unfold tHeld1L1
    have hw1 : IntKind.i64.wrap ((V.length : Int) + 2) = ((V ++ [IntKind.i64.wrap (l + k), IntKind.i64.wrap (g + k)]).length : Int) := by rw [wrap_small (by omega) (by omega), List.length_append]; rfl
    repeat' (first
      | (first
        | (with_reducible refine st_need ?_ ?_
           focus (simp only [dn, reduceCtorEq, hw1, hla, hwk] <;> first | omega | assumption))
        | (with_reducible refine st_and ?_ ?_)
        | (with_reducible exact st_ok)
        | (with_reducible refine st_br (fun hc => ?_) (fun hc => ?_) <;> (simp only [dn, reduceCtorEq, hw1, hla, hwk] at hc) <;> (try (exfalso; first | contradiction | omega)))
        | (refine st_call (by rfl) (by simp only [dn, reduceCtorEq, hw1, hla, hwk] <;> rfl) ?_ (by rfl <;> rfl) (by simp only [dn] <;> rfl) ?_
           focus (first | rfl)))
      | (refine st_rowsP (V := V) (by rfl) (by rfl) (by rfl) (by rfl) (fun rr env' he => ?_)
         simp only [List.cons_append, List.nil_append] at he
         subst he)
      | (refine st_back (by rfl) (by simp only [dn, reduceCtorEq, hw1, hwk] <;> rfl) (by simp only [dn] <;> rfl) (by rfl) ?_ ?_
         focus exact ⟨t, l, s, g, w, m, ea, ep, ec, tp, k + 1, V ++ [IntKind.i64.wrap (l + k), IntKind.i64.wrap (g + k)], rr, rfl, h1, h2, by omega, by rw [he_step, hV]⟩
         focus (show (s - ((k + 1 : Nat) : Int)).toNat < (s - (k : Int)).toNat; omega))
      | (refine st_loop (by rfl) (by simp only [dn, reduceCtorEq, hw1] <;> rfl) (by simp only [dn] <;> rfl) ?_ (fun env' h => bHe2_1 P hs env' h)
         exact ⟨t, l, s, g, w, m, ea, ep, ec, tp, _, _, _, _, 0, V, d, rfl, h1, h2, Nat.zero_le _, by rw [hV, show k = s.toNat by omega]; simp [runI]⟩)
      | fail "no step")
set_option maxHeartbeats 4000000 in
theorem vHeld1 (P : Program) (hs : List (Nat × Nat × List Nat)) : ∀ ins, ins.length = cHeld1.nin → cHeld1.pre ins → tHeld1.sat { cxPhe cHeld1.fn 29 8 50 P with hints := hs } (ctrR cHeld1) ins := by
  rintro ins _ ⟨t, l, s, g, w, m, ea, ep, ec, tp, rfl, h1, h2⟩
  unfold tHeld1
  repeat' (first
    | (first
      | (with_reducible refine st_need ?_ ?_
         focus (simp only [dn, reduceCtorEq, h1] <;> first | omega | assumption))
      | (with_reducible refine st_and ?_ ?_)
      | (with_reducible exact st_ok)
      | (with_reducible refine st_br (fun hc => ?_) (fun hc => ?_) <;> (simp only [dn, reduceCtorEq, h1] at hc) <;> (try (exfalso; first | contradiction | omega)))
      | (refine st_call (by rfl) (by simp only [dn, reduceCtorEq, h1] <;> rfl) ?_ (by rfl <;> rfl) (by simp only [dn] <;> rfl) ?_
         focus (first | rfl)))
    | (refine st_lst (by simp only [dn, reduceCtorEq, h1] <;> rfl) ?_)
    | (refine st_loop (by rfl) (by simp only [dn, reduceCtorEq, h1] <;> rfl) (by simp only [dn] <;> rfl) ?_ (fun env' h => bHe1_1 P hs env' h)
       exact ⟨t, l, s, g, w, m, ea, ep, ec, tp, 0, [t, w, ea, tp, IntKind.i64.wrap (tp + 1), IntKind.i64.wrap (tp + 2)], [], rfl, h1, h2, Nat.zero_le _, by simp [runP]⟩)
    | fail "no step")
theorem hHeld1 : cHeld1.Holds objs Tryz.prog := runCtr_holdsm (X := { cxPhe cHeld1.fn 29 8 50 Tryz.prog with hints := hsHeld1 }) (fuel := 20) (opens := []) (folds := []) objsOk mixed noCts (callable _ Tryz.func87 (by kernel_rfl) (by kernel_rfl)) (by rintro ins outs _ _ ⟨_, _, _, _, _, _, _, _, _, _, _, _, rfl⟩; rfl) (by rw [rHeld1]; exact vHeld1 _ _)
set_option maxHeartbeats 4000000 in
theorem bHe2_2 (P : Program) (hs : List (Nat × Nat × List Nat)) : ∀ env, heInv2 env → tHeld2L0.sat { cxPhe cHeld2.fn 29 8 50 P with hints := hs } (ctrR cHeld2) env := by
  rintro env ⟨t, l, s, g, w, m, ea, ep, ec, tp, x10, x11, x12, x13, k, V, d, rfl, h1, h2, h3, hV⟩
  have hvl : V.length ≤ 9000 := by rw [hV, List.length_append, List.length_append, runP_len, runI_len]; simp; omega
  have hwk : IntKind.i64.wrap ((k : Int) + 1) = ((k + 1 : Nat) : Int) := by rw [wrap_small (by omega) (by omega)]; rfl
  have hla : (V ++ d).length = V.length + d.length := List.length_append
  by_cases hk : (k : Int) < ec
  all_goals
    unfold tHeld2L0
    have hw1 : IntKind.i64.wrap ((V.length : Int) + 1) = ((V ++ [IntKind.i64.wrap (ep + k)]).length : Int) := by rw [wrap_small (by omega) (by omega), List.length_append]; rfl
    repeat' (first
      | (first
        | (with_reducible refine st_need ?_ ?_
           focus (simp only [dn, reduceCtorEq, hw1, hla, hwk] <;> first | omega | assumption))
        | (with_reducible refine st_and ?_ ?_)
        | (with_reducible exact st_ok)
        | (with_reducible refine st_br (fun hc => ?_) (fun hc => ?_) <;> (simp only [dn, reduceCtorEq, hw1, hla, hwk] at hc) <;> (try (exfalso; first | contradiction | omega)))
        | (refine st_call (by rfl) (by simp only [dn, reduceCtorEq, hw1, hla, hwk] <;> rfl) ?_ (by rfl <;> rfl) (by simp only [dn] <;> rfl) ?_
           focus (first | rfl)))
      | (refine st_rowP (V := V) (by rfl) (by rfl) (by rfl) (fun rr env' he => ?_)
         simp only [List.cons_append, List.nil_append] at he
         subst he)
      | (refine st_back (by rfl) (by simp only [dn, reduceCtorEq, hw1, hwk] <;> rfl) (by simp only [dn] <;> rfl) (by rfl) ?_ ?_
         focus exact ⟨t, l, s, g, w, m, ea, ep, ec, tp, x10, x11, x12, x13, k + 1, V ++ [IntKind.i64.wrap (ep + k)], rr, rfl, h1, h2, by omega, by rw [he_step1, hV]⟩
         focus (show (ec - ((k + 1 : Nat) : Int)).toNat < (ec - (k : Int)).toNat; omega))
      | (refine st_ret (by simp only [dn, reduceCtorEq, hw1] <;> rfl) ?_
         focus exact ⟨t, l, s, g, w, m, ea, ep, ec, tp, d, rfl, by rw [show held13 t l s g w ea ep ec tp = V by rw [hV, show k = ec.toNat by omega]; rfl]⟩)
      | fail "no step")
set_option maxHeartbeats 4000000 in
theorem bHe1_2 (P : Program) (hs : List (Nat × Nat × List Nat)) : ∀ env, heInv1 env → tHeld2L1.sat { cxPhe cHeld2.fn 29 8 50 P with hints := hs } (ctrR cHeld2) env := by
  rintro env ⟨t, l, s, g, w, m, ea, ep, ec, tp, k, V, d, rfl, h1, h2, h3, hV⟩
  have hvl : V.length ≤ 9000 := by rw [hV, List.length_append, runP_len]; simp; omega
  have hwk : IntKind.i64.wrap ((k : Int) + 1) = ((k + 1 : Nat) : Int) := by rw [wrap_small (by omega) (by omega)]; rfl
  have hla : (V ++ d).length = V.length + d.length := List.length_append
  by_cases hk : (k : Int) < s
  all_goals
    unfold tHeld2L1
    have hw1 : IntKind.i64.wrap ((V.length : Int) + 2) = ((V ++ [IntKind.i64.wrap (l + k), IntKind.i64.wrap (g + k)]).length : Int) := by rw [wrap_small (by omega) (by omega), List.length_append]; rfl
    repeat' (first
      | (first
        | (with_reducible refine st_need ?_ ?_
           focus (simp only [dn, reduceCtorEq, hw1, hla, hwk] <;> first | omega | assumption))
        | (with_reducible refine st_and ?_ ?_)
        | (with_reducible exact st_ok)
        | (with_reducible refine st_br (fun hc => ?_) (fun hc => ?_) <;> (simp only [dn, reduceCtorEq, hw1, hla, hwk] at hc) <;> (try (exfalso; first | contradiction | omega)))
        | (refine st_call (by rfl) (by simp only [dn, reduceCtorEq, hw1, hla, hwk] <;> rfl) ?_ (by rfl <;> rfl) (by simp only [dn] <;> rfl) ?_
           focus (first | rfl)))
      | (refine st_rowsP (V := V) (by rfl) (by rfl) (by rfl) (by rfl) (fun rr env' he => ?_)
         simp only [List.cons_append, List.nil_append] at he
         subst he)
      | (refine st_back (by rfl) (by simp only [dn, reduceCtorEq, hw1, hwk] <;> rfl) (by simp only [dn] <;> rfl) (by rfl) ?_ ?_
         focus exact ⟨t, l, s, g, w, m, ea, ep, ec, tp, k + 1, V ++ [IntKind.i64.wrap (l + k), IntKind.i64.wrap (g + k)], rr, rfl, h1, h2, by omega, by rw [he_step, hV]⟩
         focus (show (s - ((k + 1 : Nat) : Int)).toNat < (s - (k : Int)).toNat; omega))
      | (refine st_loop (by rfl) (by simp only [dn, reduceCtorEq, hw1] <;> rfl) (by simp only [dn] <;> rfl) ?_ (fun env' h => bHe2_2 P hs env' h)
         exact ⟨t, l, s, g, w, m, ea, ep, ec, tp, _, _, _, _, 0, V, d, rfl, h1, h2, Nat.zero_le _, by rw [hV, show k = s.toNat by omega]; simp [runI]⟩)
      | fail "no step")
set_option maxHeartbeats 4000000 in
theorem vHeld2 (P : Program) (hs : List (Nat × Nat × List Nat)) : ∀ ins, ins.length = cHeld2.nin → cHeld2.pre ins → tHeld2.sat { cxPhe cHeld2.fn 29 8 50 P with hints := hs } (ctrR cHeld2) ins := by
  rintro ins _ ⟨t, l, s, g, w, m, ea, ep, ec, tp, rfl, h1, h2⟩
  unfold tHeld2
  repeat' (first
    | (first
      | (with_reducible refine st_need ?_ ?_
         focus (simp only [dn, reduceCtorEq, h1] <;> first | omega | assumption))
      | (with_reducible refine st_and ?_ ?_)
      | (with_reducible exact st_ok)
      | (with_reducible refine st_br (fun hc => ?_) (fun hc => ?_) <;> (simp only [dn, reduceCtorEq, h1] at hc) <;> (try (exfalso; first | contradiction | omega)))
      | (refine st_call (by rfl) (by simp only [dn, reduceCtorEq, h1] <;> rfl) ?_ (by rfl <;> rfl) (by simp only [dn] <;> rfl) ?_
         focus (first | rfl)))
    | (refine st_lst (by simp only [dn, reduceCtorEq, h1] <;> rfl) ?_)
    | (refine st_loop (by rfl) (by simp only [dn, reduceCtorEq, h1] <;> rfl) (by simp only [dn] <;> rfl) ?_ (fun env' h => bHe1_2 P hs env' h)
       exact ⟨t, l, s, g, w, m, ea, ep, ec, tp, 0, [t, w, ea, tp, IntKind.i64.wrap (tp + 1), IntKind.i64.wrap (tp + 2)], [], rfl, h1, h2, Nat.zero_le _, by simp [runP]⟩)
    | fail "no step")
theorem hHeld2 : cHeld2.Holds objs Tryz.prog := runCtr_holdsm (X := { cxPhe cHeld2.fn 29 8 50 Tryz.prog with hints := hsHeld2 }) (fuel := 20) (opens := []) (folds := []) objsOk mixed noCts (callable _ Tryz.func87 (by kernel_rfl) (by kernel_rfl)) (by rintro ins outs _ _ ⟨_, _, _, _, _, _, _, _, _, _, _, _, rfl⟩; rfl) (by rw [rHeld2]; exact vHeld2 _ _)
end Go.Proofs.YtdldcofddfkkbaaGreat
