/- Jobs, once: the ends (printed by gen_db.py). -/
import Derived.Test.YtdabdbbgaekmdaaGreatEvFO
namespace Go.Proofs.YtdabdbbgaekmdaaGreat
set_option linter.unusedVariables false
set_option linter.unusedSimpArgs false
set_option linter.unusedSectionVars false
open Go Go.RowKit
theorem rem_0 {M : MemSt} {n : Int} (o : CoSt) : 0 ≤ remJ M n o := by
  cases o with
  | take O => unfold remJ; repeat' split
              all_goals omega
  | give O => unfold remJ; repeat' split
              all_goals omega
  | turn O => unfold remJ; repeat' split
              all_goals omega
  | no => exact Int.le_refl 0
  | key _ => exact Int.le_refl 0
  | kof _ => exact Int.le_refl 0
theorem h8_of {M : MemSt} {n k : Int} (h : k + remJ M n .no ≤ 8) : k ≤ 8 := by
  have : remJ M n .no = 0 := rfl
  omega
set_option maxRecDepth 10000 in
set_option maxHeartbeats 8000000 in
theorem bE2 (P : Program) (hs : List (Nat × Nat × List Nat)) : ∀ env, onE2 env → tOnceL1.sat { cxEy P with hints := hs } (ctrR cOnce) env := by
  rintro env ⟨sz, gl, kl, cl, p, x6, x7, x8, y0, y1, y2, y3, y4, y5, y6, y7, y8, y9, y10, y11, y12, y13, y14, y15, y16, y17, y18, y19, y20, y21, y22, y23, y24, y25, y26, y27, y28, y29, y30, y31, y32, y33, y34, y35, y36, y37, y38, y39, y40, y41, y42, y43, y44, y45, y46, y47, y48, y49, y50, y51, y52, y53, y54, y55, y56, y57, y58, y59, y60, y61, y62, y63, y64, y65, M, o0, o1, o2, c0, c1, c2, T, d, cp, C, k, kk, rfl, h0, h8, h6, h7, p0, p5, rfl, rfl, J, hcp⟩
  have hw : IntKind.i64.wrap (1 + p) = 1 + p := wrap_small (by omega) (by omega)
  have hwk : IntKind.i64.wrap (k + 1) = k + 1 := wrap_small (by omega) (by have := rem_0 (M := M) (n := 1 + p) o2; omega)
  rcases o2 with _ | O | O | O | O | O
  · have hk8 : k ≤ 8 := h8_of h8
    have hM := J.fine
    have hce := chain_eq (by omega) (by omega) J
    have hC := lnk_range J.lnk
    have hnd := (List.nodup_append.1 J.nd).1
    have hfr : ∀ j, 0 ≤ j → j < 1 + p → (stw M (1 + p) j % 256 = 1 ↔ j ∈ C) := fun j a b => by
      have := J.fr j a b
      rwa [show C ++ (CoT.own ⟨.no, c0, 0⟩ ++ (CoT.own ⟨.no, c1, 1⟩ ++ CoT.own ⟨.no, c2, 2⟩)) = C from List.append_nil _] at this
    by_cases hk9 : k < 8
    all_goals
      unfold tOnceL1
      simp only [crIns, oe, List.cons_append, List.nil_append]
      repeat' (first
      | (first
        | (with_reducible refine st_need ?_ ?_
           focus (simp only [dn, reduceCtorEq, oe, hw] <;> first | omega | assumption))
        | (with_reducible refine st_and ?_ ?_)
        | (with_reducible exact st_ok)
        | (with_reducible refine st_br (fun hc => ?_) (fun hc => ?_) <;> (simp only [dn, reduceCtorEq, oe, hw] at hc) <;> (try (exfalso; first | contradiction | omega)))
        | (refine st_call (by rfl) (by simp only [dn, reduceCtorEq, oe, hw] <;> rfl) ?_ (by rfl <;> rfl) (by simp only [dn] <;> rfl) ?_
           focus (first | rfl)))
      | (refine st_chain (by rfl) (by simp only [dn, reduceCtorEq, oe] <;> rfl) hM (by omega) (fun cc env' he => ?_)
         simp only [List.cons_append, List.nil_append] at he
         subst he)
      | (refine st_jall (by rfl) (by simp only [dn, reduceCtorEq, va_map] <;> rfl) hM (by omega) (by omega) (fun cz dd env' he => ?_)
         simp only [List.cons_append, List.nil_append] at he
         subst he)
      | (refine st_loop (by rfl) (by simp only [dn, reduceCtorEq, oe] <;> rfl) (by simp only [dn] <;> rfl) ?_ (fun env' h => bFin P hs env' h)
         exact ⟨sz, gl, kl, cl, p, x6, x7, x8, _, _, _, _, _, _, _, _, _, _, _, _, _, _, _, _, _, _, _, _, _, _, _, _, _, _, _, _, _, _, _, _, _, _, _, _, _, _, _, _, _, _, _, _, _, _, _, _, _, _, _, _, _, _, _, _, _, _, _, _, _, _, _, _, _, _, _, _, _, _, _, _, _, _, _, _, _, _, _, _, _, _, _, _, _, _, _, _, M, C, cc, dd, _, cz, 0, by rw [filt_none (fun x hx => (hC x hx).1), ← hce]; rfl, by omega, by omega, p0, p5, J.len, hnd, hC, hfr⟩)
      | fail "no step")
  rotate_right
  · exact J.hc.1.elim
  rotate_right
  · exact J.hc.1.elim
  all_goals
    have hpos := rem_pos J.hc.1 (by intro e; cases e)
    have hk9 : k < 8 := by have := h8; simp only at this hpos; omega
    unfold tOnceL1
    simp only [crIns, oe, List.cons_append, List.nil_append]
    repeat' (first
    | (first
      | (with_reducible refine st_need ?_ ?_
         focus (simp only [dn, reduceCtorEq, oe, hw] <;> first | omega | assumption))
      | (with_reducible refine st_and ?_ ?_)
      | (with_reducible exact st_ok)
      | (with_reducible refine st_br (fun hc => ?_) (fun hc => ?_) <;> (simp only [dn, reduceCtorEq, oe, hw] at hc) <;> (try (exfalso; first | contradiction | omega)))
      | (refine st_call (by rfl) (by simp only [dn, reduceCtorEq, oe, hw] <;> rfl) ?_ (by rfl <;> rfl) (by simp only [dn] <;> rfl) ?_
         focus (first | rfl)))
    | (refine st_steps2 (M := M) (n := 1 + p) (o0 := .no) (o1 := .no) (o2 := .take O) (T := T) (d := d) (by rfl) (by simp only [dn, reduceCtorEq, oe] <;> rfl) J (by intro e; cases e) (by omega) (by omega) h6 (by omega) hcp (fun M' o' c' T' d' cp' C' env' J' hr hcp' he => ?_)
       simp only [outs9, List.cons_append, List.nil_append] at he
       subst he)
    | (refine st_steps2 (M := M) (n := 1 + p) (o0 := .no) (o1 := .no) (o2 := .give O) (T := T) (d := d) (by rfl) (by simp only [dn, reduceCtorEq, oe] <;> rfl) J (by intro e; cases e) (by omega) (by omega) h6 (by omega) hcp (fun M' o' c' T' d' cp' C' env' J' hr hcp' he => ?_)
       simp only [outs9, List.cons_append, List.nil_append] at he
       subst he)
    | (refine st_steps2 (M := M) (n := 1 + p) (o0 := .no) (o1 := .no) (o2 := .turn O) (T := T) (d := d) (by rfl) (by simp only [dn, reduceCtorEq, oe] <;> rfl) J (by intro e; cases e) (by omega) (by omega) h6 (by omega) hcp (fun M' o' c' T' d' cp' C' env' J' hr hcp' he => ?_)
       simp only [outs9, List.cons_append, List.nil_append] at he
       subst he)
    | (refine st_back (by rfl) (by simp only [dn, reduceCtorEq, hwk, oe] <;> rfl) (by simp only [dn] <;> rfl) (by rfl) ?_ ?_
       focus exact ⟨sz, gl, kl, cl, p, x6, x7, x8, _, _, _, _, _, _, _, _, _, _, _, _, _, _, _, _, _, _, _, _, _, _, _, _, _, _, _, _, _, _, _, _, _, _, _, _, _, _, _, _, _, _, _, _, _, _, _, _, _, _, _, _, _, _, _, _, _, _, _, _, _, _, _, _, _, _, M', .no, .no, o', c0, c1, c', T', d', cp', C', k + 1, kk + 1, rfl, by omega, by omega, by omega, by omega, p0, p5, rfl, rfl, J', hcp'⟩
       focus (show ((8 : Int) - (k + 1)).toNat < ((8 : Int) - k).toNat; omega))
    | fail "no step")
set_option maxRecDepth 10000 in
set_option maxHeartbeats 8000000 in
theorem bE1 (P : Program) (hs : List (Nat × Nat × List Nat)) : ∀ env, onE1 env → tOnceL2.sat { cxEy P with hints := hs } (ctrR cOnce) env := by
  rintro env ⟨sz, gl, kl, cl, p, x6, x7, x8, y0, y1, y2, y3, y4, y5, y6, y7, y8, y9, y10, y11, y12, y13, y14, y15, y16, y17, y18, y19, y20, y21, y22, y23, y24, y25, y26, y27, y28, y29, y30, y31, y32, y33, y34, y35, y36, y37, y38, y39, y40, y41, y42, y43, M, o0, o1, o2, c0, c1, c2, T, d, cp, C, k, kk, rfl, h0, h8, h6, h7, p0, p5, rfl, J, hcp⟩
  have hw : IntKind.i64.wrap (1 + p) = 1 + p := wrap_small (by omega) (by omega)
  have hwk : IntKind.i64.wrap (k + 1) = k + 1 := wrap_small (by omega) (by have := rem_0 (M := M) (n := 1 + p) o1; omega)
  rcases o1 with _ | O | O | O | O | O
  · have hk8 : k ≤ 8 := h8_of h8
    by_cases hk9 : k < 8
    all_goals
      unfold tOnceL2
      simp only [crIns, oe, List.cons_append, List.nil_append]
      repeat' (first
      | (first
        | (with_reducible refine st_need ?_ ?_
           focus (simp only [dn, reduceCtorEq, oe, hw] <;> first | omega | assumption))
        | (with_reducible refine st_and ?_ ?_)
        | (with_reducible exact st_ok)
        | (with_reducible refine st_br (fun hc => ?_) (fun hc => ?_) <;> (simp only [dn, reduceCtorEq, oe, hw] at hc) <;> (try (exfalso; first | contradiction | omega)))
        | (refine st_call (by rfl) (by simp only [dn, reduceCtorEq, oe, hw] <;> rfl) ?_ (by rfl <;> rfl) (by simp only [dn] <;> rfl) ?_
           focus (first | rfl)))
      | (refine st_loop (by rfl) (by simp only [dn, reduceCtorEq, oe] <;> rfl) (by simp only [dn] <;> rfl) ?_ (fun env' h => bE2 P hs env' h)
         exact ⟨sz, gl, kl, cl, p, x6, x7, x8, _, _, _, _, _, _, _, _, _, _, _, _, _, _, _, _, _, _, _, _, _, _, _, _, _, _, _, _, _, _, _, _, _, _, _, _, _, _, _, _, _, _, _, _, _, _, _, _, _, _, _, _, _, _, _, _, _, _, _, _, _, _, _, _, _, _, M, .no, .no, o2, c0, c1, c2, T, d, cp, C, 0, kk, rfl, by omega, by have := @rem_le7 M (1 + p) o2; omega, h6, by omega, p0, p5, rfl, rfl, J, hcp⟩)
      | fail "no step")
  rotate_right
  · exact J.hb.1.elim
  rotate_right
  · exact J.hb.1.elim
  all_goals
    have hpos := rem_pos J.hb.1 (by intro e; cases e)
    have hk9 : k < 8 := by have := h8; simp only at this hpos; omega
    unfold tOnceL2
    simp only [crIns, oe, List.cons_append, List.nil_append]
    repeat' (first
    | (first
      | (with_reducible refine st_need ?_ ?_
         focus (simp only [dn, reduceCtorEq, oe, hw] <;> first | omega | assumption))
      | (with_reducible refine st_and ?_ ?_)
      | (with_reducible exact st_ok)
      | (with_reducible refine st_br (fun hc => ?_) (fun hc => ?_) <;> (simp only [dn, reduceCtorEq, oe, hw] at hc) <;> (try (exfalso; first | contradiction | omega)))
      | (refine st_call (by rfl) (by simp only [dn, reduceCtorEq, oe, hw] <;> rfl) ?_ (by rfl <;> rfl) (by simp only [dn] <;> rfl) ?_
         focus (first | rfl)))
    | (refine st_steps1 (M := M) (n := 1 + p) (o0 := .no) (o1 := .take O) (o2 := o2) (T := T) (d := d) (by rfl) (by simp only [dn, reduceCtorEq, oe] <;> rfl) J (by intro e; cases e) (by omega) (by omega) h6 (by omega) hcp (fun M' o' c' T' d' cp' C' env' J' hr hcp' he => ?_)
       simp only [outs9, List.cons_append, List.nil_append] at he
       subst he)
    | (refine st_steps1 (M := M) (n := 1 + p) (o0 := .no) (o1 := .give O) (o2 := o2) (T := T) (d := d) (by rfl) (by simp only [dn, reduceCtorEq, oe] <;> rfl) J (by intro e; cases e) (by omega) (by omega) h6 (by omega) hcp (fun M' o' c' T' d' cp' C' env' J' hr hcp' he => ?_)
       simp only [outs9, List.cons_append, List.nil_append] at he
       subst he)
    | (refine st_steps1 (M := M) (n := 1 + p) (o0 := .no) (o1 := .turn O) (o2 := o2) (T := T) (d := d) (by rfl) (by simp only [dn, reduceCtorEq, oe] <;> rfl) J (by intro e; cases e) (by omega) (by omega) h6 (by omega) hcp (fun M' o' c' T' d' cp' C' env' J' hr hcp' he => ?_)
       simp only [outs9, List.cons_append, List.nil_append] at he
       subst he)
    | (refine st_back (by rfl) (by simp only [dn, reduceCtorEq, hwk, oe] <;> rfl) (by simp only [dn] <;> rfl) (by rfl) ?_ ?_
       focus exact ⟨sz, gl, kl, cl, p, x6, x7, x8, _, _, _, _, _, _, _, _, _, _, _, _, _, _, _, _, _, _, _, _, _, _, _, _, _, _, _, _, _, _, _, _, _, _, _, _, _, _, _, _, _, _, _, _, M', .no, o', o2, c0, c', c2, T', d', cp', C', k + 1, kk + 1, rfl, by omega, by omega, by omega, by omega, p0, p5, rfl, J', hcp'⟩
       focus (show ((8 : Int) - (k + 1)).toNat < ((8 : Int) - k).toNat; omega))
    | fail "no step")
set_option maxRecDepth 10000 in
set_option maxHeartbeats 8000000 in
theorem bE0 (P : Program) (hs : List (Nat × Nat × List Nat)) : ∀ env, onE0 env → tOnceL3.sat { cxEy P with hints := hs } (ctrR cOnce) env := by
  rintro env ⟨sz, gl, kl, cl, p, x6, x7, x8, y0, y1, y2, y3, y4, y5, y6, y7, y8, y9, y10, y11, y12, y13, y14, y15, y16, y17, y18, y19, y20, y21, M, o0, o1, o2, c0, c1, c2, T, d, cp, C, k, kk, rfl, h0, h8, h6, h7, p0, p5, J, hcp⟩
  have hw : IntKind.i64.wrap (1 + p) = 1 + p := wrap_small (by omega) (by omega)
  have hwk : IntKind.i64.wrap (k + 1) = k + 1 := wrap_small (by omega) (by have := rem_0 (M := M) (n := 1 + p) o0; omega)
  rcases o0 with _ | O | O | O | O | O
  · have hk8 : k ≤ 8 := h8_of h8
    by_cases hk9 : k < 8
    all_goals
      unfold tOnceL3
      simp only [crIns, oe, List.cons_append, List.nil_append]
      repeat' (first
      | (first
        | (with_reducible refine st_need ?_ ?_
           focus (simp only [dn, reduceCtorEq, oe, hw] <;> first | omega | assumption))
        | (with_reducible refine st_and ?_ ?_)
        | (with_reducible exact st_ok)
        | (with_reducible refine st_br (fun hc => ?_) (fun hc => ?_) <;> (simp only [dn, reduceCtorEq, oe, hw] at hc) <;> (try (exfalso; first | contradiction | omega)))
        | (refine st_call (by rfl) (by simp only [dn, reduceCtorEq, oe, hw] <;> rfl) ?_ (by rfl <;> rfl) (by simp only [dn] <;> rfl) ?_
           focus (first | rfl)))
      | (refine st_loop (by rfl) (by simp only [dn, reduceCtorEq, oe] <;> rfl) (by simp only [dn] <;> rfl) ?_ (fun env' h => bE1 P hs env' h)
         exact ⟨sz, gl, kl, cl, p, x6, x7, x8, _, _, _, _, _, _, _, _, _, _, _, _, _, _, _, _, _, _, _, _, _, _, _, _, _, _, _, _, _, _, _, _, _, _, _, _, _, _, _, _, _, _, _, _, M, .no, o1, o2, c0, c1, c2, T, d, cp, C, 0, kk, rfl, by omega, by have := @rem_le7 M (1 + p) o1; omega, h6, by omega, p0, p5, rfl, J, hcp⟩)
      | fail "no step")
  rotate_right
  · exact J.ha.1.elim
  rotate_right
  · exact J.ha.1.elim
  all_goals
    have hpos := rem_pos J.ha.1 (by intro e; cases e)
    have hk9 : k < 8 := by have := h8; simp only at this hpos; omega
    unfold tOnceL3
    simp only [crIns, oe, List.cons_append, List.nil_append]
    repeat' (first
    | (first
      | (with_reducible refine st_need ?_ ?_
         focus (simp only [dn, reduceCtorEq, oe, hw] <;> first | omega | assumption))
      | (with_reducible refine st_and ?_ ?_)
      | (with_reducible exact st_ok)
      | (with_reducible refine st_br (fun hc => ?_) (fun hc => ?_) <;> (simp only [dn, reduceCtorEq, oe, hw] at hc) <;> (try (exfalso; first | contradiction | omega)))
      | (refine st_call (by rfl) (by simp only [dn, reduceCtorEq, oe, hw] <;> rfl) ?_ (by rfl <;> rfl) (by simp only [dn] <;> rfl) ?_
         focus (first | rfl)))
    | (refine st_steps0 (M := M) (n := 1 + p) (o0 := .take O) (o1 := o1) (o2 := o2) (T := T) (d := d) (by rfl) (by simp only [dn, reduceCtorEq, oe] <;> rfl) J (by intro e; cases e) (by omega) (by omega) h6 (by omega) hcp (fun M' o' c' T' d' cp' C' env' J' hr hcp' he => ?_)
       simp only [outs9, List.cons_append, List.nil_append] at he
       subst he)
    | (refine st_steps0 (M := M) (n := 1 + p) (o0 := .give O) (o1 := o1) (o2 := o2) (T := T) (d := d) (by rfl) (by simp only [dn, reduceCtorEq, oe] <;> rfl) J (by intro e; cases e) (by omega) (by omega) h6 (by omega) hcp (fun M' o' c' T' d' cp' C' env' J' hr hcp' he => ?_)
       simp only [outs9, List.cons_append, List.nil_append] at he
       subst he)
    | (refine st_steps0 (M := M) (n := 1 + p) (o0 := .turn O) (o1 := o1) (o2 := o2) (T := T) (d := d) (by rfl) (by simp only [dn, reduceCtorEq, oe] <;> rfl) J (by intro e; cases e) (by omega) (by omega) h6 (by omega) hcp (fun M' o' c' T' d' cp' C' env' J' hr hcp' he => ?_)
       simp only [outs9, List.cons_append, List.nil_append] at he
       subst he)
    | (refine st_back (by rfl) (by simp only [dn, reduceCtorEq, hwk, oe] <;> rfl) (by simp only [dn] <;> rfl) (by rfl) ?_ ?_
       focus exact ⟨sz, gl, kl, cl, p, x6, x7, x8, _, _, _, _, _, _, _, _, _, _, _, _, _, _, _, _, _, _, _, _, _, _, M', o', o1, o2, c', c1, c2, T', d', cp', C', k + 1, kk + 1, rfl, by omega, by omega, by omega, by omega, p0, p5, J', hcp'⟩
       focus (show ((8 : Int) - (k + 1)).toNat < ((8 : Int) - k).toNat; omega))
    | fail "no step")
end Go.Proofs.YtdabdbbgaekmdaaGreat
