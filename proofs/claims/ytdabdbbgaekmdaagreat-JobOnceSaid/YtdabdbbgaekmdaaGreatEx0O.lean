/- Jobs, once: the steps of the core 0 (printed by gen_db.py). -/
import Derived.Test.YtdabdbbgaekmdaaGreatE3O
namespace Go.Proofs.YtdabdbbgaekmdaaGreat
set_option linter.unusedVariables false
set_option linter.unusedSimpArgs false
set_option linter.unusedSectionVars false
open Go Go.RowKit
set_option maxRecDepth 10000 in
set_option maxHeartbeats 8000000 in
theorem bN0 (P : Program) (hs : List (Nat × Nat × List Nat)) : ∀ env, stN0Inv env → tSteps0L0.sat { cxEs P ctsEs0 [lSt0T, lSt0N] with hints := hs } (ctrR cSteps0) env := by
  rintro env ⟨M, n, T, o0, o1, o2, c0, c1, c2, d, cp, M', o', ch', T', x, d1, cp1, d2, cp2, dd, cq, kk, rfl, h0, hi, htk, hk0, hk9, hcq, F⟩
  obtain ⟨X, ⟨kd, kd0⟩, n1, n5, len, len', fine, fine', tl, rel⟩ := id F
  obtain ⟨xb, _, _⟩ | ⟨_, _, hf, hch, hch', hT', hfr⟩ := X.hc
  · omega
  obtain ⟨O, O', rfl, rfl⟩ := kind_tk kd htk
  subst hch
  rw [if_pos htk] at hT'
  have e0 : IntKind.i64.wrap (x + 1) = x + 1 := wrap_small (by omega) (by omega)
  have hm : IntKind.i64.wrap (x * 3) = x * 3 := wrap_small (by omega) (by omega)
  have ha0 : IntKind.i64.wrap (x * 3 + 0) = x * 3 + 0 := wrap_small (by omega) (by omega)
  have ha1 : IntKind.i64.wrap (x * 3 + 1) = x * 3 + 1 := wrap_small (by omega) (by omega)
  have ha2 : IntKind.i64.wrap (x * 3 + 2) = x * 3 + 2 := wrap_small (by omega) (by omega)
  have hw01 : IntKind.i64.wrap (0 + 1) = 1 := wrap_small (by omega) (by omega)
  have hj1 : ((jobsL M (1 + n) n.toNat ++ d1).length : Int) = 3 * n + d1.length := by rw [List.length_append, jobsL_len]; omega
  have hj2 : ((jobsL M' (1 + n) n.toNat ++ d2).length : Int) = 3 * n + d2.length := by rw [List.length_append, jobsL_len]; omega
  obtain ⟨g0, g1, g2⟩ := jobs_get (d := d2) n5 len' h0 hi
  have f0 : True := trivial
  have f1 : True := trivial
  have f2 : True := trivial
  have hj3 : ((flatP T ++ dd).length : Int) = 2 * T.length + dd.length := by rw [List.length_append, flatP_len]; omega
  have hk1 : IntKind.i64.wrap (kk + 1) = kk + 1 := wrap_small (by omega) (by omega)
  have hp : IntKind.i64.wrap (kk * 2) = kk * 2 := wrap_small (by omega) (by omega)
  have hp0 : IntKind.i64.wrap (kk * 2 + 0) = kk * 2 + 0 := wrap_small (by omega) (by omega)
  have hp1 : IntKind.i64.wrap (kk * 2 + 1) = kk * 2 + 1 := wrap_small (by omega) (by omega)
  have hlT : IntKind.i64.wrap ((T.length : Int) + 1) = (T.length : Int) + 1 := wrap_small (by omega) (by omega)
  by_cases hlt : kk < T.length
  · obtain ⟨k, rfl⟩ : ∃ k : Nat, kk = k := ⟨kk.toNat, by omega⟩
    obtain ⟨p, hpm, q0, q1⟩ := flatP_get (T := T) (k := k) (d := dd) (by omega)
    rw [← show ((k : Int) * 2 + 0).toNat = 2 * k by omega] at q0
    rw [← show ((k : Int) * 2 + 1).toNat = 2 * k + 1 by omega] at q1
    have hnp : ¬ (p.1 = x ∧ p.2 = stw M' n x / 4294967296) := fun e => hfr htk p hpm (Prod.ext e.1 e.2)
    unfold tSteps0L0
    simp only [stE0, crIns, List.cons_append, List.nil_append]
    repeat' (first
      | (first
        | (with_reducible refine st_need ?_ ?_
           focus (simp only [dn, reduceCtorEq, q0, q1, hw01, hm, ha0, ha1, ha2, hp, hp0, hp1, hk1, e0, f0, f1, f2, g0, g1, g2, hj1, hj2, hj3, oe, bx_rm, va_map] <;> first | omega | assumption))
        | (with_reducible refine st_and ?_ ?_)
        | (with_reducible exact st_ok)
        | (with_reducible refine st_br (fun hc => ?_) (fun hc => ?_) <;> (simp only [dn, reduceCtorEq, q0, q1, hw01, hm, ha0, ha1, ha2, hp, hp0, hp1, hk1, e0, f0, f1, f2, g0, g1, g2, hj1, hj2, hj3, oe, bx_rm, va_map] at hc) <;> (try (exfalso; first | contradiction | omega)))
        | (refine st_call (by rfl) (by simp only [dn, reduceCtorEq, q0, q1, hw01, hm, ha0, ha1, ha2, hp, hp0, hp1, hk1, e0, f0, f1, f2, g0, g1, g2, hj1, hj2, hj3, oe, bx_rm, va_map] <;> rfl) ?_ (by rfl <;> rfl) (by simp only [dn] <;> rfl) ?_
           focus (first | rfl)))
      | (refine st_back (by rfl) (by simp only [dn, reduceCtorEq, q0, q1, hw01, hm, ha0, ha1, ha2, hp, hp0, hp1, hk1, e0, f0, f1, f2, g0, g1, g2, hj1, hj2, hj3, oe, bx_rm, va_map] <;> rfl) (by simp only [dn] <;> rfl) (by rfl) ?_ ?_
         focus exact ⟨M, n, T, .take O, o1, o2, 0, c1, c2, d, cp, M', .take O', ch', T', x, d1, cp1, d2, cp2, dd, cq, (k : Int) + 1, rfl, h0, hi, htk, by omega, by omega, hcq, F⟩
         focus (show ((T.length : Int) - ((k : Int) + 1)).toNat < ((T.length : Int) - (k : Int)).toNat; omega))
      | fail "no step")
  · unfold tSteps0L0
    simp only [stE0, crIns, List.cons_append, List.nil_append]
    have hx1 : x < x + 1 := by omega
    repeat' (first
      | (first
        | (with_reducible refine st_need ?_ ?_
           focus (simp only [dn, reduceCtorEq, hlT, hcq, decide_eq_true_eq, hw01, hm, ha0, ha1, ha2, hp, hp0, hp1, hk1, e0, f0, f1, f2, g0, g1, g2, hj1, hj2, hj3, oe, bx_rm, va_map] <;> first | omega | assumption))
        | (with_reducible refine st_and ?_ ?_)
        | (with_reducible exact st_ok)
        | (with_reducible refine st_br (fun hc => ?_) (fun hc => ?_) <;> (simp only [dn, reduceCtorEq, hlT, hcq, decide_eq_true_eq, hw01, hm, ha0, ha1, ha2, hp, hp0, hp1, hk1, e0, f0, f1, f2, g0, g1, g2, hj1, hj2, hj3, oe, bx_rm, va_map] at hc) <;> (try (exfalso; first | contradiction | omega)))
        | (refine st_call (by rfl) (by simp only [dn, reduceCtorEq, hlT, hcq, decide_eq_true_eq, hw01, hm, ha0, ha1, ha2, hp, hp0, hp1, hk1, e0, f0, f1, f2, g0, g1, g2, hj1, hj2, hj3, oe, bx_rm, va_map] <;> rfl) ?_ (by rfl <;> rfl) (by simp only [dn] <;> rfl) ?_
           focus (first | rfl)))
      | (refine st_appf (V := flatP T) (n := T.length) (vc := dd) (ys := [x, stw M' n x / 4294967296]) (by rfl) (by rfl) (flatP_len T) (by simp only [dn, reduceCtorEq, hw01, hm, ha0, ha1, ha2, hp, hp0, hp1, hk1, e0, f0, f1, f2, g0, g1, g2, hj1, hj2, hj3, oe, bx_rm, va_map] <;> rfl) (fun q rr env' hr he => ?_)
         simp only [List.cons_append, List.nil_append] at he
         subst he)
      | (refine st_back (by rfl) (by simp only [dn, reduceCtorEq, hlT, hw01, hm, ha0, ha1, ha2, hp, hp0, hp1, hk1, e0, f0, f1, f2, g0, g1, g2, hj1, hj2, hj3, oe, bx_rm, va_map] <;> rfl) (by simp only [dn] <;> rfl) (by rfl) ?_ ?_
         focus exact ⟨M, n, T, .take O, o1, o2, 0, c1, c2, d, cp, M', .take O', ch', T', x, d1, cp1, d2, cp2, x + 1, rr, ((T.length + 1 + q : Nat) : Int), by
             simp only [stE0, if_pos hx1, hT', hch', flatP_app, List.length_append, List.length_singleton, Int.natCast_add, Int.natCast_one] <;> rfl, by omega, by omega, by
             simp only [if_pos hx1, hT', flatP_app, List.length_append, flatP_len, List.length_cons, List.length_nil]; omega, F⟩
         focus (show (n - (x + 1)).toNat < (n - x).toNat; omega))
      | fail "no step")
set_option maxRecDepth 10000 in
set_option maxHeartbeats 8000000 in
theorem bT0 (P : Program) (hs : List (Nat × Nat × List Nat)) : ∀ env, stT0Inv env → tSteps0L1.sat { cxEs P ctsEs0 [lSt0T, lSt0N] with hints := hs } (ctrR cSteps0) env := by
  rintro env ⟨M, n, T, o0, o1, o2, c0, c1, c2, d, cp, M', o', ch', T', x, d1, cp1, d2, cp2, i, dd, cq, rfl, h0, h1, hcq, F⟩
  obtain ⟨X, ⟨kd, kd0⟩, n1, n5, len, len', fine, fine', tl, rel⟩ := id F
  have e0 : IntKind.i64.wrap (i + 1) = i + 1 := wrap_small (by omega) (by omega)
  have hm : IntKind.i64.wrap (i * 3) = i * 3 := wrap_small (by omega) (by omega)
  have ha0 : IntKind.i64.wrap (i * 3 + 0) = i * 3 + 0 := wrap_small (by omega) (by omega)
  have ha1 : IntKind.i64.wrap (i * 3 + 1) = i * 3 + 1 := wrap_small (by omega) (by omega)
  have ha2 : IntKind.i64.wrap (i * 3 + 2) = i * 3 + 2 := wrap_small (by omega) (by omega)
  have hw01 : IntKind.i64.wrap (0 + 1) = 1 := wrap_small (by omega) (by omega)
  have hj1 : ((jobsL M (1 + n) n.toNat ++ d1).length : Int) = 3 * n + d1.length := by rw [List.length_append, jobsL_len]; omega
  have hj2 : ((jobsL M' (1 + n) n.toNat ++ d2).length : Int) = 3 * n + d2.length := by rw [List.length_append, jobsL_len]; omega
  have hp : True := trivial
  have hp0 : True := trivial
  have hp1 : True := trivial
  have hk1 : True := trivial
  have hj3 : True := trivial
  by_cases hi : i < n
  · obtain ⟨f0, f1, f2⟩ := jobs_get (d := d1) n5 len h0 hi
    obtain ⟨g0, g1, g2⟩ := jobs_get (d := d2) n5 len' h0 hi
    by_cases hx : i = x
    · subst hx
      have hii : ¬ i < i := by omega
      have hi1 : i < i + 1 := by omega
      rw [if_neg hii] at hcq
      simp only [if_neg hii]
      obtain ⟨xb, _, _⟩ | ⟨_, _, hf, hch, hch', hT', hfr⟩ := X.hc
      · omega
      subst hch
      have hne := fine_ne hf
      have hv := fine_word fine (1 + n + i)
      have hfb := fineB_of hf kd0 hv.1 hv.2
      rcases kind3 kd kd0 with ⟨O, O', rfl, rfl⟩ | ⟨O, O', rfl, rfl⟩ | ⟨O, O', rfl, rfl⟩
      · unfold tSteps0L1
        simp only [stE0, crIns, List.cons_append, List.nil_append]
        repeat' (first
          | (first
            | (with_reducible refine st_need ?_ ?_
               focus (simp only [dn, reduceCtorEq, hw01, hm, ha0, ha1, ha2, hp, hp0, hp1, hk1, e0, f0, f1, f2, g0, g1, g2, hj1, hj2, hj3, oe, bx_rm, va_map] <;> first | omega | assumption))
            | (with_reducible refine st_and ?_ ?_)
            | (with_reducible exact st_ok)
            | (with_reducible refine st_br (fun hc => ?_) (fun hc => ?_) <;> (simp only [dn, reduceCtorEq, hw01, hm, ha0, ha1, ha2, hp, hp0, hp1, hk1, e0, f0, f1, f2, g0, g1, g2, hj1, hj2, hj3, oe, bx_rm, va_map] at hc) <;> (try (exfalso; first | contradiction | omega)))
            | (refine st_call (by rfl) (by simp only [dn, reduceCtorEq, hw01, hm, ha0, ha1, ha2, hp, hp0, hp1, hk1, e0, f0, f1, f2, g0, g1, g2, hj1, hj2, hj3, oe, bx_rm, va_map] <;> rfl) ?_ (by rfl <;> rfl) (by simp only [dn] <;> rfl) ?_
               focus (first | rfl)))
          | (refine st_fine0 (M := M') (n := n) (o0 := .take O') (o1 := o1) (o2 := o2) (T := T) (d := dd) (by rfl) (by simp only [dn, reduceCtorEq, hw01, hm, ha0, ha1, ha2, hp, hp0, hp1, hk1, e0, f0, f1, f2, g0, g1, g2, hj1, hj2, hj3, oe, bx_rm, va_map] <;> rfl) kd0 hfb ?_
             simp only [List.cons_append, List.nil_append])
          | (refine st_loop (by rfl) (by simp only [dn, reduceCtorEq, hw01, hm, ha0, ha1, ha2, hp, hp0, hp1, hk1, e0, f0, f1, f2, g0, g1, g2, hj1, hj2, hj3, oe, bx_rm, va_map] <;> rfl) (by simp only [dn] <;> rfl) ?_ (fun env' h => bN0 P hs env' h)
             exact ⟨M, n, T, .take O, o1, o2, 0, c1, c2, d, cp, M', .take O', ch', T', i, d1, cp1, d2, cp2, dd, cq, 0, rfl, h0, hi, rfl, by omega, by omega, hcq, F⟩)
          | fail "no step")
      · unfold tSteps0L1
        rw [if_neg (by intro e; cases e)] at hT'
        obtain rfl := hT'.symm
        simp only [stE0, crIns, List.cons_append, List.nil_append]
        repeat' (first
          | (first
            | (with_reducible refine st_need ?_ ?_
               focus (simp only [dn, reduceCtorEq, hw01, hm, ha0, ha1, ha2, hp, hp0, hp1, hk1, e0, f0, f1, f2, g0, g1, g2, hj1, hj2, hj3, oe, bx_rm, va_map] <;> first | omega | assumption))
            | (with_reducible refine st_and ?_ ?_)
            | (with_reducible exact st_ok)
            | (with_reducible refine st_br (fun hc => ?_) (fun hc => ?_) <;> (simp only [dn, reduceCtorEq, hw01, hm, ha0, ha1, ha2, hp, hp0, hp1, hk1, e0, f0, f1, f2, g0, g1, g2, hj1, hj2, hj3, oe, bx_rm, va_map] at hc) <;> (try (exfalso; first | contradiction | omega)))
            | (refine st_call (by rfl) (by simp only [dn, reduceCtorEq, hw01, hm, ha0, ha1, ha2, hp, hp0, hp1, hk1, e0, f0, f1, f2, g0, g1, g2, hj1, hj2, hj3, oe, bx_rm, va_map] <;> rfl) ?_ (by rfl <;> rfl) (by simp only [dn] <;> rfl) ?_
               focus (first | rfl)))
          | (refine st_fine0 (M := M') (n := n) (o0 := .give O') (o1 := o1) (o2 := o2) (T := T) (d := dd) (by rfl) (by simp only [dn, reduceCtorEq, hw01, hm, ha0, ha1, ha2, hp, hp0, hp1, hk1, e0, f0, f1, f2, g0, g1, g2, hj1, hj2, hj3, oe, bx_rm, va_map] <;> rfl) kd0 hfb ?_
             simp only [List.cons_append, List.nil_append])
          | (refine st_back (by rfl) (by simp only [dn, reduceCtorEq, hw01, hm, ha0, ha1, ha2, hp, hp0, hp1, hk1, e0, f0, f1, f2, g0, g1, g2, hj1, hj2, hj3, oe, bx_rm, va_map] <;> rfl) (by simp only [dn] <;> rfl) (by rfl) ?_ ?_
             focus exact ⟨M, n, T, .give O, o1, o2, 0, c1, c2, d, cp, M', .give O', ch', T, i, d1, cp1, d2, cp2, i + 1, dd, cq, by simp only [if_pos hi1, ite_self, hch']; rfl, by omega, by omega, by simp only [ite_self]; exact hcq, F⟩
             focus (show (n - (i + 1)).toNat < (n - i).toNat; omega))
          | fail "no step")
      · unfold tSteps0L1
        rw [if_neg (by intro e; cases e)] at hT'
        obtain rfl := hT'.symm
        simp only [stE0, crIns, List.cons_append, List.nil_append]
        repeat' (first
          | (first
            | (with_reducible refine st_need ?_ ?_
               focus (simp only [dn, reduceCtorEq, hw01, hm, ha0, ha1, ha2, hp, hp0, hp1, hk1, e0, f0, f1, f2, g0, g1, g2, hj1, hj2, hj3, oe, bx_rm, va_map] <;> first | omega | assumption))
            | (with_reducible refine st_and ?_ ?_)
            | (with_reducible exact st_ok)
            | (with_reducible refine st_br (fun hc => ?_) (fun hc => ?_) <;> (simp only [dn, reduceCtorEq, hw01, hm, ha0, ha1, ha2, hp, hp0, hp1, hk1, e0, f0, f1, f2, g0, g1, g2, hj1, hj2, hj3, oe, bx_rm, va_map] at hc) <;> (try (exfalso; first | contradiction | omega)))
            | (refine st_call (by rfl) (by simp only [dn, reduceCtorEq, hw01, hm, ha0, ha1, ha2, hp, hp0, hp1, hk1, e0, f0, f1, f2, g0, g1, g2, hj1, hj2, hj3, oe, bx_rm, va_map] <;> rfl) ?_ (by rfl <;> rfl) (by simp only [dn] <;> rfl) ?_
               focus (first | rfl)))
          | (refine st_fine0 (M := M') (n := n) (o0 := .turn O') (o1 := o1) (o2 := o2) (T := T) (d := dd) (by rfl) (by simp only [dn, reduceCtorEq, hw01, hm, ha0, ha1, ha2, hp, hp0, hp1, hk1, e0, f0, f1, f2, g0, g1, g2, hj1, hj2, hj3, oe, bx_rm, va_map] <;> rfl) kd0 hfb ?_
             simp only [List.cons_append, List.nil_append])
          | (refine st_back (by rfl) (by simp only [dn, reduceCtorEq, hw01, hm, ha0, ha1, ha2, hp, hp0, hp1, hk1, e0, f0, f1, f2, g0, g1, g2, hj1, hj2, hj3, oe, bx_rm, va_map] <;> rfl) (by simp only [dn] <;> rfl) (by rfl) ?_ ?_
             focus exact ⟨M, n, T, .turn O, o1, o2, 0, c1, c2, d, cp, M', .turn O', ch', T, i, d1, cp1, d2, cp2, i + 1, dd, cq, by simp only [if_pos hi1, ite_self, hch']; rfl, by omega, by omega, by simp only [ite_self]; exact hcq, F⟩
             focus (show (n - (i + 1)).toNat < (n - i).toNat; omega))
          | fail "no step")
    · have hsame := X.hs i h0 hi hx
      rw [hsame] at g0 g1 g2
      have hiff : (x < i + 1) = (x < i) := propext (by omega)
      unfold tSteps0L1
      simp only [stE0, crIns, List.cons_append, List.nil_append]
      repeat' (first
        | (first
          | (with_reducible refine st_need ?_ ?_
             focus (simp only [dn, reduceCtorEq, true_and, and_true, not_true_eq_false, and_self, or_self, hw01, hm, ha0, ha1, ha2, hp, hp0, hp1, hk1, e0, f0, f1, f2, g0, g1, g2, hj1, hj2, hj3, oe, bx_rm, va_map] <;> first | omega | assumption))
          | (with_reducible refine st_and ?_ ?_)
          | (with_reducible exact st_ok)
          | (with_reducible refine st_br (fun hc => ?_) (fun hc => ?_) <;> (simp only [dn, reduceCtorEq, true_and, and_true, not_true_eq_false, and_self, or_self, hw01, hm, ha0, ha1, ha2, hp, hp0, hp1, hk1, e0, f0, f1, f2, g0, g1, g2, hj1, hj2, hj3, oe, bx_rm, va_map] at hc) <;> (try (exfalso; first | contradiction | omega)))
          | (refine st_call (by rfl) (by simp only [dn, reduceCtorEq, true_and, and_true, not_true_eq_false, and_self, or_self, hw01, hm, ha0, ha1, ha2, hp, hp0, hp1, hk1, e0, f0, f1, f2, g0, g1, g2, hj1, hj2, hj3, oe, bx_rm, va_map] <;> rfl) ?_ (by rfl <;> rfl) (by simp only [dn] <;> rfl) ?_
             focus (first | rfl)))
        | (refine st_back (by rfl) (by simp only [dn, reduceCtorEq, hw01, hm, ha0, ha1, ha2, hp, hp0, hp1, hk1, e0, f0, f1, f2, g0, g1, g2, hj1, hj2, hj3, oe, bx_rm, va_map] <;> rfl) (by simp only [dn] <;> rfl) (by rfl) ?_ ?_
           focus exact ⟨M, n, T, o0, o1, o2, c0, c1, c2, d, cp, M', o', ch', T', x, d1, cp1, d2, cp2, i + 1, dd, cq, by simp only [hiff]; rfl, by omega, by omega, by simp only [hiff]; exact hcq, F⟩
           focus (show (n - (i + 1)).toNat < (n - i).toNat; omega))
        | fail "no step")
  · obtain rfl : i = n := by omega
    have hcx : (if x < i then ch' else c0) = ch' := by
      rcases X.hc with ⟨_, b, _⟩ | ⟨_, b, _⟩
      · rw [b, ite_self]
      · rw [if_pos b]
    have hTx : (if x < i then T' else T) = T' := by
      rcases X.hc with ⟨_, _, b⟩ | ⟨_, b, _⟩
      · rw [b, ite_self]
      · rw [if_pos b]
    rw [hTx] at hcq
    rw [hcx, hTx]
    have hrel := rel dd cq hcq
    have he := X.he
    have f0 : True := trivial
    have f1 : True := trivial
    have f2 : True := trivial
    have g0 : True := trivial
    have g1 : True := trivial
    have g2 : True := trivial
    by_cases h9 : lineO o' = 9
    · rw [aft9 h9] at hrel
      have ht : toldO o' = errO o' := if_pos h9
      have hd : decide (lineO o' = 9) = true := decide_eq_true h9
      rcases he with he | ⟨_, ⟨her, hcc⟩ | ⟨hcc, her⟩⟩
      · exact absurd h9 he
      all_goals
        rcases kind3 kd kd0 with ⟨O, O', rfl, rfl⟩ | ⟨O, O', rfl, rfl⟩ | ⟨O, O', rfl, rfl⟩
        all_goals
          try simp only [isTk, if_true, Bool.false_eq_true, if_false] at her
          unfold tSteps0L1
          simp only [stE0, crIns, List.cons_append, List.nil_append]
          repeat' (first
            | (first
              | (with_reducible refine st_need ?_ ?_
                 focus (simp only [dn, reduceCtorEq, ht, hd, her, hcc, true3, hw01, hm, ha0, ha1, ha2, hp, hp0, hp1, hk1, e0, f0, f1, f2, g0, g1, g2, hj1, hj2, hj3, oe, bx_rm, va_map] <;> first | omega | assumption))
              | (with_reducible refine st_and ?_ ?_)
              | (with_reducible exact st_ok)
              | (with_reducible refine st_br (fun hc => ?_) (fun hc => ?_) <;> (simp only [dn, reduceCtorEq, ht, hd, her, hcc, true3, hw01, hm, ha0, ha1, ha2, hp, hp0, hp1, hk1, e0, f0, f1, f2, g0, g1, g2, hj1, hj2, hj3, oe, bx_rm, va_map] at hc) <;> (try (exfalso; first | contradiction | omega)))
              | (refine st_call (by rfl) (by simp only [dn, reduceCtorEq, ht, hd, her, hcc, true3, hw01, hm, ha0, ha1, ha2, hp, hp0, hp1, hk1, e0, f0, f1, f2, g0, g1, g2, hj1, hj2, hj3, oe, bx_rm, va_map] <;> rfl) ?_ (by rfl <;> rfl) (by simp only [dn] <;> rfl) ?_
                 focus (first | rfl)))
            | (refine st_mk (by rfl) (by rfl) ?_ (by simp only [List.cons_append, List.nil_append] <;> rfl) ?_
               focus trivial)
            | (refine st_ret (by simp only [dn, reduceCtorEq, ht, hd, her, hw01, hm, ha0, ha1, ha2, hp, hp0, hp1, hk1, e0, f0, f1, f2, g0, g1, g2, hj1, hj2, hj3, oe, bx_rm, va_map] <;> rfl) ?_
               exact hrel)
            | fail "no step")
    · rw [aftn h9] at hrel
      have hd : decide (lineO o' = 9) = false := decide_eq_false h9
      rcases kind3 kd kd0 with ⟨O, O', rfl, rfl⟩ | ⟨O, O', rfl, rfl⟩ | ⟨O, O', rfl, rfl⟩
      all_goals
        unfold tSteps0L1
        simp only [stE0, crIns, List.cons_append, List.nil_append]
        repeat' (first
          | (first
            | (with_reducible refine st_need ?_ ?_
               focus (simp only [dn, reduceCtorEq, hd, true3, hw01, hm, ha0, ha1, ha2, hp, hp0, hp1, hk1, e0, f0, f1, f2, g0, g1, g2, hj1, hj2, hj3, oe, bx_rm, va_map] <;> first | omega | assumption))
            | (with_reducible refine st_and ?_ ?_)
            | (with_reducible exact st_ok)
            | (with_reducible refine st_br (fun hc => ?_) (fun hc => ?_) <;> (simp only [dn, reduceCtorEq, hd, true3, hw01, hm, ha0, ha1, ha2, hp, hp0, hp1, hk1, e0, f0, f1, f2, g0, g1, g2, hj1, hj2, hj3, oe, bx_rm, va_map] at hc) <;> (try (exfalso; first | contradiction | omega)))
            | (refine st_call (by rfl) (by simp only [dn, reduceCtorEq, hd, true3, hw01, hm, ha0, ha1, ha2, hp, hp0, hp1, hk1, e0, f0, f1, f2, g0, g1, g2, hj1, hj2, hj3, oe, bx_rm, va_map] <;> rfl) ?_ (by rfl <;> rfl) (by simp only [dn] <;> rfl) ?_
               focus (first | rfl)))
          | (refine st_ret (by simp only [dn, reduceCtorEq, hd, hw01, hm, ha0, ha1, ha2, hp, hp0, hp1, hk1, e0, f0, f1, f2, g0, g1, g2, hj1, hj2, hj3, oe, bx_rm, va_map] <;> rfl) ?_
             exact hrel)
          | fail "no step")
set_option maxRecDepth 10000 in
set_option maxHeartbeats 8000000 in
theorem vSteps0 (P : Program) (hs : List (Nat × Nat × List Nat)) : ∀ ins, ins.length = cSteps0.nin → cSteps0.pre ins → tSteps0.sat { cxEs P ctsEs0 [lSt0T, lSt0N] with hints := hs } (ctrR cSteps0) ins := by
  rintro ins _ ⟨M, n, T, o0, o1, o2, c0, c1, c2, d, cp, k1, C1, rfl, J1, hk, n1, n5, hk0, hk5, hcp⟩
  obtain ⟨k, C, J, hp0, hkk, hmin⟩ := minJ J1
  have hno : o0 ≠ .no := by rintro rfl; exact hk rfl
  obtain ⟨⟨C', ch', T', J', Out⟩, hrem⟩ := step_law n1 n5 J hno hp0 (by omega)
  have J' := J'
  obtain ⟨x, X⟩ := Out.x
  have hM := J.fine
  have hM' := J'.fine
  have hlen := J.len
  have tl := J.tl
  have F : StepF (stepsRel0 (crIns M n o0 o1 o2 c0 c1 c2 T d cp)) M n T 0 o0 c0 (o0.step M).2 (o0.step M).1 ch' T' x :=
    ⟨X, ⟨kind_step, hk⟩, n1, n5, hlen, J'.len, hM, hM', by omega, fun d' cp' he => rel0_of J hmin J' (by have := hrem; omega) he⟩
  unfold tSteps0
  simp only [crIns]
  repeat' (first
    | (first
      | (with_reducible refine st_need ?_ ?_
         focus (simp only [dn, reduceCtorEq, va_map, true3] <;> first | omega | assumption))
      | (with_reducible refine st_and ?_ ?_)
      | (with_reducible exact st_ok)
      | (with_reducible refine st_br (fun hc => ?_) (fun hc => ?_) <;> (simp only [dn, reduceCtorEq, va_map, true3] at hc) <;> (try (exfalso; first | contradiction | omega)))
      | (refine st_call (by rfl) (by simp only [dn, reduceCtorEq, va_map, true3] <;> rfl) ?_ (by rfl <;> rfl) (by simp only [dn] <;> rfl) ?_
         focus (first | rfl)))
    | (refine st_jall (by rfl) (by simp only [dn, reduceCtorEq, va_map] <;> rfl) (by first | exact hM | exact hM') n1 (by omega) (fun cc dd env' he => ?_)
       simp only [List.cons_append, List.nil_append] at he
       subst he)
    | (refine st_stp0 (M := M) (n := n) (o0 := o0) (o1 := o1) (o2 := o2) (T := T) (d := d) (by rfl) (by simp only [dn, reduceCtorEq, va_map] <;> rfl) hk hM J.ha.2 (by simp only [List.cons_append, List.nil_append] <;> rfl) ?_)
    | (refine st_loop (by rfl) (by simp only [dn, reduceCtorEq, va_map] <;> rfl) (by simp only [dn] <;> rfl) ?_ (fun env' h => bT0 P hs env' h)
       have hx0 : ¬ x < 0 := by
         rcases X.hc with ⟨b, _⟩ | ⟨b, _⟩ <;> omega
       exact ⟨M, n, T, o0, o1, o2, c0, c1, c2, d, cp, (o0.step M).2, (o0.step M).1, ch', T', x, _, _, _, _, 0, d, cp, by simp only [if_neg hx0]; rfl, by omega, by omega, by simp only [if_neg hx0]; exact hcp, F⟩)
    | fail "no step")
theorem hSteps0 : cSteps0.Holds objs Tryz.prog := runCtr_holdsm (X := { cxEs Tryz.prog ctsEs0 [lSt0T, lSt0N] with hints := hsSteps0 }) (fuel := 20) (opens := []) (folds := []) objsOk mixed (by
  intro ci c h
  match ci, h with
  | 0, h => cases h; exact hJAll
  | 1, h => cases h; exact hStp0
  | 2, h => cases h; exact hFine0
  | n + 3, h => cases h) (callable _ Tryz.func10 (by kernel_rfl) (by kernel_rfl)) (by rintro ins outs _ ⟨M, n, T, o0, o1, o2, c0, c1, c2, d, cp, k1, C1, rfl, J1, hk, n1, n5, hk0, hk5, hcp⟩ hr; obtain ⟨M', o', c', T', d', cp', C', rfl, _⟩ := hr _ _ _ _ _ _ _ _ _ _ _ _ _ rfl J1; rfl) (by rw [rSteps0]; exact vSteps0 _ _)
end Go.Proofs.YtdabdbbgaekmdaaGreat
