/- Passes apart: a round of the core 0. -/
import Derived.Test.YtjohihkbampbgaaGu2
namespace Go.Proofs.Ytjohihkbampbgaa
set_option linter.unusedVariables false
set_option linter.unusedSimpArgs false
set_option linter.unusedSectionVars false
open Go Go.RowKit

set_option maxRecDepth 10000 in
set_option maxHeartbeats 40000000 in
theorem bAp0A (P : Program) (hx : List (Nat × Nat × List Nat)) {g : Nat → Nat → Int} {k : Nat} {c : Int} {gl : Nat → Nat → Int} {kl : Nat} {cl : Int} {x7 x8 x9 : EV U} {M : MemSt} {b0 b1 i : Int} {t0 a0 n0 m0 q0 : Int} {t1 a1 n1 m1 q1 : Int} {t2 a2 n2 m2 q2 : Int} {o0 o1 o2 : Option PassSt} (h1 : 0 ≤ i) (h2 : i < kl + 12) (h3 : kl ≤ 300) (h4 : 1 ≤ k) (h5 : k ≤ 60) (hw : wordsA M.W b0 b1) (k0 : apOk M.W i kl 0 o0 t0 a0 n0 m0 q0) (k1 : apOk M.W i kl 1 o1 t1 a1 n1 m1 q1) (k2 : apOk M.W i kl 2 o2 t2 a2 n2 m2 q2) (hlt : i < kl) (hp : (gl i.toNat 0).emod 3 = 0) :
    tApartL0.sat { cxV P with hints := hx } (ctrR cApart) [.f g k, .i k, .i c, .f gl kl, .i kl, .i cl, .b true, x7, x8, x9, .u (.mem M), .u (opA o0), .i t0, .i a0, .i n0, .i m0, .i q0, .u (opA o1), .i t1, .i a1, .i n1, .i m1, .i q1, .u (opA o2), .i t2, .i a2, .i n2, .i m2, .i q2, .i i] := by
  have hwi : IntKind.i64.wrap (i + 1) = i + 1 := wrap_small (by omega) (by omega)
  have hwl : IntKind.i64.wrap ((kl : Int) + 12) = (kl : Int) + 12 := wrap_small (by omega) (by omega)
  obtain ⟨r0_1, r0_2, r0_3, r0_4, r0_5, r0_6, r0_7, r0_8, r0_9, r0_10⟩ := k0.1
  have hm0 : IntKind.i64.wrap (m0 + 1) = m0 + 1 := wrap_small (by omega) (by omega)
  have hq0 : IntKind.i64.wrap (q0 + 1) = q0 + 1 := wrap_small (by omega) (by omega)
  obtain ⟨r1_1, r1_2, r1_3, r1_4, r1_5, r1_6, r1_7, r1_8, r1_9, r1_10⟩ := k1.1
  have hm1 : IntKind.i64.wrap (m1 + 1) = m1 + 1 := wrap_small (by omega) (by omega)
  have hq1 : IntKind.i64.wrap (q1 + 1) = q1 + 1 := wrap_small (by omega) (by omega)
  obtain ⟨r2_1, r2_2, r2_3, r2_4, r2_5, r2_6, r2_7, r2_8, r2_9, r2_10⟩ := k2.1
  have hm2 : IntKind.i64.wrap (m2 + 1) = m2 + 1 := wrap_small (by omega) (by omega)
  have hq2 : IntKind.i64.wrap (q2 + 1) = q2 + 1 := wrap_small (by omega) (by omega)
  have ht : turnA i kl 0 := .inl hlt
  rcases o0 with _ | p
  · obtain ⟨T, hT⟩ : ∃ T, (g (Int.emod i k).toNat 0).emod 2 = T := ⟨_, rfl⟩
    obtain ⟨A, hA⟩ : ∃ A, (g (Int.emod i k).toNat 1).emod 50 = A := ⟨_, rfl⟩
    obtain ⟨N, hN⟩ : ∃ N, (g (Int.emod i k).toNat 2).emod 500 = N := ⟨_, rfl⟩
    have kk : apOk M.W i kl 0 (some (newP 1 3 T A N)) T A N 0 0 := ap_begin (hT ▸ Int.emod_nonneg _ (by decide)) (hT ▸ Int.emod_lt_of_pos _ (by decide)) (hA ▸ Int.emod_nonneg _ (by decide)) (hA ▸ Int.emod_lt_of_pos _ (by decide)) (hN ▸ Int.emod_nonneg _ (by decide)) (hN ▸ Int.emod_lt_of_pos _ (by decide)) h1 hlt (by decide)
    have g1 : 0 ≤ Int.emod i k := Int.emod_nonneg _ (by omega)
    have g2 : Int.emod i k < k := Int.emod_lt_of_pos _ (by omega)
    obtain ⟨c0, c1, hw', hst⟩ := ap_step kk hw ht
    have hok := ap_P kk
    have hl0 := last0 hw
    have hl1 := last1 hw
    have hl2 := last0 hw'
    have hl3 := last1 hw'
    have hso := soonA hw kk.1.1 kk.1.2.1 kk.1.2.2.1 kk.1.2.2.2.1 kk.1.2.2.2.2.1 kk.1.2.2.2.2.2.1
    obtain ⟨s1, s2, s3, s4, s5, s6, s7, s8, s9, s10⟩ := kk.1
    have hcl := hw
    obtain ⟨v1, v2, v3, v4, v5, v6, v7⟩ := hcl
    have w1 : IntKind.i64.wrap (1 - T) = 1 - T := wrap_small (by omega) (by omega)
    have w2 : IntKind.i64.wrap (2 * 0) = 2 * 0 := wrap_small (by omega) (by omega)
    have w3 : IntKind.i64.wrap (4 + 2 * 0) = 4 + 2 * 0 := wrap_small (by omega) (by omega)
    have d0 : IntKind.i64.wrap (N - b0) = N - b0 := wrap_small (by omega) (by omega)
    have d1 : IntKind.i64.wrap (N - b1) = N - b1 := wrap_small (by omega) (by omega)
    obtain ⟨P', M', hs⟩ : ∃ P' M', stepP (newP 1 3 T A N) M = (P', M') := ⟨_, _, rfl⟩
    rw [hs] at hw' hst hl2 hl3
    simp only at hw' hst hl2 hl3
    have hmq := ap_m kk
    rcases hst with ⟨rfl, hW, e0, e1, hsn⟩ | ⟨rfl, hW, e0, e1, hn⟩ | ⟨w, rfl, h0, hsn⟩ | ⟨w, rfl, hW, e0, e1, hn⟩
    have hsoon := hso.1 hsn
    have hl : ((PassSt.line ⟨9, 1 + T, A, N, cellA M.W T, 13⟩) == (9 : Int)) = true := rfl
    have he : errP ⟨9, 1 + T, A, N, cellA M.W T, 13⟩ = 13 := rfl
    have hok2 : PassSt.ok ⟨9, 1 + T, A, N, cellA M.W T, 13⟩ := .inr (.inr rfl)
    rcases hsoon with ⟨z, hz⟩ | ⟨z, hz⟩
    have hE := ends_soon he hz d0
    rotate_left
    have hE := ends_soon he hz d1
    rotate_left
    have hl : ((PassSt.line ⟨2, 1 + T, A, N, cellA M.W T, 0⟩) == (9 : Int)) = false := rfl
    have he : errP ⟨2, 1 + T, A, N, cellA M.W T, 0⟩ = 14 := rfl
    have hok2 : PassSt.ok ⟨2, 1 + T, A, N, cellA M.W T, 0⟩ := .inr (.inl ⟨rfl, rfl⟩)
    have hE : True := trivial
    rotate_left
    have hsoon := mt hso.2 (by rw [hsn]; exact Bool.false_ne_true)
    have hl : ((PassSt.line ⟨9, 1 + T, A, N, w, 0⟩) == (9 : Int)) = true := rfl
    have he : errP ⟨9, 1 + T, A, N, w, 0⟩ = 0 := rfl
    have hok2 : PassSt.ok ⟨9, 1 + T, A, N, w, 0⟩ := .inr (.inr rfl)
    rcases h0 with ⟨z, e0, e1⟩ | ⟨z, e0, e1⟩
    have hE := ends_held he (fun h => hsoon (.inl ⟨z, h⟩)) d0
    rotate_left
    have hE := ends_held he (fun h => hsoon (.inr ⟨z, h⟩)) d1
    rotate_left
    have hl : ((PassSt.line ⟨1, 1 + T, A, N, w, 0⟩) == (9 : Int)) = false := rfl
    have he : errP ⟨1, 1 + T, A, N, w, 0⟩ = 14 := rfl
    have hok2 : PassSt.ok ⟨1, 1 + T, A, N, w, 0⟩ := .inl ⟨rfl, rfl⟩
    have hE : True := trivial
    rotate_left
    all_goals
      unfold tApartL0
      simp only [opA_n, opA_s]
      repeat' (first
        | (first
          | (with_reducible refine st_need ?_ ?_
             focus (simp only [Bx.den, Ex.den, Bnd.den, gI, gB, gL, gF, gN, gNil, List.map_cons, List.map_nil, List.cons_append, List.nil_append, List.getElem?_cons_zero, List.getElem?_cons_succ, List.getD, Option.getD_some, cmp_eql_t, cmp_eql_f, cmp_neq_t, cmp_neq_f, cmp_lss_t, cmp_lss_f, cmp_leq_t, cmp_leq_f, cmp_gtr_t, cmp_gtr_f, cmp_geq_t, cmp_geq_f, Bool.not_eq_true', Bool.not_eq_false', Bool.and_eq_true, Bool.and_eq_false_iff, binDen, Option.some.injEq, EV.u.injEq, Nil.isNil, beq_self_eq_true, and_self, true_and, and_true, or_false, false_or, or_self, not_true_eq_false, not_false_eq_true, ne_eq, Bool.true_eq_false, Bool.false_eq_true, reduceCtorEq, hp, hwi, hwl, w1, w2, w3, opA_n, opA_s, Nil.isNil, hm0, hq0, hm1, hq1, hm2, hq2, d0, d1, e0, e1, hT, hA, hN, hE] <;> first | omega | assumption))
          | (with_reducible refine st_and ?_ ?_)
          | (with_reducible exact st_ok)
          | (with_reducible refine st_br (fun hc => ?_) (fun hc => ?_) <;> (simp only [Bx.den, Ex.den, Bnd.den, gI, gB, gL, gF, gN, gNil, List.map_cons, List.map_nil, List.cons_append, List.nil_append, List.getElem?_cons_zero, List.getElem?_cons_succ, List.getD, Option.getD_some, cmp_eql_t, cmp_eql_f, cmp_neq_t, cmp_neq_f, cmp_lss_t, cmp_lss_f, cmp_leq_t, cmp_leq_f, cmp_gtr_t, cmp_gtr_f, cmp_geq_t, cmp_geq_f, Bool.not_eq_true', Bool.not_eq_false', Bool.and_eq_true, Bool.and_eq_false_iff, binDen, Option.some.injEq, EV.u.injEq, Nil.isNil, beq_self_eq_true, and_self, true_and, and_true, or_false, false_or, or_self, not_true_eq_false, not_false_eq_true, ne_eq, Bool.true_eq_false, Bool.false_eq_true, reduceCtorEq, hp, hwi, hwl, w1, w2, w3, opA_n, opA_s, Nil.isNil, hm0, hq0, hm1, hq1, hm2, hq2, d0, d1, e0, e1, hT, hA, hN, hE] at hc) <;> (try (exfalso; first | contradiction | omega)))
          | (refine st_call (by rfl) (by simp only [Bx.den, Ex.den, Bnd.den, gI, gB, gL, gF, gN, gNil, List.map_cons, List.map_nil, List.cons_append, List.nil_append, List.getElem?_cons_zero, List.getElem?_cons_succ, List.getD, Option.getD_some, cmp_eql_t, cmp_eql_f, cmp_neq_t, cmp_neq_f, cmp_lss_t, cmp_lss_f, cmp_leq_t, cmp_leq_f, cmp_gtr_t, cmp_gtr_f, cmp_geq_t, cmp_geq_f, Bool.not_eq_true', Bool.not_eq_false', Bool.and_eq_true, Bool.and_eq_false_iff, binDen, Option.some.injEq, EV.u.injEq, Nil.isNil, beq_self_eq_true, and_self, true_and, and_true, or_false, false_or, or_self, not_true_eq_false, not_false_eq_true, ne_eq, Bool.true_eq_false, Bool.false_eq_true, reduceCtorEq, hp, hwi, hwl, w1, w2, w3, opA_n, opA_s, Nil.isNil, hm0, hq0, hm1, hq1, hm2, hq2, d0, d1, e0, e1, hT, hA, hN, hE] <;> rfl) ?_ (by simp only [out_pick, hp, out_newP, out_stepP, hs, hl, out_last1, hl0, hl1, hl2, hl3, out_errP, he, e0, e1, out_ends0, hT, hA, hN, hE] <;> rfl) (by simp only [List.cons_append, List.nil_append] <;> rfl) ?_
             focus (first | exact ⟨_, _, _, _, _, _, _, _, _, _, _, _, _, _, _, _, _, _, _, _, rfl, hok2⟩ | exact pre_pick (by omega) (by omega) | exact ⟨_, _, _, _, rfl⟩ | exact ⟨_, _, _, _, _, rfl⟩ | exact pre_stepP hok | exact pre_errP hok2))
          | (with_reducible refine st_ret (by simp only [Bx.den, Ex.den, Bnd.den, gI, gB, gL, gF, gN, gNil, List.map_cons, List.map_nil, List.cons_append, List.nil_append, List.getElem?_cons_zero, List.getElem?_cons_succ, List.getD, Option.getD_some, cmp_eql_t, cmp_eql_f, cmp_neq_t, cmp_neq_f, cmp_lss_t, cmp_lss_f, cmp_leq_t, cmp_leq_f, cmp_gtr_t, cmp_gtr_f, cmp_geq_t, cmp_geq_f, Bool.not_eq_true', Bool.not_eq_false', Bool.and_eq_true, Bool.and_eq_false_iff, binDen, Option.some.injEq, EV.u.injEq, Nil.isNil, beq_self_eq_true, and_self, true_and, and_true, or_false, false_or, or_self, not_true_eq_false, not_false_eq_true, ne_eq, Bool.true_eq_false, Bool.false_eq_true, reduceCtorEq, hp, hwi, hwl, w1, w2, w3, opA_n, opA_s, Nil.isNil, hm0, hq0, hm1, hq1, hm2, hq2, d0, d1, e0, e1, hT, hA, hN, hE] <;> rfl) ?_
             (first | rfl | exact ⟨_, rfl⟩)))
        | (refine st_mk (by rfl) (by rfl) ?_ (by simp only [List.cons_append, List.nil_append] <;> rfl) ?_
           focus trivial)
        | (refine st_back (by rfl) (by simp only [Bx.den, Ex.den, Bnd.den, gI, gB, gL, gF, gN, gNil, List.map_cons, List.map_nil, List.cons_append, List.nil_append, List.getElem?_cons_zero, List.getElem?_cons_succ, List.getD, Option.getD_some, cmp_eql_t, cmp_eql_f, cmp_neq_t, cmp_neq_f, cmp_lss_t, cmp_lss_f, cmp_leq_t, cmp_leq_f, cmp_gtr_t, cmp_gtr_f, cmp_geq_t, cmp_geq_f, Bool.not_eq_true', Bool.not_eq_false', Bool.and_eq_true, Bool.and_eq_false_iff, binDen, Option.some.injEq, EV.u.injEq, Nil.isNil, beq_self_eq_true, and_self, true_and, and_true, or_false, false_or, or_self, not_true_eq_false, not_false_eq_true, ne_eq, Bool.true_eq_false, Bool.false_eq_true, reduceCtorEq, hp, hwi, hwl, w1, w2, w3, opA_n, opA_s, Nil.isNil, hm0, hq0, hm1, hq1, hm2, hq2, d0, d1, e0, e1, hT, hA, hN, hE] <;> rfl) (by simp only [List.take_succ_cons, List.take_zero] <;> rfl) (by rfl) ?_ ?_
           focus (first | (exact ⟨_, _, _, _, _, _, _, _, _, _, _, _, none, _, _, _, _, _, _, _, _, _, _, _, _, _, _, _, _, _, _, rfl, by omega, by omega, h3, h4, h5, hw', ap_none kk (by omega) (by omega) (by omega) (by omega), ap_other k1 ht (by decide) (by decide) (.inl ⟨rfl, hW⟩), ap_other k2 ht (by decide) (by decide) (.inl ⟨rfl, hW⟩)⟩) | (exact ⟨_, _, _, _, _, _, _, _, _, _, _, _, some _, _, _, _, _, _, _, _, _, _, _, _, _, _, _, _, _, _, _, rfl, by omega, by omega, h3, h4, h5, hw', ap_W hW hn, ap_other k1 ht (by decide) (by decide) (.inl ⟨rfl, hW⟩), ap_other k2 ht (by decide) (by decide) (.inl ⟨rfl, hW⟩)⟩) | (exact ⟨_, _, _, _, _, _, _, _, _, _, _, _, none, _, _, _, _, _, _, _, _, _, _, _, _, _, _, _, _, _, _, rfl, by omega, by omega, h3, h4, h5, hw', ap_none kk (by omega) (by omega) (by omega) (by omega), ap_other k1 ht (by decide) (by decide) (.inr rfl), ap_other k2 ht (by decide) (by decide) (.inr rfl)⟩))
           focus (show ((kl : Int) + 12 - (i + 1)).toNat < ((kl : Int) + 12 - i).toNat; omega))
        | fail "no step")
    
  · have kk := k0
    obtain ⟨c0, c1, hw', hst⟩ := ap_step kk hw ht
    have hok := ap_P kk
    have hl0 := last0 hw
    have hl1 := last1 hw
    have hl2 := last0 hw'
    have hl3 := last1 hw'
    have hso := soonA hw kk.1.1 kk.1.2.1 kk.1.2.2.1 kk.1.2.2.2.1 kk.1.2.2.2.2.1 kk.1.2.2.2.2.2.1
    obtain ⟨s1, s2, s3, s4, s5, s6, s7, s8, s9, s10⟩ := kk.1
    have hcl := hw
    obtain ⟨v1, v2, v3, v4, v5, v6, v7⟩ := hcl
    have w1 : IntKind.i64.wrap (1 - t0) = 1 - t0 := wrap_small (by omega) (by omega)
    have w2 : IntKind.i64.wrap (2 * q0) = 2 * q0 := wrap_small (by omega) (by omega)
    have w3 : IntKind.i64.wrap (4 + 2 * q0) = 4 + 2 * q0 := wrap_small (by omega) (by omega)
    have d0 : IntKind.i64.wrap (n0 - b0) = n0 - b0 := wrap_small (by omega) (by omega)
    have d1 : IntKind.i64.wrap (n0 - b1) = n0 - b1 := wrap_small (by omega) (by omega)
    obtain ⟨P', M', hs⟩ : ∃ P' M', stepP p M = (P', M') := ⟨_, _, rfl⟩
    rw [hs] at hw' hst hl2 hl3
    simp only at hw' hst hl2 hl3
    have hmq := ap_m kk
    rcases hst with ⟨rfl, hW, e0, e1, hsn⟩ | ⟨rfl, hW, e0, e1, hn⟩ | ⟨w, rfl, h0, hsn⟩ | ⟨w, rfl, hW, e0, e1, hn⟩
    have hsoon := hso.1 hsn
    have hl : ((PassSt.line ⟨9, 1 + t0, a0, n0, cellA M.W t0, 13⟩) == (9 : Int)) = true := rfl
    have he : errP ⟨9, 1 + t0, a0, n0, cellA M.W t0, 13⟩ = 13 := rfl
    have hok2 : PassSt.ok ⟨9, 1 + t0, a0, n0, cellA M.W t0, 13⟩ := .inr (.inr rfl)
    rcases hsoon with ⟨z, hz⟩ | ⟨z, hz⟩
    have hE := ends_soon he hz d0
    rotate_left
    have hE := ends_soon he hz d1
    rotate_left
    have hl : ((PassSt.line ⟨2, 1 + t0, a0, n0, cellA M.W t0, 0⟩) == (9 : Int)) = false := rfl
    have he : errP ⟨2, 1 + t0, a0, n0, cellA M.W t0, 0⟩ = 14 := rfl
    have hok2 : PassSt.ok ⟨2, 1 + t0, a0, n0, cellA M.W t0, 0⟩ := .inr (.inl ⟨rfl, rfl⟩)
    have hE : True := trivial
    rotate_left
    have hsoon := mt hso.2 (by rw [hsn]; exact Bool.false_ne_true)
    have hl : ((PassSt.line ⟨9, 1 + t0, a0, n0, w, 0⟩) == (9 : Int)) = true := rfl
    have he : errP ⟨9, 1 + t0, a0, n0, w, 0⟩ = 0 := rfl
    have hok2 : PassSt.ok ⟨9, 1 + t0, a0, n0, w, 0⟩ := .inr (.inr rfl)
    rcases h0 with ⟨z, e0, e1⟩ | ⟨z, e0, e1⟩
    have hE := ends_held he (fun h => hsoon (.inl ⟨z, h⟩)) d0
    rotate_left
    have hE := ends_held he (fun h => hsoon (.inr ⟨z, h⟩)) d1
    rotate_left
    have hl : ((PassSt.line ⟨1, 1 + t0, a0, n0, w, 0⟩) == (9 : Int)) = false := rfl
    have he : errP ⟨1, 1 + t0, a0, n0, w, 0⟩ = 14 := rfl
    have hok2 : PassSt.ok ⟨1, 1 + t0, a0, n0, w, 0⟩ := .inl ⟨rfl, rfl⟩
    have hE : True := trivial
    rotate_left
    all_goals
      unfold tApartL0
      simp only [opA_n, opA_s]
      repeat' (first
        | (first
          | (with_reducible refine st_need ?_ ?_
             focus (simp only [Bx.den, Ex.den, Bnd.den, gI, gB, gL, gF, gN, gNil, List.map_cons, List.map_nil, List.cons_append, List.nil_append, List.getElem?_cons_zero, List.getElem?_cons_succ, List.getD, Option.getD_some, cmp_eql_t, cmp_eql_f, cmp_neq_t, cmp_neq_f, cmp_lss_t, cmp_lss_f, cmp_leq_t, cmp_leq_f, cmp_gtr_t, cmp_gtr_f, cmp_geq_t, cmp_geq_f, Bool.not_eq_true', Bool.not_eq_false', Bool.and_eq_true, Bool.and_eq_false_iff, binDen, Option.some.injEq, EV.u.injEq, Nil.isNil, beq_self_eq_true, and_self, true_and, and_true, or_false, false_or, or_self, not_true_eq_false, not_false_eq_true, ne_eq, Bool.true_eq_false, Bool.false_eq_true, reduceCtorEq, hp, hwi, hwl, w1, w2, w3, opA_n, opA_s, Nil.isNil, hm0, hq0, hm1, hq1, hm2, hq2, d0, d1, e0, e1, hE] <;> first | omega | assumption))
          | (with_reducible refine st_and ?_ ?_)
          | (with_reducible exact st_ok)
          | (with_reducible refine st_br (fun hc => ?_) (fun hc => ?_) <;> (simp only [Bx.den, Ex.den, Bnd.den, gI, gB, gL, gF, gN, gNil, List.map_cons, List.map_nil, List.cons_append, List.nil_append, List.getElem?_cons_zero, List.getElem?_cons_succ, List.getD, Option.getD_some, cmp_eql_t, cmp_eql_f, cmp_neq_t, cmp_neq_f, cmp_lss_t, cmp_lss_f, cmp_leq_t, cmp_leq_f, cmp_gtr_t, cmp_gtr_f, cmp_geq_t, cmp_geq_f, Bool.not_eq_true', Bool.not_eq_false', Bool.and_eq_true, Bool.and_eq_false_iff, binDen, Option.some.injEq, EV.u.injEq, Nil.isNil, beq_self_eq_true, and_self, true_and, and_true, or_false, false_or, or_self, not_true_eq_false, not_false_eq_true, ne_eq, Bool.true_eq_false, Bool.false_eq_true, reduceCtorEq, hp, hwi, hwl, w1, w2, w3, opA_n, opA_s, Nil.isNil, hm0, hq0, hm1, hq1, hm2, hq2, d0, d1, e0, e1, hE] at hc) <;> (try (exfalso; first | contradiction | omega)))
          | (refine st_call (by rfl) (by simp only [Bx.den, Ex.den, Bnd.den, gI, gB, gL, gF, gN, gNil, List.map_cons, List.map_nil, List.cons_append, List.nil_append, List.getElem?_cons_zero, List.getElem?_cons_succ, List.getD, Option.getD_some, cmp_eql_t, cmp_eql_f, cmp_neq_t, cmp_neq_f, cmp_lss_t, cmp_lss_f, cmp_leq_t, cmp_leq_f, cmp_gtr_t, cmp_gtr_f, cmp_geq_t, cmp_geq_f, Bool.not_eq_true', Bool.not_eq_false', Bool.and_eq_true, Bool.and_eq_false_iff, binDen, Option.some.injEq, EV.u.injEq, Nil.isNil, beq_self_eq_true, and_self, true_and, and_true, or_false, false_or, or_self, not_true_eq_false, not_false_eq_true, ne_eq, Bool.true_eq_false, Bool.false_eq_true, reduceCtorEq, hp, hwi, hwl, w1, w2, w3, opA_n, opA_s, Nil.isNil, hm0, hq0, hm1, hq1, hm2, hq2, d0, d1, e0, e1, hE] <;> rfl) ?_ (by simp only [out_pick, hp, out_newP, out_stepP, hs, hl, out_last1, hl0, hl1, hl2, hl3, out_errP, he, e0, e1, out_ends0, hE] <;> rfl) (by simp only [List.cons_append, List.nil_append] <;> rfl) ?_
             focus (first | exact ⟨_, _, _, _, _, _, _, _, _, _, _, _, _, _, _, _, _, _, _, _, rfl, hok2⟩ | exact pre_pick (by omega) (by omega) | exact ⟨_, _, _, _, rfl⟩ | exact ⟨_, _, _, _, _, rfl⟩ | exact pre_stepP hok | exact pre_errP hok2))
          | (with_reducible refine st_ret (by simp only [Bx.den, Ex.den, Bnd.den, gI, gB, gL, gF, gN, gNil, List.map_cons, List.map_nil, List.cons_append, List.nil_append, List.getElem?_cons_zero, List.getElem?_cons_succ, List.getD, Option.getD_some, cmp_eql_t, cmp_eql_f, cmp_neq_t, cmp_neq_f, cmp_lss_t, cmp_lss_f, cmp_leq_t, cmp_leq_f, cmp_gtr_t, cmp_gtr_f, cmp_geq_t, cmp_geq_f, Bool.not_eq_true', Bool.not_eq_false', Bool.and_eq_true, Bool.and_eq_false_iff, binDen, Option.some.injEq, EV.u.injEq, Nil.isNil, beq_self_eq_true, and_self, true_and, and_true, or_false, false_or, or_self, not_true_eq_false, not_false_eq_true, ne_eq, Bool.true_eq_false, Bool.false_eq_true, reduceCtorEq, hp, hwi, hwl, w1, w2, w3, opA_n, opA_s, Nil.isNil, hm0, hq0, hm1, hq1, hm2, hq2, d0, d1, e0, e1, hE] <;> rfl) ?_
             (first | rfl | exact ⟨_, rfl⟩)))
        | (refine st_mk (by rfl) (by rfl) ?_ (by simp only [List.cons_append, List.nil_append] <;> rfl) ?_
           focus trivial)
        | (refine st_back (by rfl) (by simp only [Bx.den, Ex.den, Bnd.den, gI, gB, gL, gF, gN, gNil, List.map_cons, List.map_nil, List.cons_append, List.nil_append, List.getElem?_cons_zero, List.getElem?_cons_succ, List.getD, Option.getD_some, cmp_eql_t, cmp_eql_f, cmp_neq_t, cmp_neq_f, cmp_lss_t, cmp_lss_f, cmp_leq_t, cmp_leq_f, cmp_gtr_t, cmp_gtr_f, cmp_geq_t, cmp_geq_f, Bool.not_eq_true', Bool.not_eq_false', Bool.and_eq_true, Bool.and_eq_false_iff, binDen, Option.some.injEq, EV.u.injEq, Nil.isNil, beq_self_eq_true, and_self, true_and, and_true, or_false, false_or, or_self, not_true_eq_false, not_false_eq_true, ne_eq, Bool.true_eq_false, Bool.false_eq_true, reduceCtorEq, hp, hwi, hwl, w1, w2, w3, opA_n, opA_s, Nil.isNil, hm0, hq0, hm1, hq1, hm2, hq2, d0, d1, e0, e1, hE] <;> rfl) (by simp only [List.take_succ_cons, List.take_zero] <;> rfl) (by rfl) ?_ ?_
           focus (first | (exact ⟨_, _, _, _, _, _, _, _, _, _, _, _, none, _, _, _, _, _, _, _, _, _, _, _, _, _, _, _, _, _, _, rfl, by omega, by omega, h3, h4, h5, hw', ap_none kk (by omega) (by omega) (by omega) (by omega), ap_other k1 ht (by decide) (by decide) (.inl ⟨rfl, hW⟩), ap_other k2 ht (by decide) (by decide) (.inl ⟨rfl, hW⟩)⟩) | (exact ⟨_, _, _, _, _, _, _, _, _, _, _, _, some _, _, _, _, _, _, _, _, _, _, _, _, _, _, _, _, _, _, _, rfl, by omega, by omega, h3, h4, h5, hw', ap_W hW hn, ap_other k1 ht (by decide) (by decide) (.inl ⟨rfl, hW⟩), ap_other k2 ht (by decide) (by decide) (.inl ⟨rfl, hW⟩)⟩) | (exact ⟨_, _, _, _, _, _, _, _, _, _, _, _, none, _, _, _, _, _, _, _, _, _, _, _, _, _, _, _, _, _, _, rfl, by omega, by omega, h3, h4, h5, hw', ap_none kk (by omega) (by omega) (by omega) (by omega), ap_other k1 ht (by decide) (by decide) (.inr rfl), ap_other k2 ht (by decide) (by decide) (.inr rfl)⟩))
           focus (show ((kl : Int) + 12 - (i + 1)).toNat < ((kl : Int) + 12 - i).toNat; omega))
        | fail "no step")
    
  
set_option maxRecDepth 10000 in
set_option maxHeartbeats 40000000 in
theorem bAp0B (P : Program) (hx : List (Nat × Nat × List Nat)) {g : Nat → Nat → Int} {k : Nat} {c : Int} {gl : Nat → Nat → Int} {kl : Nat} {cl : Int} {x7 x8 x9 : EV U} {M : MemSt} {b0 b1 i : Int} {t0 a0 n0 m0 q0 : Int} {t1 a1 n1 m1 q1 : Int} {t2 a2 n2 m2 q2 : Int} {o0 o1 o2 : Option PassSt} (h1 : 0 ≤ i) (h2 : i < kl + 12) (h3 : kl ≤ 300) (h4 : 1 ≤ k) (h5 : k ≤ 60) (hw : wordsA M.W b0 b1) (k0 : apOk M.W i kl 0 o0 t0 a0 n0 m0 q0) (k1 : apOk M.W i kl 1 o1 t1 a1 n1 m1 q1) (k2 : apOk M.W i kl 2 o2 t2 a2 n2 m2 q2) (hlt : kl ≤ i) (ht : turnA i kl 0) (hp : (IntKind.i64.wrap ((IntKind.i64.wrap (i - kl)).tdiv 4)).emod 3 = 0) :
    tApartL0.sat { cxV P with hints := hx } (ctrR cApart) [.f g k, .i k, .i c, .f gl kl, .i kl, .i cl, .b true, x7, x8, x9, .u (.mem M), .u (opA o0), .i t0, .i a0, .i n0, .i m0, .i q0, .u (opA o1), .i t1, .i a1, .i n1, .i m1, .i q1, .u (opA o2), .i t2, .i a2, .i n2, .i m2, .i q2, .i i] := by
  have hwi : IntKind.i64.wrap (i + 1) = i + 1 := wrap_small (by omega) (by omega)
  have hwl : IntKind.i64.wrap ((kl : Int) + 12) = (kl : Int) + 12 := wrap_small (by omega) (by omega)
  obtain ⟨r0_1, r0_2, r0_3, r0_4, r0_5, r0_6, r0_7, r0_8, r0_9, r0_10⟩ := k0.1
  have hm0 : IntKind.i64.wrap (m0 + 1) = m0 + 1 := wrap_small (by omega) (by omega)
  have hq0 : IntKind.i64.wrap (q0 + 1) = q0 + 1 := wrap_small (by omega) (by omega)
  obtain ⟨r1_1, r1_2, r1_3, r1_4, r1_5, r1_6, r1_7, r1_8, r1_9, r1_10⟩ := k1.1
  have hm1 : IntKind.i64.wrap (m1 + 1) = m1 + 1 := wrap_small (by omega) (by omega)
  have hq1 : IntKind.i64.wrap (q1 + 1) = q1 + 1 := wrap_small (by omega) (by omega)
  obtain ⟨r2_1, r2_2, r2_3, r2_4, r2_5, r2_6, r2_7, r2_8, r2_9, r2_10⟩ := k2.1
  have hm2 : IntKind.i64.wrap (m2 + 1) = m2 + 1 := wrap_small (by omega) (by omega)
  have hq2 : IntKind.i64.wrap (q2 + 1) = q2 + 1 := wrap_small (by omega) (by omega)
  rcases o0 with _ | p
  · unfold tApartL0
    simp only [opA_n, opA_s]
    repeat' (first
      | (first
        | (with_reducible refine st_need ?_ ?_
           focus (simp only [Bx.den, Ex.den, Bnd.den, gI, gB, gL, gF, gN, gNil, List.map_cons, List.map_nil, List.cons_append, List.nil_append, List.getElem?_cons_zero, List.getElem?_cons_succ, List.getD, Option.getD_some, cmp_eql_t, cmp_eql_f, cmp_neq_t, cmp_neq_f, cmp_lss_t, cmp_lss_f, cmp_leq_t, cmp_leq_f, cmp_gtr_t, cmp_gtr_f, cmp_geq_t, cmp_geq_f, Bool.not_eq_true', Bool.not_eq_false', Bool.and_eq_true, Bool.and_eq_false_iff, binDen, Option.some.injEq, EV.u.injEq, Nil.isNil, beq_self_eq_true, and_self, true_and, and_true, or_false, false_or, or_self, not_true_eq_false, not_false_eq_true, ne_eq, Bool.true_eq_false, Bool.false_eq_true, reduceCtorEq, hp, hwi, hwl, opA_n, opA_s, Nil.isNil, hm0, hq0, hm1, hq1, hm2, hq2] <;> first | omega | assumption))
        | (with_reducible refine st_and ?_ ?_)
        | (with_reducible exact st_ok)
        | (with_reducible refine st_br (fun hc => ?_) (fun hc => ?_) <;> (simp only [Bx.den, Ex.den, Bnd.den, gI, gB, gL, gF, gN, gNil, List.map_cons, List.map_nil, List.cons_append, List.nil_append, List.getElem?_cons_zero, List.getElem?_cons_succ, List.getD, Option.getD_some, cmp_eql_t, cmp_eql_f, cmp_neq_t, cmp_neq_f, cmp_lss_t, cmp_lss_f, cmp_leq_t, cmp_leq_f, cmp_gtr_t, cmp_gtr_f, cmp_geq_t, cmp_geq_f, Bool.not_eq_true', Bool.not_eq_false', Bool.and_eq_true, Bool.and_eq_false_iff, binDen, Option.some.injEq, EV.u.injEq, Nil.isNil, beq_self_eq_true, and_self, true_and, and_true, or_false, false_or, or_self, not_true_eq_false, not_false_eq_true, ne_eq, Bool.true_eq_false, Bool.false_eq_true, reduceCtorEq, hp, hwi, hwl, opA_n, opA_s, Nil.isNil, hm0, hq0, hm1, hq1, hm2, hq2] at hc) <;> (try (exfalso; first | contradiction | omega)))
        | (refine st_call (by rfl) (by simp only [Bx.den, Ex.den, Bnd.den, gI, gB, gL, gF, gN, gNil, List.map_cons, List.map_nil, List.cons_append, List.nil_append, List.getElem?_cons_zero, List.getElem?_cons_succ, List.getD, Option.getD_some, cmp_eql_t, cmp_eql_f, cmp_neq_t, cmp_neq_f, cmp_lss_t, cmp_lss_f, cmp_leq_t, cmp_leq_f, cmp_gtr_t, cmp_gtr_f, cmp_geq_t, cmp_geq_f, Bool.not_eq_true', Bool.not_eq_false', Bool.and_eq_true, Bool.and_eq_false_iff, binDen, Option.some.injEq, EV.u.injEq, Nil.isNil, beq_self_eq_true, and_self, true_and, and_true, or_false, false_or, or_self, not_true_eq_false, not_false_eq_true, ne_eq, Bool.true_eq_false, Bool.false_eq_true, reduceCtorEq, hp, hwi, hwl, opA_n, opA_s, Nil.isNil, hm0, hq0, hm1, hq1, hm2, hq2] <;> rfl) ?_ (by simp only [out_pick, hp] <;> rfl) (by simp only [List.cons_append, List.nil_append] <;> rfl) ?_
           focus (first | exact pre_pick (by omega) (by omega) | exact ⟨_, _, _, _, rfl⟩ | exact ⟨_, _, _, _, _, rfl⟩))
        | (with_reducible refine st_ret (by simp only [Bx.den, Ex.den, Bnd.den, gI, gB, gL, gF, gN, gNil, List.map_cons, List.map_nil, List.cons_append, List.nil_append, List.getElem?_cons_zero, List.getElem?_cons_succ, List.getD, Option.getD_some, cmp_eql_t, cmp_eql_f, cmp_neq_t, cmp_neq_f, cmp_lss_t, cmp_lss_f, cmp_leq_t, cmp_leq_f, cmp_gtr_t, cmp_gtr_f, cmp_geq_t, cmp_geq_f, Bool.not_eq_true', Bool.not_eq_false', Bool.and_eq_true, Bool.and_eq_false_iff, binDen, Option.some.injEq, EV.u.injEq, Nil.isNil, beq_self_eq_true, and_self, true_and, and_true, or_false, false_or, or_self, not_true_eq_false, not_false_eq_true, ne_eq, Bool.true_eq_false, Bool.false_eq_true, reduceCtorEq, hp, hwi, hwl, opA_n, opA_s, Nil.isNil, hm0, hq0, hm1, hq1, hm2, hq2] <;> rfl) ?_
           (first | rfl | exact ⟨_, rfl⟩)))
      | (refine st_mk (by rfl) (by rfl) ?_ (by simp only [List.cons_append, List.nil_append] <;> rfl) ?_
         focus trivial)
      | (refine st_back (by rfl) (by simp only [Bx.den, Ex.den, Bnd.den, gI, gB, gL, gF, gN, gNil, List.map_cons, List.map_nil, List.cons_append, List.nil_append, List.getElem?_cons_zero, List.getElem?_cons_succ, List.getD, Option.getD_some, cmp_eql_t, cmp_eql_f, cmp_neq_t, cmp_neq_f, cmp_lss_t, cmp_lss_f, cmp_leq_t, cmp_leq_f, cmp_gtr_t, cmp_gtr_f, cmp_geq_t, cmp_geq_f, Bool.not_eq_true', Bool.not_eq_false', Bool.and_eq_true, Bool.and_eq_false_iff, binDen, Option.some.injEq, EV.u.injEq, Nil.isNil, beq_self_eq_true, and_self, true_and, and_true, or_false, false_or, or_self, not_true_eq_false, not_false_eq_true, ne_eq, Bool.true_eq_false, Bool.false_eq_true, reduceCtorEq, hp, hwi, hwl, opA_n, opA_s, Nil.isNil, hm0, hq0, hm1, hq1, hm2, hq2] <;> rfl) (by simp only [List.take_succ_cons, List.take_zero] <;> rfl) (by rfl) ?_ ?_
         focus (exact ⟨_, _, _, _, _, _, _, _, _, _, _, _, none, _, _, _, _, _, _, _, _, _, _, _, _, _, _, _, _, _, _, rfl, by omega, by omega, h3, h4, h5, hw, ap_none k0 (by omega) (by omega) (by omega) (by omega), ap_other k1 ht (by decide) (by decide) (.inl ⟨rfl, rfl⟩), ap_other k2 ht (by decide) (by decide) (.inl ⟨rfl, rfl⟩)⟩)
         focus (show ((kl : Int) + 12 - (i + 1)).toNat < ((kl : Int) + 12 - i).toNat; omega))
      | fail "no step")
  · have kk := k0
    obtain ⟨c0, c1, hw', hst⟩ := ap_step kk hw ht
    have hok := ap_P kk
    have hl0 := last0 hw
    have hl1 := last1 hw
    have hl2 := last0 hw'
    have hl3 := last1 hw'
    have hso := soonA hw kk.1.1 kk.1.2.1 kk.1.2.2.1 kk.1.2.2.2.1 kk.1.2.2.2.2.1 kk.1.2.2.2.2.2.1
    obtain ⟨s1, s2, s3, s4, s5, s6, s7, s8, s9, s10⟩ := kk.1
    have hcl := hw
    obtain ⟨v1, v2, v3, v4, v5, v6, v7⟩ := hcl
    have w1 : IntKind.i64.wrap (1 - t0) = 1 - t0 := wrap_small (by omega) (by omega)
    have w2 : IntKind.i64.wrap (2 * q0) = 2 * q0 := wrap_small (by omega) (by omega)
    have w3 : IntKind.i64.wrap (4 + 2 * q0) = 4 + 2 * q0 := wrap_small (by omega) (by omega)
    have d0 : IntKind.i64.wrap (n0 - b0) = n0 - b0 := wrap_small (by omega) (by omega)
    have d1 : IntKind.i64.wrap (n0 - b1) = n0 - b1 := wrap_small (by omega) (by omega)
    obtain ⟨P', M', hs⟩ : ∃ P' M', stepP p M = (P', M') := ⟨_, _, rfl⟩
    rw [hs] at hw' hst hl2 hl3
    simp only at hw' hst hl2 hl3
    have hmq := ap_m kk
    rcases hst with ⟨rfl, hW, e0, e1, hsn⟩ | ⟨rfl, hW, e0, e1, hn⟩ | ⟨w, rfl, h0, hsn⟩ | ⟨w, rfl, hW, e0, e1, hn⟩
    have hsoon := hso.1 hsn
    have hl : ((PassSt.line ⟨9, 1 + t0, a0, n0, cellA M.W t0, 13⟩) == (9 : Int)) = true := rfl
    have he : errP ⟨9, 1 + t0, a0, n0, cellA M.W t0, 13⟩ = 13 := rfl
    have hok2 : PassSt.ok ⟨9, 1 + t0, a0, n0, cellA M.W t0, 13⟩ := .inr (.inr rfl)
    rcases hsoon with ⟨z, hz⟩ | ⟨z, hz⟩
    have hE := ends_soon he hz d0
    rotate_left
    have hE := ends_soon he hz d1
    rotate_left
    have hl : ((PassSt.line ⟨2, 1 + t0, a0, n0, cellA M.W t0, 0⟩) == (9 : Int)) = false := rfl
    have he : errP ⟨2, 1 + t0, a0, n0, cellA M.W t0, 0⟩ = 14 := rfl
    have hok2 : PassSt.ok ⟨2, 1 + t0, a0, n0, cellA M.W t0, 0⟩ := .inr (.inl ⟨rfl, rfl⟩)
    have hE : True := trivial
    rotate_left
    have hsoon := mt hso.2 (by rw [hsn]; exact Bool.false_ne_true)
    have hl : ((PassSt.line ⟨9, 1 + t0, a0, n0, w, 0⟩) == (9 : Int)) = true := rfl
    have he : errP ⟨9, 1 + t0, a0, n0, w, 0⟩ = 0 := rfl
    have hok2 : PassSt.ok ⟨9, 1 + t0, a0, n0, w, 0⟩ := .inr (.inr rfl)
    rcases h0 with ⟨z, e0, e1⟩ | ⟨z, e0, e1⟩
    have hE := ends_held he (fun h => hsoon (.inl ⟨z, h⟩)) d0
    rotate_left
    have hE := ends_held he (fun h => hsoon (.inr ⟨z, h⟩)) d1
    rotate_left
    have hl : ((PassSt.line ⟨1, 1 + t0, a0, n0, w, 0⟩) == (9 : Int)) = false := rfl
    have he : errP ⟨1, 1 + t0, a0, n0, w, 0⟩ = 14 := rfl
    have hok2 : PassSt.ok ⟨1, 1 + t0, a0, n0, w, 0⟩ := .inl ⟨rfl, rfl⟩
    have hE : True := trivial
    rotate_left
    all_goals
      unfold tApartL0
      simp only [opA_n, opA_s]
      repeat' (first
        | (first
          | (with_reducible refine st_need ?_ ?_
             focus (simp only [Bx.den, Ex.den, Bnd.den, gI, gB, gL, gF, gN, gNil, List.map_cons, List.map_nil, List.cons_append, List.nil_append, List.getElem?_cons_zero, List.getElem?_cons_succ, List.getD, Option.getD_some, cmp_eql_t, cmp_eql_f, cmp_neq_t, cmp_neq_f, cmp_lss_t, cmp_lss_f, cmp_leq_t, cmp_leq_f, cmp_gtr_t, cmp_gtr_f, cmp_geq_t, cmp_geq_f, Bool.not_eq_true', Bool.not_eq_false', Bool.and_eq_true, Bool.and_eq_false_iff, binDen, Option.some.injEq, EV.u.injEq, Nil.isNil, beq_self_eq_true, and_self, true_and, and_true, or_false, false_or, or_self, not_true_eq_false, not_false_eq_true, ne_eq, Bool.true_eq_false, Bool.false_eq_true, reduceCtorEq, hp, hwi, hwl, w1, w2, w3, opA_n, opA_s, Nil.isNil, hm0, hq0, hm1, hq1, hm2, hq2, d0, d1, e0, e1, hE] <;> first | omega | assumption))
          | (with_reducible refine st_and ?_ ?_)
          | (with_reducible exact st_ok)
          | (with_reducible refine st_br (fun hc => ?_) (fun hc => ?_) <;> (simp only [Bx.den, Ex.den, Bnd.den, gI, gB, gL, gF, gN, gNil, List.map_cons, List.map_nil, List.cons_append, List.nil_append, List.getElem?_cons_zero, List.getElem?_cons_succ, List.getD, Option.getD_some, cmp_eql_t, cmp_eql_f, cmp_neq_t, cmp_neq_f, cmp_lss_t, cmp_lss_f, cmp_leq_t, cmp_leq_f, cmp_gtr_t, cmp_gtr_f, cmp_geq_t, cmp_geq_f, Bool.not_eq_true', Bool.not_eq_false', Bool.and_eq_true, Bool.and_eq_false_iff, binDen, Option.some.injEq, EV.u.injEq, Nil.isNil, beq_self_eq_true, and_self, true_and, and_true, or_false, false_or, or_self, not_true_eq_false, not_false_eq_true, ne_eq, Bool.true_eq_false, Bool.false_eq_true, reduceCtorEq, hp, hwi, hwl, w1, w2, w3, opA_n, opA_s, Nil.isNil, hm0, hq0, hm1, hq1, hm2, hq2, d0, d1, e0, e1, hE] at hc) <;> (try (exfalso; first | contradiction | omega)))
          | (refine st_call (by rfl) (by simp only [Bx.den, Ex.den, Bnd.den, gI, gB, gL, gF, gN, gNil, List.map_cons, List.map_nil, List.cons_append, List.nil_append, List.getElem?_cons_zero, List.getElem?_cons_succ, List.getD, Option.getD_some, cmp_eql_t, cmp_eql_f, cmp_neq_t, cmp_neq_f, cmp_lss_t, cmp_lss_f, cmp_leq_t, cmp_leq_f, cmp_gtr_t, cmp_gtr_f, cmp_geq_t, cmp_geq_f, Bool.not_eq_true', Bool.not_eq_false', Bool.and_eq_true, Bool.and_eq_false_iff, binDen, Option.some.injEq, EV.u.injEq, Nil.isNil, beq_self_eq_true, and_self, true_and, and_true, or_false, false_or, or_self, not_true_eq_false, not_false_eq_true, ne_eq, Bool.true_eq_false, Bool.false_eq_true, reduceCtorEq, hp, hwi, hwl, w1, w2, w3, opA_n, opA_s, Nil.isNil, hm0, hq0, hm1, hq1, hm2, hq2, d0, d1, e0, e1, hE] <;> rfl) ?_ (by simp only [out_pick, hp, out_newP, out_stepP, hs, hl, out_last1, hl0, hl1, hl2, hl3, out_errP, he, e0, e1, out_ends0, hE] <;> rfl) (by simp only [List.cons_append, List.nil_append] <;> rfl) ?_
             focus (first | exact ⟨_, _, _, _, _, _, _, _, _, _, _, _, _, _, _, _, _, _, _, _, rfl, hok2⟩ | exact pre_pick (by omega) (by omega) | exact ⟨_, _, _, _, rfl⟩ | exact ⟨_, _, _, _, _, rfl⟩ | exact pre_stepP hok | exact pre_errP hok2))
          | (with_reducible refine st_ret (by simp only [Bx.den, Ex.den, Bnd.den, gI, gB, gL, gF, gN, gNil, List.map_cons, List.map_nil, List.cons_append, List.nil_append, List.getElem?_cons_zero, List.getElem?_cons_succ, List.getD, Option.getD_some, cmp_eql_t, cmp_eql_f, cmp_neq_t, cmp_neq_f, cmp_lss_t, cmp_lss_f, cmp_leq_t, cmp_leq_f, cmp_gtr_t, cmp_gtr_f, cmp_geq_t, cmp_geq_f, Bool.not_eq_true', Bool.not_eq_false', Bool.and_eq_true, Bool.and_eq_false_iff, binDen, Option.some.injEq, EV.u.injEq, Nil.isNil, beq_self_eq_true, and_self, true_and, and_true, or_false, false_or, or_self, not_true_eq_false, not_false_eq_true, ne_eq, Bool.true_eq_false, Bool.false_eq_true, reduceCtorEq, hp, hwi, hwl, w1, w2, w3, opA_n, opA_s, Nil.isNil, hm0, hq0, hm1, hq1, hm2, hq2, d0, d1, e0, e1, hE] <;> rfl) ?_
             (first | rfl | exact ⟨_, rfl⟩)))
        | (refine st_mk (by rfl) (by rfl) ?_ (by simp only [List.cons_append, List.nil_append] <;> rfl) ?_
           focus trivial)
        | (refine st_back (by rfl) (by simp only [Bx.den, Ex.den, Bnd.den, gI, gB, gL, gF, gN, gNil, List.map_cons, List.map_nil, List.cons_append, List.nil_append, List.getElem?_cons_zero, List.getElem?_cons_succ, List.getD, Option.getD_some, cmp_eql_t, cmp_eql_f, cmp_neq_t, cmp_neq_f, cmp_lss_t, cmp_lss_f, cmp_leq_t, cmp_leq_f, cmp_gtr_t, cmp_gtr_f, cmp_geq_t, cmp_geq_f, Bool.not_eq_true', Bool.not_eq_false', Bool.and_eq_true, Bool.and_eq_false_iff, binDen, Option.some.injEq, EV.u.injEq, Nil.isNil, beq_self_eq_true, and_self, true_and, and_true, or_false, false_or, or_self, not_true_eq_false, not_false_eq_true, ne_eq, Bool.true_eq_false, Bool.false_eq_true, reduceCtorEq, hp, hwi, hwl, w1, w2, w3, opA_n, opA_s, Nil.isNil, hm0, hq0, hm1, hq1, hm2, hq2, d0, d1, e0, e1, hE] <;> rfl) (by simp only [List.take_succ_cons, List.take_zero] <;> rfl) (by rfl) ?_ ?_
           focus (first | (exact ⟨_, _, _, _, _, _, _, _, _, _, _, _, none, _, _, _, _, _, _, _, _, _, _, _, _, _, _, _, _, _, _, rfl, by omega, by omega, h3, h4, h5, hw', ap_none kk (by omega) (by omega) (by omega) (by omega), ap_other k1 ht (by decide) (by decide) (.inl ⟨rfl, hW⟩), ap_other k2 ht (by decide) (by decide) (.inl ⟨rfl, hW⟩)⟩) | (exact ⟨_, _, _, _, _, _, _, _, _, _, _, _, some _, _, _, _, _, _, _, _, _, _, _, _, _, _, _, _, _, _, _, rfl, by omega, by omega, h3, h4, h5, hw', ap_W hW hn, ap_other k1 ht (by decide) (by decide) (.inl ⟨rfl, hW⟩), ap_other k2 ht (by decide) (by decide) (.inl ⟨rfl, hW⟩)⟩) | (exact ⟨_, _, _, _, _, _, _, _, _, _, _, _, none, _, _, _, _, _, _, _, _, _, _, _, _, _, _, _, _, _, _, rfl, by omega, by omega, h3, h4, h5, hw', ap_none kk (by omega) (by omega) (by omega) (by omega), ap_other k1 ht (by decide) (by decide) (.inr rfl), ap_other k2 ht (by decide) (by decide) (.inr rfl)⟩))
           focus (show ((kl : Int) + 12 - (i + 1)).toNat < ((kl : Int) + 12 - i).toNat; omega))
        | fail "no step")
    
  
end Go.Proofs.Ytjohihkbampbgaa
