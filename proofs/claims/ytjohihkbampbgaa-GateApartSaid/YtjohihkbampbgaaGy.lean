/- Passes apart: the law holds. -/
import Derived.Test.YtjohihkbampbgaaGz
import Derived.Test.YtjohihkbampbgaaGx0
import Derived.Test.YtjohihkbampbgaaGx1
import Derived.Test.YtjohihkbampbgaaGx2
import Derived.Test.YtjohihkbampbgaaSw
namespace Go.Proofs.Ytjohihkbampbgaa
set_option linter.unusedVariables false
set_option linter.unusedSimpArgs false
set_option linter.unusedSectionVars false
open Go Go.RowKit

theorem pick3 {x : Int} : x.emod 3 = 0 ∨ x.emod 3 = 1 ∨ x.emod 3 = 2 := by
  have := Int.emod_nonneg x (show (3 : Int) ≠ 0 by decide)
  have := Int.emod_lt_of_pos x (show (0 : Int) < 3 by decide)
  show x % 3 = 0 ∨ x % 3 = 1 ∨ x % 3 = 2
  omega
theorem turn3 {i kl : Int} (h0 : 0 ≤ i) (h : kl ≤ i) (h1 : i < kl + 12) (h2 : 0 ≤ kl) (h3 : kl ≤ 300) :
    (turnA i kl 0 ∧ (IntKind.i64.wrap ((IntKind.i64.wrap (i - kl)).tdiv 4)).emod 3 = 0) ∨ (turnA i kl 1 ∧ (IntKind.i64.wrap ((IntKind.i64.wrap (i - kl)).tdiv 4)).emod 3 = 1) ∨ (turnA i kl 2 ∧ (IntKind.i64.wrap ((IntKind.i64.wrap (i - kl)).tdiv 4)).emod 3 = 2) := by
  have e1 : IntKind.i64.wrap (i - kl) = i - kl := wrap_small (by omega) (by omega)
  have e2 : (i - kl).tdiv 4 = (i - kl) / 4 := Int.tdiv_eq_ediv_of_nonneg (by omega)
  have e3 : IntKind.i64.wrap ((i - kl) / 4) = (i - kl) / 4 := wrap_small (by omega) (by omega)
  rw [e1, e2, e3]
  have e4 : ∀ x : Int, x.emod 3 = x % 3 := fun _ => rfl
  rw [e4]
  unfold turnA
  omega
set_option maxRecDepth 10000 in
set_option maxHeartbeats 8000000 in
theorem bApart0 (P : Program) (hx : List (Nat × Nat × List Nat)) : ∀ env, apInv env → tApartL0.sat { cxV P with hints := hx } (ctrR cApart) env := by
  rintro env ⟨g, k, c, gl, kl, cl, x7, x8, x9, M, b0, b1, o0, t0, a0, n0, m0, q0, o1, t1, a1, n1, m1, q1, o2, t2, a2, n2, m2, q2, i, rfl, h1, h2, h3, h4, h5, hw, k0, k1, k2⟩
  by_cases hlt : i < kl
  · rcases pick3 (x := gl i.toNat 0) with hp | hp | hp
    · exact bAp0A P hx h1 (by omega) h3 h4 h5 hw k0 k1 k2 hlt hp
    · exact bAp1A P hx h1 (by omega) h3 h4 h5 hw k0 k1 k2 hlt hp
    · exact bAp2A P hx h1 (by omega) h3 h4 h5 hw k0 k1 k2 hlt hp
  · by_cases hend : i < kl + 12
    · rcases turn3 h1 (by omega) hend (by omega) (by omega) with ⟨ht, hp⟩ | ⟨ht, hp⟩ | ⟨ht, hp⟩
      · exact bAp0B P hx h1 hend h3 h4 h5 hw k0 k1 k2 (by omega) ht hp
      · exact bAp1B P hx h1 hend h3 h4 h5 hw k0 k1 k2 (by omega) ht hp
      · exact bAp2B P hx h1 hend h3 h4 h5 hw k0 k1 k2 (by omega) ht hp
    · obtain rfl := ap_end k0 (by omega) (by decide)
      obtain rfl := ap_end k1 (by omega) (by decide)
      obtain rfl := ap_end k2 (by omega) (by decide)
      have hwl : IntKind.i64.wrap ((kl : Int) + 12) = (kl : Int) + 12 := wrap_small (by omega) (by omega)
      unfold tApartL0
      simp only [opA_n]
      repeat' (first
        | (first
          | (with_reducible refine st_need ?_ ?_
             focus (simp only [Bx.den, Ex.den, Bnd.den, gI, gB, gL, gF, gN, gNil, List.map_cons, List.map_nil, List.cons_append, List.nil_append, List.getElem?_cons_zero, List.getElem?_cons_succ, List.getD, Option.getD_some, cmp_eql_t, cmp_eql_f, cmp_neq_t, cmp_neq_f, cmp_lss_t, cmp_lss_f, cmp_leq_t, cmp_leq_f, cmp_gtr_t, cmp_gtr_f, cmp_geq_t, cmp_geq_f, Bool.not_eq_true', Bool.not_eq_false', Bool.and_eq_true, Bool.and_eq_false_iff, binDen, Option.some.injEq, EV.u.injEq, Nil.isNil, beq_self_eq_true, and_self, true_and, and_true, or_false, false_or, or_self, not_true_eq_false, not_false_eq_true, ne_eq, Bool.true_eq_false, Bool.false_eq_true, reduceCtorEq, hwl, Nil.isNil] <;> first | omega | assumption))
          | (with_reducible refine st_and ?_ ?_)
          | (with_reducible exact st_ok)
          | (with_reducible refine st_br (fun hc => ?_) (fun hc => ?_) <;> (simp only [Bx.den, Ex.den, Bnd.den, gI, gB, gL, gF, gN, gNil, List.map_cons, List.map_nil, List.cons_append, List.nil_append, List.getElem?_cons_zero, List.getElem?_cons_succ, List.getD, Option.getD_some, cmp_eql_t, cmp_eql_f, cmp_neq_t, cmp_neq_f, cmp_lss_t, cmp_lss_f, cmp_leq_t, cmp_leq_f, cmp_gtr_t, cmp_gtr_f, cmp_geq_t, cmp_geq_f, Bool.not_eq_true', Bool.not_eq_false', Bool.and_eq_true, Bool.and_eq_false_iff, binDen, Option.some.injEq, EV.u.injEq, Nil.isNil, beq_self_eq_true, and_self, true_and, and_true, or_false, false_or, or_self, not_true_eq_false, not_false_eq_true, ne_eq, Bool.true_eq_false, Bool.false_eq_true, reduceCtorEq, hwl, Nil.isNil] at hc) <;> (try (exfalso; first | contradiction | omega)))
          | (refine st_call (by rfl) (by simp only [Bx.den, Ex.den, Bnd.den, gI, gB, gL, gF, gN, gNil, List.map_cons, List.map_nil, List.cons_append, List.nil_append, List.getElem?_cons_zero, List.getElem?_cons_succ, List.getD, Option.getD_some, cmp_eql_t, cmp_eql_f, cmp_neq_t, cmp_neq_f, cmp_lss_t, cmp_lss_f, cmp_leq_t, cmp_leq_f, cmp_gtr_t, cmp_gtr_f, cmp_geq_t, cmp_geq_f, Bool.not_eq_true', Bool.not_eq_false', Bool.and_eq_true, Bool.and_eq_false_iff, binDen, Option.some.injEq, EV.u.injEq, Nil.isNil, beq_self_eq_true, and_self, true_and, and_true, or_false, false_or, or_self, not_true_eq_false, not_false_eq_true, ne_eq, Bool.true_eq_false, Bool.false_eq_true, reduceCtorEq, hwl, Nil.isNil] <;> rfl) ?_ (by simp only [out_known] <;> rfl) (by simp only [List.cons_append, List.nil_append] <;> rfl) ?_
             focus (first | rfl))
          | (with_reducible refine st_ret (by simp only [Bx.den, Ex.den, Bnd.den, gI, gB, gL, gF, gN, gNil, List.map_cons, List.map_nil, List.cons_append, List.nil_append, List.getElem?_cons_zero, List.getElem?_cons_succ, List.getD, Option.getD_some, cmp_eql_t, cmp_eql_f, cmp_neq_t, cmp_neq_f, cmp_lss_t, cmp_lss_f, cmp_leq_t, cmp_leq_f, cmp_gtr_t, cmp_gtr_f, cmp_geq_t, cmp_geq_f, Bool.not_eq_true', Bool.not_eq_false', Bool.and_eq_true, Bool.and_eq_false_iff, binDen, Option.some.injEq, EV.u.injEq, Nil.isNil, beq_self_eq_true, and_self, true_and, and_true, or_false, false_or, or_self, not_true_eq_false, not_false_eq_true, ne_eq, Bool.true_eq_false, Bool.false_eq_true, reduceCtorEq, hwl, Nil.isNil] <;> rfl) ?_
             (first | rfl | exact ⟨_, rfl⟩)))
        | fail "no step")
set_option maxRecDepth 10000 in
set_option maxHeartbeats 8000000 in
theorem vApart (P : Program) (hx : List (Nat × Nat × List Nat)) : ∀ ins, ins.length = cApart.nin → cApart.pre ins → tApart.sat { cxV P with hints := hx } (ctrR cApart) ins := by
  rintro ins _ ⟨g, k, c, gl, kl, cl, rfl⟩
  have hf := fill_new
  generalize hM : fillM (MemSt.new 5) 1 (3 : Int).toNat = M at hf
  have hif : (if (1 : Int) ≤ 3 ∧ (3 : Int) ≤ 32 then fillM (MemSt.new 5) 1 (3 : Int).toNat else MemSt.new 5) = M := by rw [if_pos (by decide), hM]
  unfold tApart
  repeat' (first
    | (first
      | (with_reducible refine st_need ?_ ?_
         focus (simp only [Bx.den, Ex.den, Bnd.den, gI, gB, gL, gF, gN, gNil, List.map_cons, List.map_nil, List.cons_append, List.nil_append, List.getElem?_cons_zero, List.getElem?_cons_succ, List.getD, Option.getD_some, cmp_eql_t, cmp_eql_f, cmp_neq_t, cmp_neq_f, cmp_lss_t, cmp_lss_f, cmp_leq_t, cmp_leq_f, cmp_gtr_t, cmp_gtr_f, cmp_geq_t, cmp_geq_f, Bool.not_eq_true', Bool.not_eq_false', Bool.and_eq_true, Bool.and_eq_false_iff, binDen, Option.some.injEq, EV.u.injEq, Nil.isNil, beq_self_eq_true, and_self, true_and, and_true, or_false, false_or, or_self, not_true_eq_false, not_false_eq_true, ne_eq, Bool.true_eq_false, Bool.false_eq_true, reduceCtorEq, hif, Nil.isNil] <;> first | omega | assumption))
      | (with_reducible refine st_and ?_ ?_)
      | (with_reducible exact st_ok)
      | (with_reducible refine st_br (fun hc => ?_) (fun hc => ?_) <;> (simp only [Bx.den, Ex.den, Bnd.den, gI, gB, gL, gF, gN, gNil, List.map_cons, List.map_nil, List.cons_append, List.nil_append, List.getElem?_cons_zero, List.getElem?_cons_succ, List.getD, Option.getD_some, cmp_eql_t, cmp_eql_f, cmp_neq_t, cmp_neq_f, cmp_lss_t, cmp_lss_f, cmp_leq_t, cmp_leq_f, cmp_gtr_t, cmp_gtr_f, cmp_geq_t, cmp_geq_f, Bool.not_eq_true', Bool.not_eq_false', Bool.and_eq_true, Bool.and_eq_false_iff, binDen, Option.some.injEq, EV.u.injEq, Nil.isNil, beq_self_eq_true, and_self, true_and, and_true, or_false, false_or, or_self, not_true_eq_false, not_false_eq_true, ne_eq, Bool.true_eq_false, Bool.false_eq_true, reduceCtorEq, hif, Nil.isNil] at hc) <;> (try (exfalso; first | contradiction | omega)))
      | (refine st_call (by rfl) (by simp only [Bx.den, Ex.den, Bnd.den, gI, gB, gL, gF, gN, gNil, List.map_cons, List.map_nil, List.cons_append, List.nil_append, List.getElem?_cons_zero, List.getElem?_cons_succ, List.getD, Option.getD_some, cmp_eql_t, cmp_eql_f, cmp_neq_t, cmp_neq_f, cmp_lss_t, cmp_lss_f, cmp_leq_t, cmp_leq_f, cmp_gtr_t, cmp_gtr_f, cmp_geq_t, cmp_geq_f, Bool.not_eq_true', Bool.not_eq_false', Bool.and_eq_true, Bool.and_eq_false_iff, binDen, Option.some.injEq, EV.u.injEq, Nil.isNil, beq_self_eq_true, and_self, true_and, and_true, or_false, false_or, or_self, not_true_eq_false, not_false_eq_true, ne_eq, Bool.true_eq_false, Bool.false_eq_true, reduceCtorEq, hif, Nil.isNil] <;> rfl) ?_ (by simp only [out_known, out_new (show (1:Int) ≤ 5 by decide) (show (5:Int) ≤ 4096 by decide), out_fill, hif] <;> rfl) (by simp only [List.cons_append, List.nil_append] <;> rfl) ?_
         focus (first | rfl | exact ⟨_, rfl⟩ | exact ⟨_, _, _, rfl⟩))
      | (with_reducible refine st_ret (by simp only [Bx.den, Ex.den, Bnd.den, gI, gB, gL, gF, gN, gNil, List.map_cons, List.map_nil, List.cons_append, List.nil_append, List.getElem?_cons_zero, List.getElem?_cons_succ, List.getD, Option.getD_some, cmp_eql_t, cmp_eql_f, cmp_neq_t, cmp_neq_f, cmp_lss_t, cmp_lss_f, cmp_leq_t, cmp_leq_f, cmp_gtr_t, cmp_gtr_f, cmp_geq_t, cmp_geq_f, Bool.not_eq_true', Bool.not_eq_false', Bool.and_eq_true, Bool.and_eq_false_iff, binDen, Option.some.injEq, EV.u.injEq, Nil.isNil, beq_self_eq_true, and_self, true_and, and_true, or_false, false_or, or_self, not_true_eq_false, not_false_eq_true, ne_eq, Bool.true_eq_false, Bool.false_eq_true, reduceCtorEq, hif, Nil.isNil] <;> rfl) ?_
         (first | rfl | exact ⟨_, rfl⟩)))
    | (refine st_mk (by rfl) (by rfl) ?_ (by simp only [List.cons_append, List.nil_append] <;> rfl) ?_
       focus trivial)
    | (refine st_loop (by rfl) (by simp only [Bx.den, Ex.den, Bnd.den, gI, gB, gL, gF, gN, gNil, List.map_cons, List.map_nil, List.cons_append, List.nil_append, List.getElem?_cons_zero, List.getElem?_cons_succ, List.getD, Option.getD_some, cmp_eql_t, cmp_eql_f, cmp_neq_t, cmp_neq_f, cmp_lss_t, cmp_lss_f, cmp_leq_t, cmp_leq_f, cmp_gtr_t, cmp_gtr_f, cmp_geq_t, cmp_geq_f, Bool.not_eq_true', Bool.not_eq_false', Bool.and_eq_true, Bool.and_eq_false_iff, binDen, Option.some.injEq, EV.u.injEq, Nil.isNil, beq_self_eq_true, and_self, true_and, and_true, or_false, false_or, or_self, not_true_eq_false, not_false_eq_true, ne_eq, Bool.true_eq_false, Bool.false_eq_true, reduceCtorEq, hif] <;> rfl) (by simp only [List.take_succ_cons, List.take_zero] <;> rfl) ?_ (fun env' h => bApart0 P hx env' h)
       exact ⟨_, _, _, _, _, _, _, _, _, _, -1, -1, none, _, _, _, _, _, none, _, _, _, _, _, none, _, _, _, _, _, _, rfl, by omega, by omega, by omega, by omega, by omega, ⟨by rw [hf]; rfl, by rw [hf]; rfl, by rw [hf]; rfl, by omega, by omega, by omega, by omega⟩, ⟨by omega, fun P e => by cases e⟩, ⟨by omega, fun P e => by cases e⟩, ⟨by omega, fun P e => by cases e⟩⟩)
    | fail "no step")
theorem hApart : cApart.Holds objs Try.prog := runCtr_holds (X := { cxV Try.prog with hints := hsApart }) objsOk mixed hctsV (callable _ Try.func6 (by kernel_rfl) (by kernel_rfl)) (by rintro ins _ ⟨_, _, _, _, _, _, rfl⟩; rfl) (by rw [rApart]; exact vApart _ _)
theorem gateApart_walk {v1 v2 : Value} {n1 c1 n2 c2 : Nat} {g1 g2 : Nat → Nat → Int} (W : World) (h1 : SliceAt W wantKs v1 n1 c1 g1) (h2 : SliceAt W [some .i64] v2 n2 c2 g2) : Calls Try.prog 6 #[v1, v2] W fun e W' => e = .returned (.bool true) ∧ Below W.heap.size W W' :=
  hApart.law rfl (ins := [.f g1 n1, .i n1, .i c1, .f g2 n2, .i n2, .i c2]) (ρ := [ptrOf v1, ptrOf v2]) (vals := [v1, v2]) rfl ⟨_, _, _, _, _, _, rfl⟩ rfl
    (DenL.cons (h1.den rfl (by simp) rfl rfl) (DenL.cons (h2.den rfl (by simp) rfl rfl) DenL.nil))
    (Sat.inputs rfl (by intro m e hm; match m, hm with | 0, hm => cases hm; exact .inl ⟨_, _, rfl, h1.ro rfl⟩ | 1, hm => cases hm; exact .inl ⟨_, _, rfl, h2.ro rfl⟩ | m + 2, hm => cases hm))
end Go.Proofs.Ytjohihkbampbgaa
