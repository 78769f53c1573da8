/- Epochs: whoever is pinned holds the epoch back: it holds. -/
import Derived.Test.YtjohihkbampbgaaEla
import Derived.Test.YtjohihkbampbgaaElb
import Derived.Test.YtjohihkbampbgaaElc
namespace Go.Proofs.Ytjohihkbampbgaa
set_option linter.unusedVariables false
set_option linter.unusedSimpArgs false
set_option linter.unusedSectionVars false
open Go Go.RowKit

theorem hctsEP : ∀ (ci : Nat) (c : Ctr U), ctsEP[ci]? = some c → c.Holds objs Try.prog := ctsApp hctsEA (by
  intro ci c h
  match ci, h with
  | 0, h => cases h; exact hEKnown
  | 1, h => cases h; exact hEFill
  | 2, h => cases h; exact hENow
  | 3, h => cases h; exact hENewPin
  | 4, h => cases h; exact hEPinStep
  | 5, h => cases h; exact hEPinAt
  | 6, h => cases h; exact hENewUnp
  | 7, h => cases h; exact hEUnpStep
  | 8, h => cases h; exact hEUnpErr
  | 9, h => cases h; exact hENewAdv
  | 10, h => cases h; exact hEAdvStep
  | 11, h => cases h; exact hEAdvErr
  | 12, h => cases h; exact hWithin
  | 13, h => cases h; exact hBegun
  | n + 14, h => cases h)
theorem tmod3 {x : Int} : (x.emod 300).tmod 3 = 0 ∨ (x.emod 300).tmod 3 = 1 ∨ (x.emod 300).tmod 3 = 2 := by
  have h1 : 0 ≤ x.emod 300 := Int.emod_nonneg x (by decide)
  rw [Int.tmod_eq_emod_of_nonneg h1]
  omega
theorem begun_W : begunM.W = [0, 0, 0, 0] := rfl
theorem begun_inv : crewInv begunM (fun _ => -1) (fun _ => .none) 0 := by
  refine ⟨by rw [begun_W]; rfl, by unfold MemSt.ep; rw [begun_W]; decide, by unfold MemSt.ep; rw [begun_W]; decide, by decide, fun c hc => ⟨fun _ => ?_, fun h => absurd h (show ¬ (0:Int) ≤ -1 by decide)⟩⟩
  unfold MemSt.pn
  rw [begun_W]
  match c, hc with
  | 0, _ => rfl
  | 1, _ => rfl
  | 2, _ => rfl
theorem bEGuards (P : Program) (hs : List (Nat × Nat × List Nat)) : ∀ env, playInv env → tEGuardsL0.sat { cxEP P with hints := hs } (ctrR cEGuards) env := by
  rintro env ⟨g, k, cc, x3, x4, M, a, o, i, rfl, h1, h2, h3, I⟩
  rcases tmod3 (x := g i.toNat 0) with hp | hp | hp
  · exact bGa P hs h1 h2 h3 I hp
  · exact bGb P hs h1 h2 h3 I hp
  · exact bGc P hs h1 h2 h3 I hp
set_option maxRecDepth 10000 in
set_option maxHeartbeats 4000000 in
theorem vEGuards (P : Program) (hs : List (Nat × Nat × List Nat)) : ∀ ins, ins.length = cEGuards.nin → cEGuards.pre ins → tEGuards.sat { cxEP P with hints := hs } (ctrR cEGuards) ins := by
  rintro ins _ ⟨g, k, c, rfl⟩
  unfold tEGuards
  repeat' (first
    | (first
      | (with_reducible refine st_need ?_ ?_
         focus (simp only [Bx.den, Ex.den, Bnd.den, gI, gB, gL, gF, gN, gNil, List.map_cons, List.map_nil, List.cons_append, List.nil_append, List.getElem?_cons_zero, List.getElem?_cons_succ, List.getD, Option.getD_some, cmp_eql_t, cmp_eql_f, cmp_neq_t, cmp_neq_f, cmp_lss_t, cmp_lss_f, cmp_leq_t, cmp_leq_f, cmp_gtr_t, cmp_gtr_f, cmp_geq_t, cmp_geq_f, Bool.not_eq_true', Bool.not_eq_false', Bool.and_eq_true, Bool.and_eq_false_iff, binDen, Option.some.injEq, EV.u.injEq, Nil.isNil, beq_self_eq_true, and_self, true_and, and_true, or_false, false_or, or_self, not_true_eq_false, not_false_eq_true, ne_eq, Bool.true_eq_false, Bool.false_eq_true, reduceCtorEq, out_eknown] <;> first | omega | assumption))
      | (with_reducible refine st_and ?_ ?_)
      | (with_reducible exact st_ok)
      | (with_reducible refine st_br (fun hc => ?_) (fun hc => ?_) <;> (simp only [Bx.den, Ex.den, Bnd.den, gI, gB, gL, gF, gN, gNil, List.map_cons, List.map_nil, List.cons_append, List.nil_append, List.getElem?_cons_zero, List.getElem?_cons_succ, List.getD, Option.getD_some, cmp_eql_t, cmp_eql_f, cmp_neq_t, cmp_neq_f, cmp_lss_t, cmp_lss_f, cmp_leq_t, cmp_leq_f, cmp_gtr_t, cmp_gtr_f, cmp_geq_t, cmp_geq_f, Bool.not_eq_true', Bool.not_eq_false', Bool.and_eq_true, Bool.and_eq_false_iff, binDen, Option.some.injEq, EV.u.injEq, Nil.isNil, beq_self_eq_true, and_self, true_and, and_true, or_false, false_or, or_self, not_true_eq_false, not_false_eq_true, ne_eq, Bool.true_eq_false, Bool.false_eq_true, reduceCtorEq, out_eknown] at hc) <;> (try (exfalso; first | contradiction | omega)))
      | (refine st_call (by rfl) (by simp only [Bx.den, Ex.den, Bnd.den, gI, gB, gL, gF, gN, gNil, List.map_cons, List.map_nil, List.cons_append, List.nil_append, List.getElem?_cons_zero, List.getElem?_cons_succ, List.getD, Option.getD_some, cmp_eql_t, cmp_eql_f, cmp_neq_t, cmp_neq_f, cmp_lss_t, cmp_lss_f, cmp_leq_t, cmp_leq_f, cmp_gtr_t, cmp_gtr_f, cmp_geq_t, cmp_geq_f, Bool.not_eq_true', Bool.not_eq_false', Bool.and_eq_true, Bool.and_eq_false_iff, binDen, Option.some.injEq, EV.u.injEq, Nil.isNil, beq_self_eq_true, and_self, true_and, and_true, or_false, false_or, or_self, not_true_eq_false, not_false_eq_true, ne_eq, Bool.true_eq_false, Bool.false_eq_true, reduceCtorEq, out_eknown] <;> rfl) ?_ (by simp only [out_eknown, out_ebegun] <;> rfl) (by simp only [List.cons_append, List.nil_append] <;> rfl) ?_
         focus (first | rfl))
      | (with_reducible refine st_ret (by simp only [Bx.den, Ex.den, Bnd.den, gI, gB, gL, gF, gN, gNil, List.map_cons, List.map_nil, List.cons_append, List.nil_append, List.getElem?_cons_zero, List.getElem?_cons_succ, List.getD, Option.getD_some, cmp_eql_t, cmp_eql_f, cmp_neq_t, cmp_neq_f, cmp_lss_t, cmp_lss_f, cmp_leq_t, cmp_leq_f, cmp_gtr_t, cmp_gtr_f, cmp_geq_t, cmp_geq_f, Bool.not_eq_true', Bool.not_eq_false', Bool.and_eq_true, Bool.and_eq_false_iff, binDen, Option.some.injEq, EV.u.injEq, Nil.isNil, beq_self_eq_true, and_self, true_and, and_true, or_false, false_or, or_self, not_true_eq_false, not_false_eq_true, ne_eq, Bool.true_eq_false, Bool.false_eq_true, reduceCtorEq, out_eknown] <;> rfl) ?_
         (first | rfl | exact ⟨_, rfl⟩)))
    | with_reducible refine mk_epinNil rfl (by simp only [List.cons_append, List.nil_append] <;> rfl) ?_
    | with_reducible refine mk_eunpNil rfl (by simp only [List.cons_append, List.nil_append] <;> rfl) ?_
    | with_reducible refine mk_eadvNil rfl (by simp only [List.cons_append, List.nil_append] <;> rfl) ?_
    | (refine st_loop (by rfl) (by simp only [Bx.den, Ex.den, Bnd.den, gI, gB, gL, gF, gN, gNil, List.map_cons, List.map_nil, List.cons_append, List.nil_append, List.getElem?_cons_zero, List.getElem?_cons_succ, List.getD, Option.getD_some, cmp_eql_t, cmp_eql_f, cmp_neq_t, cmp_neq_f, cmp_lss_t, cmp_lss_f, cmp_leq_t, cmp_leq_f, cmp_gtr_t, cmp_gtr_f, cmp_geq_t, cmp_geq_f, Bool.not_eq_true', Bool.not_eq_false', Bool.and_eq_true, Bool.and_eq_false_iff, binDen, Option.some.injEq, EV.u.injEq, Nil.isNil, beq_self_eq_true, and_self, true_and, and_true, or_false, false_or, or_self, not_true_eq_false, not_false_eq_true, ne_eq, Bool.true_eq_false, Bool.false_eq_true, reduceCtorEq, out_eknown] <;> rfl) (by simp only [List.take_succ_cons, List.take_zero] <;> rfl) ?_ (fun env' h => bEGuards P hs env' h)
       exact ⟨_, _, _, _, _, begunM, fun _ => -1, fun _ => .none, 0, rfl, by omega, by omega, by omega, begun_inv⟩)
    | fail "no step")
theorem hEGuards : cEGuards.Holds objs Try.prog := runCtr_holds (X := { cxEP Try.prog with hints := hsEGuards }) objsOk mixed hctsEP (callable _ Try.func10 (by kernel_rfl) (by kernel_rfl)) (by rintro ins _ ⟨_, _, _, rfl⟩; rfl) (by rw [rEGuards]; exact vEGuards _ _)
theorem epochGuards_walk {v : Value} {n c : Nat} {g : Nat → Nat → Int} (W : World) (h1 : SliceAt W [some .i64] v n c g) : Calls Try.prog 10 #[v] W fun e W' => e = .returned (.bool true) ∧ Below W.heap.size W W' :=
  hEGuards.law rfl (ins := [.f g n, .i n, .i c]) (ρ := [ptrOf v]) (vals := [v]) rfl ⟨_, _, _, rfl⟩ rfl
    (DenL.cons (h1.den rfl (by simp) rfl rfl) DenL.nil)
    (Sat.inputs rfl (by intro m e hm; match m, hm with | 0, hm => cases hm; exact .inl ⟨_, _, rfl, h1.ro rfl⟩ | m + 1, hm => cases hm))
end Go.Proofs.Ytjohihkbampbgaa
