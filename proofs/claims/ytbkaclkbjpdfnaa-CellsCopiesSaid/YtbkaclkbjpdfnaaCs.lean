/- A copy is apart: the law holds. -/
import Derived.Test.YtbkaclkbjpdfnaaCqT
namespace Go.Proofs.Ytbkaclkbjpdfnaa
set_option linter.unusedVariables false
set_option linter.unusedSimpArgs false
set_option linter.unusedSectionVars false
open Go Go.RowKit

theorem pre_does (M : MemSt) (k a o n : Int) : cDoes.pre [.u (.mem M), .i k, .i a, .i o, .i n] = True := eq_true ⟨_, _, _, _, _, rfl⟩
theorem out_does (M : MemSt) (k a o n : Int) : cDoes.out [.u (.mem M), .i k, .i a, .i o, .i n] = [.u (.mem (doesM M k a o n)), .i (doesT M k a o n)] := rfl
theorem pre_alike {M : MemSt} (h : M.W.length ≤ 4096) : cAlike.pre [.u (.mem M), .u (.mem M)] := ⟨M, rfl, h⟩
theorem out_alike (M A : MemSt) : cAlike.out [.u (.mem M), .u (.mem A)] = [.u (.mem M), .u (.mem A), .b true] := rfl
theorem pre_copy (M : MemSt) : cCopy.pre [.u (.mem M)] = True := eq_true ⟨_, rfl⟩
theorem pre_known : cKnown.pre [] = True := eq_true rfl
theorem out_known : cKnown.out [] = [.b true] := rfl
theorem pre_pick {x n : Int} (h : 0 < n) (h1 : n < 2 ^ 62) : cPick.pre [.i x, .i n] := ⟨_, _, rfl, h, h1⟩
theorem out_pick (x n : Int) : cPick.out [.i x, .i n] = [.i (x.emod n)] := rfl
theorem out_new {n : Int} (h : 1 ≤ n) (h1 : n ≤ 4096) : cNew.out [.i n] = [.u (.mem (.new n)), .i 0] := by simp [cNew, h, h1]
theorem len_does (M : MemSt) (k a o n : Int) : (doesM M k a o n).W.length = M.W.length := by
  unfold doesM
  repeat' split
  · exact len_load _ _
  · exact len_store _ _ _
  · exact len_cas _ _ _ _
  · exact len_add _ _ _
  · rfl
theorem len_new {n : Int} (h : 1 ≤ n) : ((MemSt.new n).W.length : Int) = n := by simp [MemSt.new]; omega

set_option maxHeartbeats 4000000 in
theorem bCopies0 (P : Program) (hs : List (Nat × Nat × List Nat)) : ∀ env, copies2Inv env → tCopiesL0.sat { cxO P with hints := hs } (ctrR cCopies) env := by
  rintro env ⟨n, g1, k1, c1, g2, k2, c2, g3, k3, c3, x11, x12, x13, x14, x15, x16, x17, x18, x19, x20, x21, x22, x23, x24, x25, x26, M, C, i, rfl, h1, h2, h3, h4, h5⟩
  simp only [Tree.sat, Bx.den, Ex.den, Bnd.den, gI, gB, gL, gF, gN, gNil, List.map_cons, List.map_nil, List.cons_append, List.nil_append, List.getElem?_cons_zero, List.getElem?_cons_succ, List.getD, Option.getD_some, cmp_eql_t, cmp_eql_f, cmp_neq_t, cmp_neq_f, cmp_lss_t, cmp_lss_f, cmp_leq_t, cmp_leq_f, cmp_gtr_t, cmp_gtr_f, cmp_geq_t, cmp_geq_f, Bool.not_eq_true', Bool.not_eq_false', Bool.and_eq_true, Bool.and_eq_false_iff, binDen, ctrR, List.take_succ_cons, List.take_zero, Option.some.injEq, EV.u.injEq, tCopiesL0, cxO, cx, ctsO, ctsC, cCopies, pre_does, out_does, pre_copy, out_copy, out_alike, true_and, List.append_assoc, ne_eq, not_true_eq_false, false_implies, false_or, or_self, and_true, decide_true, beq_self_eq_true, Bool.not_true, reduceCtorEq, true_implies, implies_true, not_false_eq_true]
  repeat' (first | with_reducible apply And.intro | intro _)
  all_goals first
    | omega
    | exact pre_alike (by omega)
    | (rw [wrap_small (by omega) (by omega)]; refine ⟨_, _, _, _, _, _, _, _, _, _, _, _, _, _, _, _, _, _, _, _, _, _, _, _, _, _, _, _, _, rfl, ?_, ?_, ?_, ?_, ?_⟩ <;> (try simp only [len_does]) <;> omega)
    | (rw [wrap_small (by omega) (by omega)]; show ((k2 : Int) - (i + 1)).toNat < ((k2 : Int) - i).toNat; omega)
set_option maxHeartbeats 4000000 in
theorem bCopies1 (P : Program) (hs : List (Nat × Nat × List Nat)) : ∀ env, copies1Inv env → tCopiesL1.sat { cxO P with hints := hs } (ctrR cCopies) env := by
  rintro env ⟨n, g1, k1, c1, g2, k2, c2, g3, k3, c3, x11, x12, x13, x14, x15, M, i, rfl, h1, h2, h3, h4, h5, h6⟩
  simp only [Tree.sat, Bx.den, Ex.den, Bnd.den, gI, gB, gL, gF, gN, gNil, List.map_cons, List.map_nil, List.cons_append, List.nil_append, List.getElem?_cons_zero, List.getElem?_cons_succ, List.getD, Option.getD_some, cmp_eql_t, cmp_eql_f, cmp_neq_t, cmp_neq_f, cmp_lss_t, cmp_lss_f, cmp_leq_t, cmp_leq_f, cmp_gtr_t, cmp_gtr_f, cmp_geq_t, cmp_geq_f, Bool.not_eq_true', Bool.not_eq_false', Bool.and_eq_true, Bool.and_eq_false_iff, binDen, ctrR, List.take_succ_cons, List.take_zero, Option.some.injEq, EV.u.injEq, tCopiesL1, cxO, cx, ctsO, ctsC, cCopies, pre_does, out_does, pre_copy, out_copy, out_alike, true_and, List.append_assoc, ne_eq, not_true_eq_false, false_implies, false_or, or_self, and_true, decide_true, beq_self_eq_true, Bool.not_true, reduceCtorEq, true_implies, implies_true, not_false_eq_true]
  repeat' (first | with_reducible apply And.intro | intro _)
  all_goals first
    | omega
    | exact pre_alike (by omega)
    | exact bCopies0 P hs _ (by assumption)
    | exact ⟨_, _, _, _, _, _, _, _, _, _, _, _, _, _, _, _, _, _, _, _, _, _, _, _, _, _, _, _, _, rfl, by omega, by omega, h4, h5, h6⟩
    | (rw [wrap_small (by omega) (by omega)]; refine ⟨_, _, _, _, _, _, _, _, _, _, _, _, _, _, _, _, _, rfl, ?_, ?_, ?_, ?_, ?_, ?_⟩ <;> (try simp only [len_does]) <;> omega)
    | (rw [wrap_small (by omega) (by omega)]; show ((k1 : Int) - (i + 1)).toNat < ((k1 : Int) - i).toNat; omega)
set_option maxHeartbeats 4000000 in
theorem vCopies (P : Program) (hs : List (Nat × Nat × List Nat)) : ∀ ins, ins.length = cCopies.nin → cCopies.pre ins → tCopies.sat { cxO P with hints := hs } (ctrR cCopies) ins := by
  rintro ins _ ⟨n, g1, k1, c1, g2, k2, c2, g3, k3, c3, rfl⟩
  have hp1 : 0 ≤ n.emod 100 := Int.emod_nonneg _ (by decide)
  have hp2 : n.emod 100 < 100 := Int.emod_lt_of_pos _ (by decide)
  have hw : IntKind.i64.wrap (1 + n.emod 100) = 1 + n.emod 100 := wrap_small (by omega) (by omega)
  have hl := len_new (n := 1 + n.emod 100) (by omega)
  simp only [Tree.sat, Bx.den, Ex.den, Bnd.den, gI, gB, gL, gF, gN, gNil, List.map_cons, List.map_nil, List.cons_append, List.nil_append, List.getElem?_cons_zero, List.getElem?_cons_succ, List.getD, Option.getD_some, cmp_eql_t, cmp_eql_f, cmp_neq_t, cmp_neq_f, cmp_lss_t, cmp_lss_f, cmp_leq_t, cmp_leq_f, cmp_gtr_t, cmp_gtr_f, cmp_geq_t, cmp_geq_f, Bool.not_eq_true', Bool.not_eq_false', Bool.and_eq_true, Bool.and_eq_false_iff, binDen, ctrR, List.take_succ_cons, List.take_zero, Option.some.injEq, EV.u.injEq, tCopies, cxO, cx, ctsO, ctsC, cCopies, pre_known, out_known, out_pick, hw, pre_new, out_new (show 1 ≤ 1 + n.emod 100 by omega) (show 1 + n.emod 100 ≤ 4096 by omega), Nil.isNil, true_and, List.append_assoc, ne_eq, not_true_eq_false, false_implies, false_or, or_self, and_true, decide_true, beq_self_eq_true, Bool.not_true, reduceCtorEq, true_implies, implies_true, not_false_eq_true]
  repeat' (first | with_reducible apply And.intro | intro _)
  all_goals first
    | omega
    | exact pre_pick (by decide) (by decide)
    | exact bCopies1 P hs _ (by assumption)
    | exact ⟨_, _, _, _, _, _, _, _, _, _, _, _, _, _, _, _, _, rfl, by omega, by omega, by omega, by omega, by omega, by omega⟩
theorem hctsO : ∀ (ci : Nat) (c : Ctr U), ctsO[ci]? = some c → c.Holds objs Try.prog := by
  intro ci c h
  by_cases hlt : ci < 13
  · exact hctsC ci c (by rw [← h, ctsO, List.getElem?_append_left (by exact hlt)])
  · rw [ctsO, List.getElem?_append_right (by show 13 ≤ ci; omega)] at h
    match e : ci - ctsC.length, h with
    | 0, h => cases h; exact hKnown
    | 1, h => cases h; exact hDoes
    | 2, h => cases h; exact hAlike
    | n + 3, h => cases h
theorem hCopies : cCopies.Holds objs Try.prog := runCtr_holds (X := cxO Try.prog) objsOk mixed hctsO (callable _ Try.func8 (by kernel_rfl) (by kernel_rfl)) (by rintro ins _ ⟨_, _, _, _, _, _, _, _, _, _, rfl⟩; rfl) (by rw [rCopies]; exact vCopies _ _)
theorem cellsCopies_walk (x : Int) {v1 v2 v3 : Value} {n1 c1 n2 c2 n3 c3 : Nat} {g1 g2 g3 : Nat → Nat → Int} (W : World) (h1 : SliceAt W actKs v1 n1 c1 g1) (h2 : SliceAt W actKs v2 n2 c2 g2) (h3 : SliceAt W actKs v3 n3 c3 g3) :
    Calls Try.prog 8 #[.int .i64 x, v1, v2, v3] W fun e W' => e = .returned (.bool true) ∧ Below W.heap.size W W' :=
  hCopies.law rfl (ins := [.i x, .f g1 n1, .i n1, .i c1, .f g2 n2, .i n2, .i c2, .f g3 n3, .i n3, .i c3]) (ρ := [ptrOf v1, ptrOf v2, ptrOf v3]) (vals := [.int .i64 x, v1, v2, v3]) rfl ⟨_, _, _, _, _, _, _, _, _, _, rfl⟩ rfl
    (DenL.cons ⟨fun _ _ => rfl, trivial⟩ (DenL.cons (h1.den rfl (by simp) rfl rfl) (DenL.cons (h2.den rfl (by simp) rfl rfl) (DenL.cons (h3.den rfl (by simp) rfl rfl) DenL.nil))))
    (Sat.inputs rfl (by intro m e hm; match m, hm with | 0, hm => cases hm; exact .inl ⟨_, _, rfl, h1.ro rfl⟩ | 1, hm => cases hm; exact .inl ⟨_, _, rfl, h2.ro rfl⟩ | 2, hm => cases hm; exact .inl ⟨_, _, rfl, h3.ro rfl⟩ | m + 3, hm => cases hm))
end Go.Proofs.Ytbkaclkbjpdfnaa
