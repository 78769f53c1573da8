/- Gates are laid: the contract holds. -/
import Derived.Test.YtjohihkbampbgaaGcT
import Derived.Test.YtjohihkbampbgaaSw
namespace Go.Proofs.Ytjohihkbampbgaa
set_option linter.unusedVariables false
set_option linter.unusedSimpArgs false
set_option linter.unusedSectionVars false
open Go

theorem pre_load (M : MemSt) (x : Int) : cLoad.pre [.u (.mem M), .i x] = True := eq_true ⟨_, _, rfl⟩
theorem pre_store (M : MemSt) (x y : Int) : cStore.pre [.u (.mem M), .i x, .i y] = True := eq_true ⟨_, _, _, rfl⟩
theorem pre_cas (M : MemSt) (x y z : Int) : cCAS.pre [.u (.mem M), .i x, .i y, .i z] = True := eq_true ⟨_, _, _, _, rfl⟩
theorem pre_last (M : MemSt) : cLast.pre [.u (.mem M)] = True := eq_true ⟨_, rfl⟩
theorem pre_count (M : MemSt) : cCount.pre [.u (.mem M)] = True := eq_true ⟨_, rfl⟩
theorem pre_words (M : MemSt) : cWords.pre [.u (.mem M)] = True := eq_true ⟨_, rfl⟩
theorem pre_new (n : Int) : cNew.pre [.i n] = True := eq_true ⟨_, rfl⟩
theorem out_load (M : MemSt) (x : Int) : cLoad.out [.u (.mem M), .i x] = [.u (.mem (M.load x)), .i (M.load x).n] := rfl
theorem out_store (M : MemSt) (x y : Int) : cStore.out [.u (.mem M), .i x, .i y] = [.u (.mem (M.store x y))] := rfl
theorem out_cas (M : MemSt) (x y z : Int) : cCAS.out [.u (.mem M), .i x, .i y, .i z] = [.u (.mem (M.cas x y z)), .b (M.cas x y z).h] := rfl
theorem out_last (M : MemSt) : cLast.out [.u (.mem M)] = [.u (.mem M), .i M.k, .i M.a, .i M.o, .i M.n, .b M.h] := rfl
theorem out_count (M : MemSt) : cCount.out [.u (.mem M)] = [.u (.mem M), .i M.N] := rfl
theorem out_words (M : MemSt) : cWords.out [.u (.mem M)] = [.u (.mem M), .l M.W, .i M.W.length] := rfl
theorem out_same (xs ys : List Int) (a b c d : Int) : cSameWords.out [.l xs, .l ys, .i a, .i c, .i b, .i d] = [.b (decide (xs.take a.toNat = ys.take b.toNat))] := rfl
theorem out_new {n : Int} (h : 1 ≤ n) (h1 : n ≤ 4096) : cNew.out [.i n] = [.u (.mem (.new n)), .i 0] := by simp [cNew, h, h1]
theorem pre_same {xs ys : List Int} {a b c d : Int} (h : 0 ≤ a) (h1 : a ≤ xs.length) (h2 : 0 ≤ b) (h3 : b ≤ ys.length) (h4 : a < 2 ^ 62) : cSameWords.pre [.l xs, .l ys, .i a, .i c, .i b, .i d] := ⟨_, _, _, _, _, _, rfl, h, h1, h2, h3, h4⟩
theorem pre_pick {x n : Int} (h : 0 < n) (h1 : n < 2 ^ 62) : cPick.pre [.i x, .i n] := ⟨_, _, rfl, h, h1⟩
theorem out_pick (x n : Int) : cPick.out [.i x, .i n] = [.i (x.emod n)] := rfl
theorem len_acc (M : MemSt) (k x y : Int) (b : Bool) : (M.acc k x y b).W.length = M.W.length := by unfold MemSt.acc; split <;> simp
theorem len_load (M : MemSt) (x : Int) : (M.load x).W.length = M.W.length := len_acc _ _ _ _ _
theorem len_store (M : MemSt) (x y : Int) : (M.store x y).W.length = M.W.length := len_acc _ _ _ _ _
theorem len_cas (M : MemSt) (x y z : Int) : (M.cas x y z).W.length = M.W.length := by unfold MemSt.cas; split <;> exact len_acc _ _ _ _ _
theorem len_fill (M : MemSt) (f : Int) : ∀ k, (fillM M f k).W.length = M.W.length
  | 0 => rfl
  | k + 1 => by rw [fillM, len_store, len_fill M f k]

theorem fillM_succ (M : MemSt) (f i : Int) (h : 0 ≤ i) : fillM M f (i + 1).toNat = (fillM M f i.toNat).store (IntKind.i64.wrap (f + i)) 0 := by
  obtain ⟨k, rfl⟩ := Int.eq_ofNat_of_zero_le h
  rfl
set_option maxHeartbeats 1000000 in
theorem bFill (P : Program) (hs : List (Nat × Nat × List Nat)) : ∀ env, fillInv env → tFillL0.sat { cxF P with hints := hs } (ctrR cFill) env := by
  rintro env ⟨M, f, n, L, i, rfl, h1, h2, h3, h4⟩
  simp only [Tree.sat, Bx.den, Ex.den, Bnd.den, gI, gB, gL, gF, gN, gNil, List.map_cons, List.map_nil, List.cons_append, List.nil_append, List.getElem?_cons_zero, List.getElem?_cons_succ, List.getD, Option.getD_some, cmp_eql_t, cmp_eql_f, cmp_neq_t, cmp_neq_f, cmp_lss_t, cmp_lss_f, cmp_leq_t, cmp_leq_f, cmp_gtr_t, cmp_gtr_f, cmp_geq_t, cmp_geq_f, Bool.not_eq_true', Bool.not_eq_false', Bool.and_eq_true, Bool.and_eq_false_iff, binDen, ctrR, Ctr.may, List.take_succ_cons, List.take_zero, Option.some.injEq, EV.u.injEq, tFillL0, cxF, cx, ctsM, cFill, pre_store, out_store, true_and, ne_eq, not_true_eq_false, false_implies, true_implies, implies_true]
  repeat' (first | with_reducible apply And.intro | intro _)
  all_goals first
    | omega
    | (rw [wrap_small (n := i + 1) (by omega) (by omega)]; exact ⟨M, f, n, L, i + 1, by rw [fillM_succ M f i h1], by omega, by omega, h3, h4⟩)
    | (rw [wrap_small (n := i + 1) (by omega) (by omega)]; show (n - (i + 1)).toNat < (n - i).toNat; omega)
    | (have : i = n := by omega
       subst this
       rw [if_pos ⟨h3, h4⟩])
set_option maxHeartbeats 1000000 in
theorem vFill (P : Program) (hs : List (Nat × Nat × List Nat)) : ∀ ins, ins.length = cFill.nin → cFill.pre ins → tFill.sat { cxF P with hints := hs } (ctrR cFill) ins := by
  rintro ins _ ⟨M, f, n, rfl⟩
  simp only [Tree.sat, Bx.den, Ex.den, Bnd.den, gI, gB, gL, gF, gN, gNil, List.map_cons, List.map_nil, List.cons_append, List.nil_append, List.getElem?_cons_zero, List.getElem?_cons_succ, List.getD, Option.getD_some, cmp_eql_t, cmp_eql_f, cmp_neq_t, cmp_neq_f, cmp_lss_t, cmp_lss_f, cmp_leq_t, cmp_leq_f, cmp_gtr_t, cmp_gtr_f, cmp_geq_t, cmp_geq_f, Bool.not_eq_true', Bool.not_eq_false', Bool.and_eq_true, Bool.and_eq_false_iff, binDen, ctrR, Ctr.may, List.take_succ_cons, List.take_zero, Option.some.injEq, EV.u.injEq, tFill, cxF, cx, ctsM, cFill, true_and, ne_eq, not_true_eq_false, false_implies, true_implies, implies_true]
  repeat' (first | with_reducible apply And.intro | intro _)
  all_goals first
    | omega
    | (rw [if_neg (by omega)])
    | exact bFill P hs _ (by assumption)
    | exact ⟨M, f, n, _, 0, rfl, by omega, by omega, by omega, by omega⟩
theorem hFill : cFill.Holds objs Try.prog := runCtr_holds (X := cxF Try.prog) objsOk mixed hctsM (callable _ Try.func23 (by kernel_rfl) (by kernel_rfl)) (by rintro ins _ ⟨_, _, _, rfl⟩; rfl) (by rw [rFill]; exact vFill _ _)
end Go.Proofs.Ytjohihkbampbgaa
