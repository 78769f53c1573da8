/- Accesses one behind the other: the law holds. -/
import Derived.Test.YtbkaclkbjpdfnaaCm
import Derived.Test.YtbkaclkbjpdfnaaSw
namespace Go.Proofs.Ytbkaclkbjpdfnaa
set_option linter.unusedVariables false
set_option linter.unusedSimpArgs false
set_option linter.unusedSectionVars false
open Go Go.RowKit

theorem pre_load (M : MemSt) (x : Int) : cLoad.pre [.u (.mem M), .i x] = True := eq_true ⟨_, _, rfl⟩
theorem pre_store (M : MemSt) (x y : Int) : cStore.pre [.u (.mem M), .i x, .i y] = True := eq_true ⟨_, _, _, rfl⟩
theorem pre_cas (M : MemSt) (x y z : Int) : cCAS.pre [.u (.mem M), .i x, .i y, .i z] = True := eq_true ⟨_, _, _, _, rfl⟩
theorem pre_add (M : MemSt) (x y : Int) : cAdd.pre [.u (.mem M), .i x, .i y] = True := eq_true ⟨_, _, _, rfl⟩
theorem pre_last (M : MemSt) : cLast.pre [.u (.mem M)] = True := eq_true ⟨_, rfl⟩
theorem pre_count (M : MemSt) : cCount.pre [.u (.mem M)] = True := eq_true ⟨_, rfl⟩
theorem pre_size (M : MemSt) : cSize.pre [.u (.mem M)] = True := eq_true ⟨_, rfl⟩
theorem pre_words (M : MemSt) : cWords.pre [.u (.mem M)] = True := eq_true ⟨_, rfl⟩
theorem pre_new (n : Int) : cNew.pre [.i n] = True := eq_true ⟨_, rfl⟩
theorem pre_rload {M : MemSt} {x : Int} (h : M.W.length ≤ 4096) : cRLoad.pre [.l M.W, .i M.W.length, .i M.k, .i M.a, .i M.o, .i M.n, .b M.h, .i M.N, .i x] := ⟨M, x, rfl, h⟩
theorem len_acc (M : MemSt) (k x y : Int) (b : Bool) : (M.acc k x y b).W.length = M.W.length := by unfold MemSt.acc; split <;> simp
theorem len_load (M : MemSt) (x : Int) : (M.load x).W.length = M.W.length := len_acc _ _ _ _ _
theorem len_store (M : MemSt) (x y : Int) : (M.store x y).W.length = M.W.length := len_acc _ _ _ _ _
theorem len_add (M : MemSt) (x y : Int) : (M.add x y).W.length = M.W.length := len_acc _ _ _ _ _
theorem len_cas (M : MemSt) (x y z : Int) : (M.cas x y z).W.length = M.W.length := by unfold MemSt.cas; split <;> exact len_acc _ _ _ _ _

theorem out_load (M : MemSt) (x : Int) : cLoad.out [.u (.mem M), .i x] = [.u (.mem (M.load x)), .i (M.load x).n] := rfl
theorem out_store (M : MemSt) (x y : Int) : cStore.out [.u (.mem M), .i x, .i y] = [.u (.mem (M.store x y))] := rfl
theorem out_cas (M : MemSt) (x y z : Int) : cCAS.out [.u (.mem M), .i x, .i y, .i z] = [.u (.mem (M.cas x y z)), .b (M.cas x y z).h] := rfl
theorem out_add (M : MemSt) (x y : Int) : cAdd.out [.u (.mem M), .i x, .i y] = [.u (.mem (M.add x y)), .i (M.add x y).n] := rfl
theorem out_last (M : MemSt) : cLast.out [.u (.mem M)] = [.u (.mem M), .i M.k, .i M.a, .i M.o, .i M.n, .b M.h] := rfl
theorem out_count (M : MemSt) : cCount.out [.u (.mem M)] = [.u (.mem M), .i M.N] := rfl
theorem out_size (M : MemSt) : cSize.out [.u (.mem M)] = [.u (.mem M), .i M.W.length] := rfl
theorem out_words (M : MemSt) : cWords.out [.u (.mem M)] = [.u (.mem M), .l M.W, .i M.W.length] := rfl
theorem out_copy (M : MemSt) : cCopy.out [.u (.mem M)] = [.u (.mem M), .u (.mem M)] := rfl
theorem out_same (xs ys : List Int) (a b c d : EV U) : cSameWords.out [.l xs, .l ys, a, b, c, d] = [.b (decide (xs = ys))] := rfl
theorem out_over (xs : List Int) (a b : EV U) : cOverWords.out [.l xs, a, b] = [.l (xs.map fun _ => 7777777)] := rfl
theorem out_rload (M : MemSt) (x : Int) : cRLoad.out [.l M.W, .i M.W.length, .i M.k, .i M.a, .i M.o, .i M.n, .b M.h, .i M.N, .i x] = [.l (M.load x).W, .i (M.load x).k, .i (M.load x).a, .i (M.load x).o, .i (M.load x).n, .b (M.load x).h, .i (M.load x).N, .i (M.load x).n] := rfl
theorem out_rstore (M : MemSt) (x y : Int) : cRStore.out [.l M.W, .i M.W.length, .i M.k, .i M.a, .i M.o, .i M.n, .b M.h, .i M.N, .i x, .i y] = [.l (M.store x y).W, .i (M.store x y).k, .i (M.store x y).a, .i (M.store x y).o, .i (M.store x y).n, .b (M.store x y).h, .i (M.store x y).N] := rfl
theorem out_rcas (M : MemSt) (x y z : Int) : cRCAS.out [.l M.W, .i M.W.length, .i M.k, .i M.a, .i M.o, .i M.n, .b M.h, .i M.N, .i x, .i y, .i z] = [.l (M.cas x y z).W, .i (M.cas x y z).k, .i (M.cas x y z).a, .i (M.cas x y z).o, .i (M.cas x y z).n, .b (M.cas x y z).h, .i (M.cas x y z).N, .b (M.cas x y z).h] := rfl
theorem out_radd (M : MemSt) (x y : Int) : cRAdd.out [.l M.W, .i M.W.length, .i M.k, .i M.a, .i M.o, .i M.n, .b M.h, .i M.N, .i x, .i y] = [.l (M.add x y).W, .i (M.add x y).k, .i (M.add x y).a, .i (M.add x y).o, .i (M.add x y).n, .b (M.add x y).h, .i (M.add x y).N, .i (M.add x y).n] := rfl
theorem pre_rstore {M : MemSt} {x y : Int} (h : M.W.length ≤ 4096) : cRStore.pre [.l M.W, .i M.W.length, .i M.k, .i M.a, .i M.o, .i M.n, .b M.h, .i M.N, .i x, .i y] := ⟨M, x, y, rfl, h⟩
theorem pre_rcas {M : MemSt} {x y z : Int} (h : M.W.length ≤ 4096) : cRCAS.pre [.l M.W, .i M.W.length, .i M.k, .i M.a, .i M.o, .i M.n, .b M.h, .i M.N, .i x, .i y, .i z] := ⟨M, x, y, z, rfl, h⟩
theorem pre_radd {M : MemSt} {x y : Int} (h : M.W.length ≤ 4096) : cRAdd.pre [.l M.W, .i M.W.length, .i M.k, .i M.a, .i M.o, .i M.n, .b M.h, .i M.N, .i x, .i y] := ⟨M, x, y, rfl, h⟩
theorem pre_same {xs ys : List Int} {a b c d : Int} (h : a = xs.length) (h1 : c = ys.length) (h2 : xs.length < 2 ^ 62) : cSameWords.pre [.l xs, .l ys, .i a, .i b, .i c, .i d] := by subst h h1; exact ⟨_, _, _, _, rfl, h2⟩
theorem pre_over {xs : List Int} {a b : Int} (h : a = xs.length) (h2 : xs.length < 2 ^ 62) : cOverWords.pre [.l xs, .i a, .i b] := by subst h; exact ⟨_, _, rfl, h2⟩

set_option maxHeartbeats 4000000 in
theorem bActs (P : Program) (hs : List (Nat × Nat × List Nat)) : ∀ env, actsInv env → tActsL0.sat { cxL P with hints := hs } (ctrR cActs) env := by
  rintro env ⟨n, g, k, c, u, e, r, M, i, rfl, h1, h2, h3, h4⟩
  simp only [Tree.sat, Bx.den, Ex.den, Bnd.den, gI, gB, gL, gF, gN, gNil, List.map_cons, List.map_nil, List.cons_append, List.nil_append, List.getElem?_cons_zero, List.getElem?_cons_succ, List.getD, Option.getD_some, cmp_eql_t, cmp_eql_f, cmp_neq_t, cmp_neq_f, cmp_lss_t, cmp_lss_f, cmp_leq_t, cmp_leq_f, cmp_gtr_t, cmp_gtr_f, cmp_geq_t, cmp_geq_f, Bool.not_eq_true', Bool.not_eq_false', Bool.and_eq_true, Bool.and_eq_false_iff, binDen, ctrR, List.take_succ_cons, List.take_zero, Option.some.injEq, EV.u.injEq, tActsL0, cxL, cx, ctsL, ctsC, cActs, cAwake, pre_new, pre_load, pre_store, pre_cas, pre_add, pre_last, pre_count, pre_size, pre_words, true_and, cNew, out_load, out_store, out_cas, out_add, out_last, out_count, out_size, out_words, out_same, out_over, out_rload, out_rstore, out_rcas, out_radd, List.append_assoc, ne_eq, not_true_eq_false, false_implies, false_or, or_self, and_true, decide_true, beq_self_eq_true, Bool.not_true, reduceCtorEq, len_load, len_store, len_cas, len_add, true_implies, implies_true, not_false_eq_true]
  have hX : ∀ {W : List Int} (h : W.length = M.W.length), W.length < 2 ^ 62 := fun h => by omega
  repeat' (first | with_reducible apply And.intro | intro _)
  all_goals first
    | omega
    | exact pre_rload h4
    | exact pre_rstore h4
    | exact pre_rcas h4
    | exact pre_radd h4
    | (refine pre_same ?_ ?_ ?_ <;> (try simp only [len_load, len_store, len_cas, len_add]) <;> omega)
    | (refine pre_over ?_ ?_ <;> (try simp only [len_load, len_store, len_cas, len_add]) <;> omega)
    | (rw [wrap_small (by omega) (by omega)]; refine actsInv_mk ?_ ?_ ?_ ?_ ?_ ?_ ?_ ?_ ?_ ?_ ?_ ?_ ?_ <;> first | rfl | (simp only [len_load, len_store, len_cas, len_add]; done) | (simp only [len_load, len_store, len_cas, len_add]; omega) | omega)
    | (rw [wrap_small (by omega) (by omega)]; show ((k : Int) - (i + 1)).toNat < ((k : Int) - i).toNat; omega)
set_option maxHeartbeats 4000000 in
theorem vActs (P : Program) (hs : List (Nat × Nat × List Nat)) : ∀ ins, ins.length = cActs.nin → cActs.pre ins → tActs.sat { cxL P with hints := hs } (ctrR cActs) ins := by
  rintro ins _ ⟨n, g, k, c, rfl⟩
  by_cases hn : 1 ≤ n ∧ n ≤ 4096
  · simp only [Tree.sat, Bx.den, Ex.den, Bnd.den, gI, gB, gL, gF, gN, gNil, List.map_cons, List.map_nil, List.cons_append, List.nil_append, List.getElem?_cons_zero, List.getElem?_cons_succ, List.getD, Option.getD_some, cmp_eql_t, cmp_eql_f, cmp_neq_t, cmp_neq_f, cmp_lss_t, cmp_lss_f, cmp_leq_t, cmp_leq_f, cmp_gtr_t, cmp_gtr_f, cmp_geq_t, cmp_geq_f, Bool.not_eq_true', Bool.not_eq_false', Bool.and_eq_true, Bool.and_eq_false_iff, binDen, ctrR, List.take_succ_cons, List.take_zero, Option.some.injEq, EV.u.injEq, tActs, cxL, cx, ctsL, ctsC, cActs, cAwake, pre_new, true_and, cNew, hn, if_true, Nil.isNil, List.append_assoc, ne_eq, not_true_eq_false, false_implies, and_true, true_implies, implies_true, reduceCtorEq]
    have hW : (MemSt.new n).W.length = n.toNat := by simp [MemSt.new]
    repeat' (first | with_reducible apply And.intro | intro _)
    all_goals first
      | omega
      | exact ⟨_, rfl⟩
      | exact bActs P hs _ (by assumption)
      | (refine actsInv_mk (M := MemSt.new n) rfl ?_ rfl rfl rfl rfl rfl rfl rfl ?_ ?_ ?_ ?_ <;> omega)
  · simp only [Tree.sat, Bx.den, Ex.den, Bnd.den, gI, gB, gL, gF, gN, gNil, List.map_cons, List.map_nil, List.cons_append, List.nil_append, List.getElem?_cons_zero, List.getElem?_cons_succ, List.getD, Option.getD_some, cmp_eql_t, cmp_eql_f, cmp_neq_t, cmp_neq_f, cmp_lss_t, cmp_lss_f, cmp_leq_t, cmp_leq_f, cmp_gtr_t, cmp_gtr_f, cmp_geq_t, cmp_geq_f, Bool.not_eq_true', Bool.not_eq_false', Bool.and_eq_true, Bool.and_eq_false_iff, binDen, ctrR, List.take_succ_cons, List.take_zero, Option.some.injEq, EV.u.injEq, tActs, cxL, cx, ctsL, ctsC, cActs, cAwake, pre_new, true_and, cNew, hn, if_false, Nil.isNil, List.append_assoc, ne_eq, not_true_eq_false, false_implies, and_true, true_implies, implies_true, reduceCtorEq]
    repeat' (first | with_reducible apply And.intro | intro _)
    all_goals first
      | omega
      | exact ⟨_, rfl⟩
theorem hActs : cActs.Holds objs Try.prog := runCtr_holds (X := { cxL Try.prog with hints := [(6, 13, [2, 3]), (6, 18, [2, 3]), (6, 20, [2, 3])] }) objsOk mixed hctsL (callable _ Try.func6 (by kernel_rfl) (by kernel_rfl)) (by rintro ins _ ⟨_, _, _, _, rfl⟩; rfl) (by rw [rActs]; exact vActs _ _)
theorem cellsActs_walk (x : Int) {v : Value} {n c : Nat} {g : Nat → Nat → Int} (W : World) (h : SliceAt W actKs v n c g) : Calls Try.prog 6 #[.int .i64 x, v] W fun e W' => e = .returned (.bool true) ∧ Below W.heap.size W W' :=
  hActs.law rfl (ins := [.i x, .f g n, .i n, .i c]) (ρ := [ptrOf v]) (vals := [.int .i64 x, v]) rfl ⟨_, _, _, _, rfl⟩ rfl
    (DenL.cons ⟨fun _ _ => rfl, trivial⟩ (DenL.cons (h.den rfl (by simp) rfl rfl) DenL.nil))
    (Sat.inputs rfl (by intro m e hm; match m, hm with | 0, hm => cases hm; exact .inl ⟨_, _, rfl, h.ro rfl⟩ | m + 1, hm => cases hm))
end Go.Proofs.Ytbkaclkbjpdfnaa
