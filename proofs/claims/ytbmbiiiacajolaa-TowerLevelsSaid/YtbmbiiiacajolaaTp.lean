/- What is linked on a level: the contracts hold. -/
import Derived.Test.YtbmbiiiacajolaaToT
namespace Go.Proofs.Ytbmbiiiacajolaa
set_option linter.unusedVariables false
set_option linter.unusedSimpArgs false
set_option linter.unusedSectionVars false
open Go Go.RowKit

theorem tz0 : Int.toNat 0 = 0 := rfl
theorem tz1 : Int.toNat 1 = 1 := rfl
theorem tz2 : Int.toNat 2 = 2 := rfl
theorem idxE_le (w : Int) : idxE w ≤ 2 := by unfold idxE; split <;> omega
theorem out_idx (w : Int) : cIdxT.out [.i w] = [.i (idxE w)] := rfl
theorem out_next (i l : Int) : cNextT.out [.i i, .i l] = [.i (nextE i l)] := rfl
theorem out_marked (w : Int) : cMarkedT.out [.i w] = [.b (markedE w)] := rfl
theorem out_memAtW (xs : List Int) (k : Int) : cMemAt.out [.l xs, .i 34, .i 34, .i k] = [.i (atW xs k)] := rfl
theorem vIdx (P : Program) (hs : List (Nat × Nat × List Nat)) : ∀ ins, ins.length = cIdxT.nin → cIdxT.pre ins → tIdx.sat { cxT0j P with hints := hs } (ctrR cIdxT) ins := by
  rintro ins _ ⟨w, rfl⟩
  unfold tIdx
  repeat' (first
    | with_reducible refine st_and ?_ ?_
    | with_reducible exact st_ok
    | (refine st_br (fun hc => ?_) (fun hc => ?_)
       · have h := of_decide_eq_true (show decide (idx0 w ≥ 3) = true from hc)
         refine st_ret (a := ([.i (idxE w)] : List (EV U))) ?_ rfl
         rw [show idxE w = -1 from if_pos h]; rfl
       · have h := of_decide_eq_false (show decide (idx0 w ≥ 3) = false from hc)
         refine st_ret (a := ([.i (idxE w)] : List (EV U))) ?_ rfl
         rw [show idxE w = idx0 w from if_neg h]; rfl))
theorem vNext (P : Program) (hs : List (Nat × Nat × List Nat)) : ∀ ins, ins.length = cNextT.nin → cNextT.pre ins → tNext.sat { cxT0j P with hints := hs } (ctrR cNextT) ins := by
  rintro ins _ ⟨i, l, rfl, h1, h2, h3, h4⟩
  have w1 : IntKind.i64.wrap (4 + l) = 4 + l := wrap_small (by omega) (by omega)
  have w2 : IntKind.i64.wrap (4 + l - 4) = 4 + l - 4 := wrap_small (by omega) (by omega)
  have w3 : IntKind.i64.wrap (14 + (4 + l - 4)) = 14 + (4 + l - 4) := wrap_small (by omega) (by omega)
  have w4 : IntKind.i64.wrap (i * 6) = i * 6 := wrap_small (by omega) (by omega)
  have w5 : IntKind.i64.wrap (16 + i * 6) = 16 + i * 6 := wrap_small (by omega) (by omega)
  have w6 : IntKind.i64.wrap (16 + i * 6 + (4 + l)) = 16 + i * 6 + (4 + l) := wrap_small (by omega) (by omega)
  unfold tNext
  repeat' (first
    | (first
      | (with_reducible refine st_need ?_ ?_
         focus (simp only [Bx.den, Ex.den, Bnd.den, gI, gB, gL, gF, gN, gNil, List.map_cons, List.map_nil, List.cons_append, List.nil_append, List.getElem?_cons_zero, List.getElem?_cons_succ, List.getD, Option.getD_some, cmp_eql_t, cmp_eql_f, cmp_neq_t, cmp_neq_f, cmp_lss_t, cmp_lss_f, cmp_leq_t, cmp_leq_f, cmp_gtr_t, cmp_gtr_f, cmp_geq_t, cmp_geq_f, Bool.not_eq_true', Bool.not_eq_false', Bool.and_eq_true, Bool.and_eq_false_iff, binDen, Option.some.injEq, EV.u.injEq, Nil.isNil, beq_self_eq_true, and_self, true_and, and_true, or_false, false_or, or_self, not_true_eq_false, not_false_eq_true, ne_eq, Bool.true_eq_false, Bool.false_eq_true, reduceCtorEq, w1, w2, w3, w4, w5, w6] <;> first | omega | assumption))
      | (with_reducible refine st_and ?_ ?_)
      | (with_reducible exact st_ok)
      | (with_reducible refine st_br (fun hc => ?_) (fun hc => ?_) <;> (simp only [Bx.den, Ex.den, Bnd.den, gI, gB, gL, gF, gN, gNil, List.map_cons, List.map_nil, List.cons_append, List.nil_append, List.getElem?_cons_zero, List.getElem?_cons_succ, List.getD, Option.getD_some, cmp_eql_t, cmp_eql_f, cmp_neq_t, cmp_neq_f, cmp_lss_t, cmp_lss_f, cmp_leq_t, cmp_leq_f, cmp_gtr_t, cmp_gtr_f, cmp_geq_t, cmp_geq_f, Bool.not_eq_true', Bool.not_eq_false', Bool.and_eq_true, Bool.and_eq_false_iff, binDen, Option.some.injEq, EV.u.injEq, Nil.isNil, beq_self_eq_true, and_self, true_and, and_true, or_false, false_or, or_self, not_true_eq_false, not_false_eq_true, ne_eq, Bool.true_eq_false, Bool.false_eq_true, reduceCtorEq, w1, w2, w3, w4, w5, w6] at hc) <;> (try (exfalso; first | contradiction | omega)))
      | (refine st_call (by rfl) (by simp only [Bx.den, Ex.den, Bnd.den, gI, gB, gL, gF, gN, gNil, List.map_cons, List.map_nil, List.cons_append, List.nil_append, List.getElem?_cons_zero, List.getElem?_cons_succ, List.getD, Option.getD_some, cmp_eql_t, cmp_eql_f, cmp_neq_t, cmp_neq_f, cmp_lss_t, cmp_lss_f, cmp_leq_t, cmp_leq_f, cmp_gtr_t, cmp_gtr_f, cmp_geq_t, cmp_geq_f, Bool.not_eq_true', Bool.not_eq_false', Bool.and_eq_true, Bool.and_eq_false_iff, binDen, Option.some.injEq, EV.u.injEq, Nil.isNil, beq_self_eq_true, and_self, true_and, and_true, or_false, false_or, or_self, not_true_eq_false, not_false_eq_true, ne_eq, Bool.true_eq_false, Bool.false_eq_true, reduceCtorEq, w1, w2, w3, w4, w5, w6] <;> rfl) ?_ (by rfl <;> rfl) (by simp only [List.cons_append, List.nil_append] <;> rfl) ?_
         focus (first | rfl)))
    | (refine st_ret (by simp only [Bx.den, Ex.den, Bnd.den, gI, gB, gL, gF, gN, gNil, List.map_cons, List.map_nil, List.cons_append, List.nil_append, List.getElem?_cons_zero, List.getElem?_cons_succ, List.getD, Option.getD_some, cmp_eql_t, cmp_eql_f, cmp_neq_t, cmp_neq_f, cmp_lss_t, cmp_lss_f, cmp_leq_t, cmp_leq_f, cmp_gtr_t, cmp_gtr_f, cmp_geq_t, cmp_geq_f, Bool.not_eq_true', Bool.not_eq_false', Bool.and_eq_true, Bool.and_eq_false_iff, binDen, Option.some.injEq, EV.u.injEq, Nil.isNil, beq_self_eq_true, and_self, true_and, and_true, or_false, false_or, or_self, not_true_eq_false, not_false_eq_true, ne_eq, Bool.true_eq_false, Bool.false_eq_true, reduceCtorEq, w1, w2, w3, w4, w5, w6] <;> rfl) ?_
       focus (show [EV.i _] = [EV.i (nextE i l)]
              unfold nextE
              first
                | (rw [if_pos (by omega)]; congr 2; omega)
                | (rw [if_neg (by omega)]; congr 2; omega)))
    | fail "no step")
theorem vMarked (P : Program) (hs : List (Nat × Nat × List Nat)) : ∀ ins, ins.length = cMarkedT.nin → cMarkedT.pre ins → tMarked.sat { cxT0j P with hints := hs } (ctrR cMarkedT) ins := by
  rintro ins _ ⟨w, rfl⟩
  unfold tMarked
  repeat' (first
    | with_reducible refine st_and ?_ ?_
    | with_reducible exact st_ok
    | exact st_ret (a := ([.b (markedE w)] : List (EV U))) rfl rfl)
theorem vAmong (P : Program) (hs : List (Nat × Nat × List Nat)) : ∀ ins, ins.length = cAmongT.nin → cAmongT.pre ins → tAmong.sat { cxTa P with hints := hs } (ctrR cAmongT) ins := by
  rintro ins _ ⟨xs, a, c, n, rfl, h1, h2, h3⟩
  unfold tAmong
  repeat' (first
    | with_reducible refine st_and ?_ ?_
    | with_reducible exact st_ok
    | (refine st_loop (by rfl) (by simp only [Bx.den, Ex.den, Bnd.den, gI, gB, gL, gF, gN, gNil, List.map_cons, List.map_nil, List.cons_append, List.nil_append, List.getElem?_cons_zero, List.getElem?_cons_succ, List.getD, Option.getD_some, cmp_eql_t, cmp_eql_f, cmp_neq_t, cmp_neq_f, cmp_lss_t, cmp_lss_f, cmp_leq_t, cmp_leq_f, cmp_gtr_t, cmp_gtr_f, cmp_geq_t, cmp_geq_f, Bool.not_eq_true', Bool.not_eq_false', Bool.and_eq_true, Bool.and_eq_false_iff, binDen, Option.some.injEq, EV.u.injEq, Nil.isNil, beq_self_eq_true, and_self, true_and, and_true, or_false, false_or, or_self, not_true_eq_false, not_false_eq_true, ne_eq, Bool.true_eq_false, Bool.false_eq_true, reduceCtorEq, h1] <;> rfl) (by simp only [List.take_succ_cons, List.take_zero] <;> rfl) ?_ (fun env' h => ?_)
       · exact ⟨_, _, _, _, _, rfl, h1, h2, h3, by omega, h1, by simp⟩
       · obtain ⟨xs, a, c, n, k, rfl, h1, h2, h3, h4, h5, h6⟩ := h
         have hk : IntKind.i64.wrap (k + 1) = k + 1 := wrap_small (by omega) (by omega)
         have hx : ∀ m : Nat, (m : Int) = k → (hm : m < xs.length) → xs.take (m + 1) = xs.take m ++ [xs[m]?.getD 0] := fun m _ hm => by
           rw [List.take_add_one, List.getElem?_eq_getElem hm]; rfl
         have hx2 := hx k.toNat (by omega)
         unfold tAmongL0
         repeat' (first
           | (first
             | (with_reducible refine st_need ?_ ?_
                focus (simp only [Bx.den, Ex.den, Bnd.den, gI, gB, gL, gF, gN, gNil, List.map_cons, List.map_nil, List.cons_append, List.nil_append, List.getElem?_cons_zero, List.getElem?_cons_succ, List.getD, Option.getD_some, cmp_eql_t, cmp_eql_f, cmp_neq_t, cmp_neq_f, cmp_lss_t, cmp_lss_f, cmp_leq_t, cmp_leq_f, cmp_gtr_t, cmp_gtr_f, cmp_geq_t, cmp_geq_f, Bool.not_eq_true', Bool.not_eq_false', Bool.and_eq_true, Bool.and_eq_false_iff, binDen, Option.some.injEq, EV.u.injEq, Nil.isNil, beq_self_eq_true, and_self, true_and, and_true, or_false, false_or, or_self, not_true_eq_false, not_false_eq_true, ne_eq, Bool.true_eq_false, Bool.false_eq_true, reduceCtorEq, hk] <;> first | omega | assumption))
             | (with_reducible refine st_and ?_ ?_)
             | (with_reducible exact st_ok)
             | (with_reducible refine st_br (fun hc => ?_) (fun hc => ?_) <;> (simp only [Bx.den, Ex.den, Bnd.den, gI, gB, gL, gF, gN, gNil, List.map_cons, List.map_nil, List.cons_append, List.nil_append, List.getElem?_cons_zero, List.getElem?_cons_succ, List.getD, Option.getD_some, cmp_eql_t, cmp_eql_f, cmp_neq_t, cmp_neq_f, cmp_lss_t, cmp_lss_f, cmp_leq_t, cmp_leq_f, cmp_gtr_t, cmp_gtr_f, cmp_geq_t, cmp_geq_f, Bool.not_eq_true', Bool.not_eq_false', Bool.and_eq_true, Bool.and_eq_false_iff, binDen, Option.some.injEq, EV.u.injEq, Nil.isNil, beq_self_eq_true, and_self, true_and, and_true, or_false, false_or, or_self, not_true_eq_false, not_false_eq_true, ne_eq, Bool.true_eq_false, Bool.false_eq_true, reduceCtorEq, hk] at hc) <;> (try (exfalso; first | contradiction | omega)))
             | (refine st_call (by rfl) (by simp only [Bx.den, Ex.den, Bnd.den, gI, gB, gL, gF, gN, gNil, List.map_cons, List.map_nil, List.cons_append, List.nil_append, List.getElem?_cons_zero, List.getElem?_cons_succ, List.getD, Option.getD_some, cmp_eql_t, cmp_eql_f, cmp_neq_t, cmp_neq_f, cmp_lss_t, cmp_lss_f, cmp_leq_t, cmp_leq_f, cmp_gtr_t, cmp_gtr_f, cmp_geq_t, cmp_geq_f, Bool.not_eq_true', Bool.not_eq_false', Bool.and_eq_true, Bool.and_eq_false_iff, binDen, Option.some.injEq, EV.u.injEq, Nil.isNil, beq_self_eq_true, and_self, true_and, and_true, or_false, false_or, or_self, not_true_eq_false, not_false_eq_true, ne_eq, Bool.true_eq_false, Bool.false_eq_true, reduceCtorEq, hk] <;> rfl) ?_ (by rfl <;> rfl) (by simp only [List.cons_append, List.nil_append] <;> rfl) ?_
                focus (first | rfl)))
           | (refine st_ret (by simp only [Bx.den, Ex.den, Bnd.den, gI, gB, gL, gF, gN, gNil, List.map_cons, List.map_nil, List.cons_append, List.nil_append, List.getElem?_cons_zero, List.getElem?_cons_succ, List.getD, Option.getD_some, cmp_eql_t, cmp_eql_f, cmp_neq_t, cmp_neq_f, cmp_lss_t, cmp_lss_f, cmp_leq_t, cmp_leq_f, cmp_gtr_t, cmp_gtr_f, cmp_geq_t, cmp_geq_f, Bool.not_eq_true', Bool.not_eq_false', Bool.and_eq_true, Bool.and_eq_false_iff, binDen, Option.some.injEq, EV.u.injEq, Nil.isNil, beq_self_eq_true, and_self, true_and, and_true, or_false, false_or, or_self, not_true_eq_false, not_false_eq_true, ne_eq, Bool.true_eq_false, Bool.false_eq_true, reduceCtorEq, hk] <;> rfl) ?_
              focus (show [EV.b _] = [EV.b (decide (n ∈ xs.take a.toNat))]
                     first
                       | (have hm := hx2 (by omega)
                          have hmem : n ∈ xs.take (k.toNat + 1) := by rw [hm]; exact List.mem_append.2 (.inr (List.mem_singleton.2 (Eq.symm (by assumption))))
                          have : xs.take (k.toNat + 1) <+: xs.take a.toNat := List.take_prefix_take_left (by omega)
                          rw [decide_eq_true (this.subset hmem)])
                       | (have e : k = a := by omega
                          subst e
                          rw [decide_eq_false h6])))
           | (refine st_back (by rfl) (by simp only [Bx.den, Ex.den, Bnd.den, gI, gB, gL, gF, gN, gNil, List.map_cons, List.map_nil, List.cons_append, List.nil_append, List.getElem?_cons_zero, List.getElem?_cons_succ, List.getD, Option.getD_some, cmp_eql_t, cmp_eql_f, cmp_neq_t, cmp_neq_f, cmp_lss_t, cmp_lss_f, cmp_leq_t, cmp_leq_f, cmp_gtr_t, cmp_gtr_f, cmp_geq_t, cmp_geq_f, Bool.not_eq_true', Bool.not_eq_false', Bool.and_eq_true, Bool.and_eq_false_iff, binDen, Option.some.injEq, EV.u.injEq, Nil.isNil, beq_self_eq_true, and_self, true_and, and_true, or_false, false_or, or_self, not_true_eq_false, not_false_eq_true, ne_eq, Bool.true_eq_false, Bool.false_eq_true, reduceCtorEq, hk] <;> rfl) (by simp only [List.take_succ_cons, List.take_zero] <;> rfl) (by rfl) ?_ ?_
              focus (have hm := hx2 (by omega)
                     exact ⟨_, _, _, _, _, rfl, h1, h2, h3, by omega, by omega, by rw [show (k + 1).toNat = k.toNat + 1 by omega, hm]; exact fun hq => (List.mem_append.1 hq).elim h6 fun hq => absurd (List.mem_singleton.1 hq).symm (by assumption)⟩)
              focus (show (a - (k + 1)).toNat < (a - k).toNat; omega))
           | fail "no step")))
theorem hIdx : cIdxT.Holds objs Try.prog := runCtr_holds (X := { cxT0j Try.prog with hints := hsIdx }) (fuel := 40) (opens := []) (folds := []) objsOk mixed noCts (callable _ Try.func70 (by kernel_rfl) (by kernel_rfl)) (by rintro ins _ ⟨_, rfl⟩; rfl) (by rw [rIdx]; exact vIdx _ _)
theorem hNext : cNextT.Holds objs Try.prog := runCtr_holds (X := { cxT0j Try.prog with hints := hsNext }) (fuel := 40) (opens := []) (folds := []) objsOk mixed noCts (callable _ Try.func16 (by kernel_rfl) (by kernel_rfl)) (by rintro ins _ ⟨_, _, rfl, _⟩; rfl) (by rw [rNext]; exact vNext _ _)
theorem hMarked : cMarkedT.Holds objs Try.prog := runCtr_holds (X := { cxT0j Try.prog with hints := hsMarked }) (fuel := 40) (opens := []) (folds := []) objsOk mixed noCts (callable _ Try.func76 (by kernel_rfl) (by kernel_rfl)) (by rintro ins _ ⟨_, rfl⟩; rfl) (by rw [rMarked]; exact vMarked _ _)
theorem hAmong : cAmongT.Holds objs Try.prog := runCtr_holds (X := { cxTa Try.prog with hints := hsAmong }) (fuel := 40) (opens := []) (folds := []) objsOk mixed noCts (callable _ Try.func56 (by kernel_rfl) (by kernel_rfl)) (by rintro ins _ ⟨_, _, _, _, rfl, _⟩; rfl) (by rw [rAmong]; exact vAmong _ _)
theorem hctsTo : ∀ (ci : Nat) (c : Ctr U), ctsTo[ci]? = some c → c.Holds objs Try.prog := by
  intro ci c h
  match ci, h with
  | 0, h => cases h; exact hWords
  | 1, h => cases h; exact hMemAt
  | 2, h => cases h; exact hIdx
  | 3, h => cases h; exact hNext
  | 4, h => cases h; exact hMarked
  | n + 5, h => cases h
set_option maxHeartbeats 4000000 in
theorem vLevel (P : Program) (hs : List (Nat × Nat × List Nat)) : ∀ ins, ins.length = cLevelT.nin → cLevelT.pre ins → tLevel.sat { cxTo P with hints := hs } (ctrR cLevelT) ins := by
  rintro ins _ ⟨M, l, rfl, hl, h1, h2⟩
  have hn : ∀ i, -1 ≤ i → 0 ≤ nextE i l := fun i h => by unfold nextE; split <;> omega
  have hn1 := hn (-1) (by omega)
  have hi := idxE_le
  unfold tLevel
  repeat' (first
    | (first
      | (with_reducible refine st_need ?_ ?_
         focus (simp only [Bx.den, Ex.den, Bnd.den, gI, gB, gL, gF, gN, gNil, List.map_cons, List.map_nil, List.cons_append, List.nil_append, List.getElem?_cons_zero, List.getElem?_cons_succ, List.getD, Option.getD_some, cmp_eql_t, cmp_eql_f, cmp_neq_t, cmp_neq_f, cmp_lss_t, cmp_lss_f, cmp_leq_t, cmp_leq_f, cmp_gtr_t, cmp_gtr_f, cmp_geq_t, cmp_geq_f, Bool.not_eq_true', Bool.not_eq_false', Bool.and_eq_true, Bool.and_eq_false_iff, binDen, Option.some.injEq, EV.u.injEq, Nil.isNil, beq_self_eq_true, and_self, true_and, and_true, or_false, false_or, or_self, not_true_eq_false, not_false_eq_true, ne_eq, Bool.true_eq_false, Bool.false_eq_true, reduceCtorEq, h1, tz0, tz1, tz2, List.take_nil, List.nil_append, List.length_cons, List.cons_append, List.take_succ_cons, List.take_zero] <;> first | omega | assumption))
      | (with_reducible refine st_and ?_ ?_)
      | (with_reducible exact st_ok)
      | (with_reducible refine st_br (fun hc => ?_) (fun hc => ?_) <;> (simp only [Bx.den, Ex.den, Bnd.den, gI, gB, gL, gF, gN, gNil, List.map_cons, List.map_nil, List.cons_append, List.nil_append, List.getElem?_cons_zero, List.getElem?_cons_succ, List.getD, Option.getD_some, cmp_eql_t, cmp_eql_f, cmp_neq_t, cmp_neq_f, cmp_lss_t, cmp_lss_f, cmp_leq_t, cmp_leq_f, cmp_gtr_t, cmp_gtr_f, cmp_geq_t, cmp_geq_f, Bool.not_eq_true', Bool.not_eq_false', Bool.and_eq_true, Bool.and_eq_false_iff, binDen, Option.some.injEq, EV.u.injEq, Nil.isNil, beq_self_eq_true, and_self, true_and, and_true, or_false, false_or, or_self, not_true_eq_false, not_false_eq_true, ne_eq, Bool.true_eq_false, Bool.false_eq_true, reduceCtorEq, h1, tz0, tz1, tz2, List.take_nil, List.nil_append, List.length_cons, List.cons_append, List.take_succ_cons, List.take_zero] at hc) <;> (try (exfalso; first | contradiction | omega)))
      | (refine st_call (by rfl) (by simp only [Bx.den, Ex.den, Bnd.den, gI, gB, gL, gF, gN, gNil, List.map_cons, List.map_nil, List.cons_append, List.nil_append, List.getElem?_cons_zero, List.getElem?_cons_succ, List.getD, Option.getD_some, cmp_eql_t, cmp_eql_f, cmp_neq_t, cmp_neq_f, cmp_lss_t, cmp_lss_f, cmp_leq_t, cmp_leq_f, cmp_gtr_t, cmp_gtr_f, cmp_geq_t, cmp_geq_f, Bool.not_eq_true', Bool.not_eq_false', Bool.and_eq_true, Bool.and_eq_false_iff, binDen, Option.some.injEq, EV.u.injEq, Nil.isNil, beq_self_eq_true, and_self, true_and, and_true, or_false, false_or, or_self, not_true_eq_false, not_false_eq_true, ne_eq, Bool.true_eq_false, Bool.false_eq_true, reduceCtorEq, h1, tz0, tz1, tz2, List.take_nil, List.nil_append, List.length_cons, List.cons_append, List.take_succ_cons, List.take_zero] <;> rfl) ?_ (by simp only [out_words34 hl, out_idx, out_next, out_memAtW] <;> rfl) (by simp only [List.cons_append, List.nil_append] <;> rfl) ?_
         focus (first | exact ⟨_, rfl⟩ | exact ⟨_, _, rfl, by omega, by first | omega | exact hi _, h1, h2⟩ | exact ⟨_, _, _, _, rfl, by omega, by omega⟩)))
    | (refine st_rngT (fun LL env' he => ?_)
       simp only [List.cons_append, List.nil_append] at he
       subst he)
    | (refine st_appT (by rfl) (by simp only [Bx.den, Ex.den, Bnd.den, gI, gB, gL, gF, gN, gNil, List.map_cons, List.map_nil, List.cons_append, List.nil_append, List.getElem?_cons_zero, List.getElem?_cons_succ, List.getD, Option.getD_some, cmp_eql_t, cmp_eql_f, cmp_neq_t, cmp_neq_f, cmp_lss_t, cmp_lss_f, cmp_leq_t, cmp_leq_f, cmp_gtr_t, cmp_gtr_f, cmp_geq_t, cmp_geq_f, Bool.not_eq_true', Bool.not_eq_false', Bool.and_eq_true, Bool.and_eq_false_iff, binDen, Option.some.injEq, EV.u.injEq, Nil.isNil, beq_self_eq_true, and_self, true_and, and_true, or_false, false_or, or_self, not_true_eq_false, not_false_eq_true, ne_eq, Bool.true_eq_false, Bool.false_eq_true, reduceCtorEq, h1] <;> rfl) (by simp only [Bx.den, Ex.den, Bnd.den, gI, gB, gL, gF, gN, gNil, List.map_cons, List.map_nil, List.cons_append, List.nil_append, List.getElem?_cons_zero, List.getElem?_cons_succ, List.getD, Option.getD_some, cmp_eql_t, cmp_eql_f, cmp_neq_t, cmp_neq_f, cmp_lss_t, cmp_lss_f, cmp_leq_t, cmp_leq_f, cmp_gtr_t, cmp_gtr_f, cmp_geq_t, cmp_geq_f, Bool.not_eq_true', Bool.not_eq_false', Bool.and_eq_true, Bool.and_eq_false_iff, binDen, Option.some.injEq, EV.u.injEq, Nil.isNil, beq_self_eq_true, and_self, true_and, and_true, or_false, false_or, or_self, not_true_eq_false, not_false_eq_true, ne_eq, Bool.true_eq_false, Bool.false_eq_true, reduceCtorEq, h1] <;> rfl) (fun rr env' he => ?_)
       simp only [List.cons_append, List.nil_append] at he
       subst he)
    | (refine st_lst (by simp only [List.map_cons, List.map_nil, List.cons_append, List.nil_append] <;> rfl) ?_)
    | (refine st_ret (by simp only [Bx.den, Ex.den, Bnd.den, gI, gB, gL, gF, gN, gNil, List.map_cons, List.map_nil, List.cons_append, List.nil_append, List.getElem?_cons_zero, List.getElem?_cons_succ, List.getD, Option.getD_some, cmp_eql_t, cmp_eql_f, cmp_neq_t, cmp_neq_f, cmp_lss_t, cmp_lss_f, cmp_leq_t, cmp_leq_f, cmp_gtr_t, cmp_gtr_f, cmp_geq_t, cmp_geq_f, Bool.not_eq_true', Bool.not_eq_false', Bool.and_eq_true, Bool.and_eq_false_iff, binDen, Option.some.injEq, EV.u.injEq, Nil.isNil, beq_self_eq_true, and_self, true_and, and_true, or_false, false_or, or_self, not_true_eq_false, not_false_eq_true, ne_eq, Bool.true_eq_false, Bool.false_eq_true, reduceCtorEq, h1] <;> rfl) ?_
       focus (show ∃ c : List Int, _ = [EV.u (U.mem M), EV.l (levelL M.W l ++ c), EV.i ((levelL M.W l).length : Int), EV.i (((levelL M.W l).length + c.length : Nat) : Int)]
              simp only [levelL, levelE]
              repeat' split
              all_goals first
                | (exfalso; omega)
                | exact ⟨_, rfl⟩))
    | fail "no step")
set_option maxHeartbeats 4000000 in
theorem vLive (P : Program) (hs : List (Nat × Nat × List Nat)) : ∀ ins, ins.length = cLiveT.nin → cLiveT.pre ins → tLive.sat { cxTo P with hints := hs } (ctrR cLiveT) ins := by
  rintro ins _ ⟨M, rfl, hl⟩
  have h1 : True := trivial
  have hi := idxE_le
  unfold tLive
  repeat' (first
    | (first
      | (with_reducible refine st_need ?_ ?_
         focus (simp only [Bx.den, Ex.den, Bnd.den, gI, gB, gL, gF, gN, gNil, List.map_cons, List.map_nil, List.cons_append, List.nil_append, List.getElem?_cons_zero, List.getElem?_cons_succ, List.getD, Option.getD_some, cmp_eql_t, cmp_eql_f, cmp_neq_t, cmp_neq_f, cmp_lss_t, cmp_lss_f, cmp_leq_t, cmp_leq_f, cmp_gtr_t, cmp_gtr_f, cmp_geq_t, cmp_geq_f, Bool.not_eq_true', Bool.not_eq_false', Bool.and_eq_true, Bool.and_eq_false_iff, binDen, Option.some.injEq, EV.u.injEq, Nil.isNil, beq_self_eq_true, and_self, true_and, and_true, or_false, false_or, or_self, not_true_eq_false, not_false_eq_true, ne_eq, Bool.true_eq_false, Bool.false_eq_true, reduceCtorEq, h1, tz0, tz1, tz2, List.take_nil, List.nil_append, List.length_cons, List.cons_append, List.take_succ_cons, List.take_zero] <;> first | omega | assumption))
      | (with_reducible refine st_and ?_ ?_)
      | (with_reducible exact st_ok)
      | (with_reducible refine st_br (fun hc => ?_) (fun hc => ?_) <;> (simp only [Bx.den, Ex.den, Bnd.den, gI, gB, gL, gF, gN, gNil, List.map_cons, List.map_nil, List.cons_append, List.nil_append, List.getElem?_cons_zero, List.getElem?_cons_succ, List.getD, Option.getD_some, cmp_eql_t, cmp_eql_f, cmp_neq_t, cmp_neq_f, cmp_lss_t, cmp_lss_f, cmp_leq_t, cmp_leq_f, cmp_gtr_t, cmp_gtr_f, cmp_geq_t, cmp_geq_f, Bool.not_eq_true', Bool.not_eq_false', Bool.and_eq_true, Bool.and_eq_false_iff, binDen, Option.some.injEq, EV.u.injEq, Nil.isNil, beq_self_eq_true, and_self, true_and, and_true, or_false, false_or, or_self, not_true_eq_false, not_false_eq_true, ne_eq, Bool.true_eq_false, Bool.false_eq_true, reduceCtorEq, h1, tz0, tz1, tz2, List.take_nil, List.nil_append, List.length_cons, List.cons_append, List.take_succ_cons, List.take_zero] at hc) <;> (try (exfalso; first | contradiction | omega)))
      | (refine st_call (by rfl) (by simp only [Bx.den, Ex.den, Bnd.den, gI, gB, gL, gF, gN, gNil, List.map_cons, List.map_nil, List.cons_append, List.nil_append, List.getElem?_cons_zero, List.getElem?_cons_succ, List.getD, Option.getD_some, cmp_eql_t, cmp_eql_f, cmp_neq_t, cmp_neq_f, cmp_lss_t, cmp_lss_f, cmp_leq_t, cmp_leq_f, cmp_gtr_t, cmp_gtr_f, cmp_geq_t, cmp_geq_f, Bool.not_eq_true', Bool.not_eq_false', Bool.and_eq_true, Bool.and_eq_false_iff, binDen, Option.some.injEq, EV.u.injEq, Nil.isNil, beq_self_eq_true, and_self, true_and, and_true, or_false, false_or, or_self, not_true_eq_false, not_false_eq_true, ne_eq, Bool.true_eq_false, Bool.false_eq_true, reduceCtorEq, h1, tz0, tz1, tz2, List.take_nil, List.nil_append, List.length_cons, List.cons_append, List.take_succ_cons, List.take_zero] <;> rfl) ?_ (by simp only [out_words34 hl, out_idx, out_next, out_memAtW, out_marked] <;> rfl) (by simp only [List.cons_append, List.nil_append] <;> rfl) ?_
         focus (first | exact ⟨_, rfl⟩ | exact ⟨_, _, rfl, by omega, by first | omega | exact hi _, by omega, by omega⟩ | exact ⟨_, _, _, _, rfl, by omega, by omega⟩)))
    | (refine st_rngT (fun LL env' he => ?_)
       simp only [List.cons_append, List.nil_append] at he
       subst he)
    | (refine st_appT (by rfl) (by simp only [Bx.den, Ex.den, Bnd.den, gI, gB, gL, gF, gN, gNil, List.map_cons, List.map_nil, List.cons_append, List.nil_append, List.getElem?_cons_zero, List.getElem?_cons_succ, List.getD, Option.getD_some, cmp_eql_t, cmp_eql_f, cmp_neq_t, cmp_neq_f, cmp_lss_t, cmp_lss_f, cmp_leq_t, cmp_leq_f, cmp_gtr_t, cmp_gtr_f, cmp_geq_t, cmp_geq_f, Bool.not_eq_true', Bool.not_eq_false', Bool.and_eq_true, Bool.and_eq_false_iff, binDen, Option.some.injEq, EV.u.injEq, Nil.isNil, beq_self_eq_true, and_self, true_and, and_true, or_false, false_or, or_self, not_true_eq_false, not_false_eq_true, ne_eq, Bool.true_eq_false, Bool.false_eq_true, reduceCtorEq, h1] <;> rfl) (by simp only [Bx.den, Ex.den, Bnd.den, gI, gB, gL, gF, gN, gNil, List.map_cons, List.map_nil, List.cons_append, List.nil_append, List.getElem?_cons_zero, List.getElem?_cons_succ, List.getD, Option.getD_some, cmp_eql_t, cmp_eql_f, cmp_neq_t, cmp_neq_f, cmp_lss_t, cmp_lss_f, cmp_leq_t, cmp_leq_f, cmp_gtr_t, cmp_gtr_f, cmp_geq_t, cmp_geq_f, Bool.not_eq_true', Bool.not_eq_false', Bool.and_eq_true, Bool.and_eq_false_iff, binDen, Option.some.injEq, EV.u.injEq, Nil.isNil, beq_self_eq_true, and_self, true_and, and_true, or_false, false_or, or_self, not_true_eq_false, not_false_eq_true, ne_eq, Bool.true_eq_false, Bool.false_eq_true, reduceCtorEq, h1] <;> rfl) (fun rr env' he => ?_)
       simp only [List.cons_append, List.nil_append] at he
       subst he)
    | (refine st_lst (by simp only [List.map_cons, List.map_nil, List.cons_append, List.nil_append] <;> rfl) ?_)
    | (refine st_ret (by simp only [Bx.den, Ex.den, Bnd.den, gI, gB, gL, gF, gN, gNil, List.map_cons, List.map_nil, List.cons_append, List.nil_append, List.getElem?_cons_zero, List.getElem?_cons_succ, List.getD, Option.getD_some, cmp_eql_t, cmp_eql_f, cmp_neq_t, cmp_neq_f, cmp_lss_t, cmp_lss_f, cmp_leq_t, cmp_leq_f, cmp_gtr_t, cmp_gtr_f, cmp_geq_t, cmp_geq_f, Bool.not_eq_true', Bool.not_eq_false', Bool.and_eq_true, Bool.and_eq_false_iff, binDen, Option.some.injEq, EV.u.injEq, Nil.isNil, beq_self_eq_true, and_self, true_and, and_true, or_false, false_or, or_self, not_true_eq_false, not_false_eq_true, ne_eq, Bool.true_eq_false, Bool.false_eq_true, reduceCtorEq, h1] <;> rfl) ?_
       focus (show ∃ c : List Int, _ = [EV.u (U.mem M), EV.l (liveL M.W ++ c), EV.i ((liveL M.W).length : Int), EV.i (((liveL M.W).length + c.length : Nat) : Int)]
              simp only [liveL, liveE]
              repeat' split
              all_goals first
                | (exfalso; omega)
                | (exfalso; simp_all; done)
                | exact ⟨_, rfl⟩))
    | fail "no step")
theorem hLevel : cLevelT.Holds objs Try.prog := runCtr_holdsm (X := { cxTo Try.prog with hints := hsLevel }) (fuel := 40) (opens := []) (folds := []) objsOk mixed hctsTo (callable _ Try.func28 (by kernel_rfl) (by kernel_rfl)) (by rintro ins outs _ ⟨_, _, rfl, _⟩ ⟨c, rfl⟩; rfl) (by rw [rLevel]; exact vLevel _ _)
theorem hLive : cLiveT.Holds objs Try.prog := runCtr_holdsm (X := { cxTo Try.prog with hints := hsLive }) (fuel := 40) (opens := []) (folds := []) objsOk mixed hctsTo (callable _ Try.func29 (by kernel_rfl) (by kernel_rfl)) (by rintro ins outs _ ⟨_, rfl, _⟩ ⟨c, rfl⟩; rfl) (by rw [rLive]; exact vLive _ _)
end Go.Proofs.Ytbmbiiiacajolaa
