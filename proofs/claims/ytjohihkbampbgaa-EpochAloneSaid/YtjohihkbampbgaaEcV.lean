/- Epochs: the contracts hold. -/
import Derived.Test.YtjohihkbampbgaaEcT
namespace Go.Proofs.Ytjohihkbampbgaa
set_option linter.unusedVariables false
set_option linter.unusedSimpArgs false
set_option linter.unusedSectionVars false
open Go

theorem at0_in {M : MemSt} {x : Int} (h : 0 ≤ x) (h' : x < M.W.length) : M.at0 x = M.W[x.toNat]?.getD 0 := if_pos ⟨h, h'⟩
theorem at0_out {M : MemSt} {x : Int} (h : x < 0 ∨ M.W.length ≤ x) : M.at0 x = 0 := if_neg (by omega)
theorem wrap_u64' {n : Int} (h : 0 ≤ n) (h' : n < 18446744073709551616) : IntKind.u64.wrap n = n := by simp [IntKind.wrap, IntKind.signed, IntKind.bits]; omega
theorem u32_lo (x : Int) : 0 ≤ u32 x := by simp [u32, IntKind.wrap, IntKind.signed, IntKind.bits]; omega
theorem u32_hi (x : Int) : u32 x < 4294967296 := by simp [u32, IntKind.wrap, IntKind.signed, IntKind.bits]; omega
theorem wrap32_lo (x : Int) : 0 ≤ IntKind.u32.wrap x := u32_lo x
theorem wrap32_hi (x : Int) : IntKind.u32.wrap x < 4294967296 := u32_hi x
theorem wrap_u32 {n : Int} (h : 0 ≤ n) (h' : n < 4294967296) : IntKind.u32.wrap n = n := by simp [IntKind.wrap, IntKind.signed, IntKind.bits]; omega
theorem conv_i64 {x : Int} : IntKind.i64.wrap (IntKind.u32.wrap x) = IntKind.u32.wrap x := wrap_small (by have := u32_lo x; simp only [u32] at this; omega) (by have := u32_hi x; simp only [u32] at this; omega)
theorem conv_u64 {x : Int} : IntKind.u64.wrap (IntKind.u32.wrap x) = IntKind.u32.wrap x := wrap_u64' (by have := u32_lo x; simp only [u32] at this; omega) (by have := u32_hi x; simp only [u32] at this; omega)
set_option maxHeartbeats 1000000 in
theorem vEFits (P : Program) (hs : List (Nat × Nat × List Nat)) : ∀ ins, ins.length = cEFits.nin → cEFits.pre ins → tEFits.sat { cx P [] with hints := hs } (ctrR cEFits) ins := by
  rintro ins _ ⟨a, b, n, s, rfl⟩
  simp only [Tree.sat, Bx.den, Ex.den, Bnd.den, gI, gB, gL, gF, gN, gNil, List.map_cons, List.map_nil, List.cons_append, List.nil_append, List.getElem?_cons_zero, List.getElem?_cons_succ, List.getD, Option.getD_some, cmp_eql_t, cmp_eql_f, cmp_neq_t, cmp_neq_f, cmp_lss_t, cmp_lss_f, cmp_leq_t, cmp_leq_f, cmp_gtr_t, cmp_gtr_f, cmp_geq_t, cmp_geq_f, Bool.not_eq_true', Bool.not_eq_false', Bool.and_eq_true, Bool.and_eq_false_iff, binDen, ctrR, Ctr.may, List.take_succ_cons, List.take_zero, Option.some.injEq, EV.u.injEq, tEFits, cx, cEFits, fitsE, true_and, and_true, ne_eq, not_true_eq_false, not_false_eq_true, false_implies, true_implies, implies_true, List.append_assoc]
  repeat' (first | with_reducible apply And.intro | intro _)
  all_goals first
    | omega
    | (rw [if_pos (by omega)])
    | (rw [if_neg (by omega), if_pos (by omega)])
    | (rw [if_neg (by omega), if_neg (by omega)])
set_option maxHeartbeats 1000000 in
theorem bEFill (P : Program) (hs : List (Nat × Nat × List Nat)) : ∀ env, eFillInv env → tEFillL0.sat { cxEF P lEFill with hints := hs } (ctrR cEFill) env := by
  rintro env ⟨M, a, b, n, x0, x1, i, rfl, h1, h2, h3, h4⟩
  simp only [Tree.sat, Bx.den, Ex.den, Bnd.den, gI, gB, gL, gF, gN, gNil, List.map_cons, List.map_nil, List.cons_append, List.nil_append, List.getElem?_cons_zero, List.getElem?_cons_succ, List.getD, Option.getD_some, cmp_eql_t, cmp_eql_f, cmp_neq_t, cmp_neq_f, cmp_lss_t, cmp_lss_f, cmp_leq_t, cmp_leq_f, cmp_gtr_t, cmp_gtr_f, cmp_geq_t, cmp_geq_f, Bool.not_eq_true', Bool.not_eq_false', Bool.and_eq_true, Bool.and_eq_false_iff, binDen, ctrR, Ctr.may, List.take_succ_cons, List.take_zero, Option.some.injEq, EV.u.injEq, tEFillL0, cxEF, lEFill, cx, ctsM, cEFill, pre_store, out_store, true_and, and_true, ne_eq, not_true_eq_false, not_false_eq_true, false_implies, true_implies, implies_true, List.append_assoc]
  repeat' (first | with_reducible apply And.intro | intro _)
  all_goals first
    | omega
    | (rw [wrap_small (n := i + 1) (by omega) (by omega)]; exact ⟨M, a, b, n, _, _, i + 1, by rw [fillM_succ _ b i h1], by omega, by omega, h3, h4⟩)
    | (rw [wrap_small (n := i + 1) (by omega) (by omega)]; show (n - (i + 1)).toNat < (n - i).toNat; omega)
    | (have : i = n := by omega
       subst this
       rw [fillE, if_pos ⟨h3, h4⟩])
set_option maxHeartbeats 1000000 in
theorem vEFill (P : Program) (hs : List (Nat × Nat × List Nat)) : ∀ ins, ins.length = cEFill.nin → cEFill.pre ins → tEFill.sat { cxEF P lEFill with hints := hs } (ctrR cEFill) ins := by
  rintro ins _ ⟨M, a, b, n, rfl⟩
  simp only [Tree.sat, Bx.den, Ex.den, Bnd.den, gI, gB, gL, gF, gN, gNil, List.map_cons, List.map_nil, List.cons_append, List.nil_append, List.getElem?_cons_zero, List.getElem?_cons_succ, List.getD, Option.getD_some, cmp_eql_t, cmp_eql_f, cmp_neq_t, cmp_neq_f, cmp_lss_t, cmp_lss_f, cmp_leq_t, cmp_leq_f, cmp_gtr_t, cmp_gtr_f, cmp_geq_t, cmp_geq_f, Bool.not_eq_true', Bool.not_eq_false', Bool.and_eq_true, Bool.and_eq_false_iff, binDen, ctrR, Ctr.may, List.take_succ_cons, List.take_zero, Option.some.injEq, EV.u.injEq, tEFill, cxEF, lEFill, cx, ctsM, cEFill, pre_store, out_store, true_and, and_true, ne_eq, not_true_eq_false, not_false_eq_true, false_implies, true_implies, implies_true, List.append_assoc]
  repeat' (first | with_reducible apply And.intro | intro _)
  all_goals first
    | omega
    | (rw [fillE, if_neg (by omega)])
    | exact bEFill P hs _ (by assumption)
    | exact ⟨M, a, b, n, _, _, 0, rfl, by omega, by omega, by omega, by omega⟩
set_option maxHeartbeats 1000000 in
theorem vEFillNil (P : Program) (hs : List (Nat × Nat × List Nat)) : ∀ ins, ins.length = cEFillNil.nin → cEFillNil.pre ins → tEFillNil.sat { cxEF P lEFillNil with hints := hs } (ctrR cEFillNil) ins := by
  have hb : ∀ env, eFillNilInv env → tEFillNilL0.sat { cxEF P lEFillNil with hints := hs } (ctrR cEFillNil) env := by
    rintro env ⟨a, b, n, x0, i, rfl, h1, h2, h3, h4⟩
    simp only [Tree.sat, Bx.den, Ex.den, Bnd.den, gI, gB, gL, gF, gN, gNil, List.map_cons, List.map_nil, List.cons_append, List.nil_append, List.getElem?_cons_zero, List.getElem?_cons_succ, List.getD, Option.getD_some, cmp_eql_t, cmp_eql_f, cmp_neq_t, cmp_neq_f, cmp_lss_t, cmp_lss_f, cmp_leq_t, cmp_leq_f, cmp_gtr_t, cmp_gtr_f, cmp_geq_t, cmp_geq_f, Bool.not_eq_true', Bool.not_eq_false', Bool.and_eq_true, Bool.and_eq_false_iff, binDen, ctrR, Ctr.may, List.take_succ_cons, List.take_zero, Option.some.injEq, EV.u.injEq, tEFillNilL0, cxEF, lEFillNil, cx, cEFillNil, true_and, and_true, ne_eq, not_true_eq_false, not_false_eq_true, false_implies, true_implies, implies_true, List.append_assoc]
    repeat' (first | with_reducible apply And.intro | intro _)
    all_goals first
      | omega
      | (rw [wrap_small (n := i + 1) (by omega) (by omega)]; exact ⟨a, b, n, _, i + 1, rfl, by omega, by omega, h3, h4⟩)
      | (rw [wrap_small (n := i + 1) (by omega) (by omega)]; show (n - (i + 1)).toNat < (n - i).toNat; omega)
  rintro ins _ ⟨a, b, n, rfl⟩
  simp only [Tree.sat, Bx.den, Ex.den, Bnd.den, gI, gB, gL, gF, gN, gNil, List.map_cons, List.map_nil, List.cons_append, List.nil_append, List.getElem?_cons_zero, List.getElem?_cons_succ, List.getD, Option.getD_some, cmp_eql_t, cmp_eql_f, cmp_neq_t, cmp_neq_f, cmp_lss_t, cmp_lss_f, cmp_leq_t, cmp_leq_f, cmp_gtr_t, cmp_gtr_f, cmp_geq_t, cmp_geq_f, Bool.not_eq_true', Bool.not_eq_false', Bool.and_eq_true, Bool.and_eq_false_iff, binDen, ctrR, Ctr.may, List.take_succ_cons, List.take_zero, Option.some.injEq, EV.u.injEq, tEFillNil, cxEF, lEFillNil, cx, ctsM, cEFillNil, true_and, and_true, ne_eq, not_true_eq_false, not_false_eq_true, false_implies, true_implies, implies_true, List.append_assoc]
  repeat' (first | with_reducible apply And.intro | intro _)
  all_goals first
    | omega
    | exact hb _ (by assumption)
    | exact ⟨a, b, n, _, 0, rfl, by omega, by omega, by omega, by omega⟩
set_option maxHeartbeats 1000000 in
theorem vENow (P : Program) (hs : List (Nat × Nat × List Nat)) : ∀ ins, ins.length = cENow.nin → cENow.pre ins → tENow.sat { cx P ctsM with hints := hs } (ctrR cENow) ins := by
  rintro ins _ ⟨M, a, b, n, rfl⟩
  simp only [Tree.sat, Bx.den, Ex.den, Bnd.den, gI, gB, gL, gF, gN, gNil, List.map_cons, List.map_nil, List.cons_append, List.nil_append, List.getElem?_cons_zero, List.getElem?_cons_succ, List.getD, Option.getD_some, cmp_eql_t, cmp_eql_f, cmp_neq_t, cmp_neq_f, cmp_lss_t, cmp_lss_f, cmp_leq_t, cmp_leq_f, cmp_gtr_t, cmp_gtr_f, cmp_geq_t, cmp_geq_f, Bool.not_eq_true', Bool.not_eq_false', Bool.and_eq_true, Bool.and_eq_false_iff, binDen, ctrR, Ctr.may, List.take_succ_cons, List.take_zero, Option.some.injEq, EV.u.injEq, tENow, cx, ctsM, cENow, pre_words, out_words, true_and, and_true, ne_eq, not_true_eq_false, not_false_eq_true, false_implies, true_implies, implies_true, List.append_assoc]
  repeat' (first | with_reducible apply And.intro | intro _)
  all_goals first
    | omega
    | (rw [at0_out (by omega)]; rfl)
    | (rw [at0_in (by omega) (by omega), conv_i64]; rfl)
theorem pinned_succ (M : MemSt) (b : Int) (n : Nat) : pinnedL M b (n + 1) = pinnedL M b n ++ [pinAt M b n] := by simp [pinnedL, List.range_succ]
theorem pinned_len (M : MemSt) (b : Int) (n : Nat) : (pinnedL M b n).length = n := by simp [pinnedL]
theorem toNat_succ {i : Int} (h : 0 ≤ i) : (i + 1).toNat = i.toNat + 1 := by omega
theorem take_app {xs ys r : List Int} {i : Nat} {x : Int} (h : xs.take i = ys) (hi : i ≤ xs.length) : (xs.take i ++ x :: r).take (i + 1) = ys ++ [x] := by
  rw [h, List.take_append]
  have : ys.length = i := by rw [← h, List.length_take]; omega
  rw [List.take_of_length_le (by omega), this, Nat.add_sub_cancel_left]
  rfl
theorem split_at {xs ys : List Int} {i : Nat} (h : xs.take i = ys) : ∃ c, xs = ys ++ c := ⟨xs.drop i, by rw [← h, List.take_append_drop]⟩
theorem len_app {xs r : List Int} {x : Int} {i : Nat} (h : i ≤ xs.length) : (xs.take i ++ x :: r).length = i + 1 + r.length := by simp; omega
set_option maxHeartbeats 2000000 in
theorem bEPinned (P : Program) (hs : List (Nat × Nat × List Nat)) : ∀ env, ePinnedInv env → tEPinnedL0.sat { cxEF P lEPinned with hints := hs } (ctrR cEPinned) env := by
  rintro env ⟨M, a, b, n, x3, i, xs, c, rfl, h1, h2, h3, h4, h5, h6, h7⟩
  have hnext : i < n → ∀ (r : List Int) (x : Int), x = pinAt M b i.toNat → ePinnedInv [.u (.mem M), .i a, .i b, .i n, .u (.mem M), .l M.W, .i M.W.length, x3, .i (IntKind.i64.wrap (i + 1)), .l (xs.take i.toNat ++ x :: r), .i ((i.toNat + 1 + r.length : Nat) : Int)] := by
    intro hi r x hx
    rw [wrap_small (n := i + 1) (by omega) (by omega)]
    refine ⟨M, a, b, n, x3, i + 1, _, _, rfl, by omega, by omega, h3, h4, by rw [len_app (by omega)], by omega, ?_⟩
    rw [toNat_succ h1, take_app h7 (by omega), pinned_succ, hx]
  have hpa : pinAt M b i.toNat = if M.at0 (IntKind.i64.wrap (b + i)) = 0 then -1 else u32 (IntKind.u64.wrap (M.at0 (IntKind.i64.wrap (b + i)) - 1)) := by
    unfold pinAt; rw [show ((i.toNat : Nat) : Int) = i from by omega]
  simp only [Tree.sat, Bx.den, Ex.den, Bnd.den, gI, gB, gL, gF, gN, gNil, List.map_cons, List.map_nil, List.cons_append, List.nil_append, List.getElem?_cons_zero, List.getElem?_cons_succ, List.getD, Option.getD_some, cmp_eql_t, cmp_eql_f, cmp_neq_t, cmp_neq_f, cmp_lss_t, cmp_lss_f, cmp_leq_t, cmp_leq_f, cmp_gtr_t, cmp_gtr_f, cmp_geq_t, cmp_geq_f, Bool.not_eq_true', Bool.not_eq_false', Bool.and_eq_true, Bool.and_eq_false_iff, binDen, ctrR, Ctr.may, List.take_succ_cons, List.take_zero, Option.some.injEq, EV.u.injEq, tEPinnedL0, cxEF, lEPinned, cx, ctsM, cEPinned, true_and, and_true, ne_eq, not_true_eq_false, not_false_eq_true, false_implies, true_implies, implies_true, List.append_assoc]
  repeat' (first | with_reducible apply And.intro | intro _)
  all_goals first
    | omega
    | (refine hnext (by omega) _ _ ?_; rw [hpa, if_pos (at0_out (by omega))]; done)
    | (refine hnext (by omega) _ _ ?_; rw [hpa, at0_in (by omega) (by omega), if_pos (by assumption)]; done)
    | (refine hnext (by omega) _ _ ?_; rw [hpa, at0_in (by omega) (by omega), if_neg (by assumption), conv_i64]; rfl)
    | (rw [wrap_small (n := i + 1) (by omega) (by omega)]; show (n - (i + 1)).toNat < (n - i).toNat; omega)
    | (have : i = n := by omega
       subst this
       obtain ⟨r, hr⟩ := split_at h7
       have e : manyE i = i.toNat := if_pos ⟨h3, h4⟩
       refine ⟨r, ?_⟩
       have hl : c = ((i.toNat + r.length : Nat) : Int) := by rw [h5, hr, List.length_append, pinned_len]
       rw [e, ← hr, hl, show ((i.toNat : Nat) : Int) = i from by omega])
theorem manyE_0 {n : Int} (h : n < 1 ∨ 64 < n) : manyE n = 0 := if_neg (by omega)
set_option maxHeartbeats 1000000 in
theorem vEPinned (P : Program) (hs : List (Nat × Nat × List Nat)) : ∀ ins, ins.length = cEPinned.nin → cEPinned.pre ins → tEPinned.sat { cxEF P lEPinned with hints := hs } (ctrR cEPinned) ins := by
  rintro ins _ ⟨M, a, b, n, rfl⟩
  simp only [Tree.sat, Bx.den, Ex.den, Bnd.den, gI, gB, gL, gF, gN, gNil, List.map_cons, List.map_nil, List.cons_append, List.nil_append, List.getElem?_cons_zero, List.getElem?_cons_succ, List.getD, Option.getD_some, cmp_eql_t, cmp_eql_f, cmp_neq_t, cmp_neq_f, cmp_lss_t, cmp_lss_f, cmp_leq_t, cmp_leq_f, cmp_gtr_t, cmp_gtr_f, cmp_geq_t, cmp_geq_f, Bool.not_eq_true', Bool.not_eq_false', Bool.and_eq_true, Bool.and_eq_false_iff, binDen, ctrR, Ctr.may, List.take_succ_cons, List.take_zero, Option.some.injEq, EV.u.injEq, tEPinned, cxEF, lEPinned, cx, ctsM, cEPinned, pre_words, out_words, true_and, and_true, ne_eq, not_true_eq_false, not_false_eq_true, false_implies, true_implies, implies_true, List.append_assoc]
  repeat' (first | with_reducible apply And.intro | intro _)
  all_goals first
    | omega
    | exact ⟨[], by rw [manyE_0 (by omega)]; rfl⟩
    | exact bEPinned P hs _ (by assumption)
    | exact ⟨M, a, b, n, _, 0, [], 0, rfl, by omega, by omega, by omega, by omega, rfl, by omega, rfl⟩
set_option maxHeartbeats 2000000 in
theorem bEPinnedNil (P : Program) (hs : List (Nat × Nat × List Nat)) : ∀ env, ePinnedNilInv env → tEPinnedNilL0.sat { cxEF P lEPinnedNil with hints := hs } (ctrR cEPinnedNil) env := by
  rintro env ⟨a, b, n, x3, i, xs, c, rfl, h1, h2, h3, h4, h5, h6, h7⟩
  have hnext : i < n → ∀ (r : List Int), ePinnedNilInv [.i a, .i b, .i n, x3, .i (IntKind.i64.wrap (i + 1)), .l (xs.take i.toNat ++ -1 :: r), .i ((i.toNat + 1 + r.length : Nat) : Int)] := by
    intro hi r
    rw [wrap_small (n := i + 1) (by omega) (by omega)]
    refine ⟨a, b, n, x3, i + 1, _, _, rfl, by omega, by omega, h3, h4, by rw [len_app (by omega)], by omega, ?_⟩
    rw [toNat_succ h1, take_app h7 (by omega), List.replicate_succ']
  simp only [Tree.sat, Bx.den, Ex.den, Bnd.den, gI, gB, gL, gF, gN, gNil, List.map_cons, List.map_nil, List.cons_append, List.nil_append, List.getElem?_cons_zero, List.getElem?_cons_succ, List.getD, Option.getD_some, cmp_eql_t, cmp_eql_f, cmp_neq_t, cmp_neq_f, cmp_lss_t, cmp_lss_f, cmp_leq_t, cmp_leq_f, cmp_gtr_t, cmp_gtr_f, cmp_geq_t, cmp_geq_f, Bool.not_eq_true', Bool.not_eq_false', Bool.and_eq_true, Bool.and_eq_false_iff, binDen, ctrR, Ctr.may, List.take_succ_cons, List.take_zero, Option.some.injEq, EV.u.injEq, tEPinnedNilL0, cxEF, lEPinnedNil, cx, ctsM, cEPinnedNil, true_and, and_true, ne_eq, not_true_eq_false, not_false_eq_true, false_implies, true_implies, implies_true, List.append_assoc]
  repeat' (first | with_reducible apply And.intro | intro _)
  all_goals first
    | omega
    | exact hnext (by omega) _
    | (rw [wrap_small (n := i + 1) (by omega) (by omega)]; show (n - (i + 1)).toNat < (n - i).toNat; omega)
    | (have : i = n := by omega
       subst this
       obtain ⟨r, hr⟩ := split_at h7
       have e : manyE i = i.toNat := if_pos ⟨h3, h4⟩
       refine ⟨r, ?_⟩
       have hl : c = ((i.toNat + r.length : Nat) : Int) := by rw [h5, hr, List.length_append, List.length_replicate]
       rw [e, ← hr, hl, show ((i.toNat : Nat) : Int) = i from by omega])
set_option maxHeartbeats 1000000 in
theorem vEPinnedNil (P : Program) (hs : List (Nat × Nat × List Nat)) : ∀ ins, ins.length = cEPinnedNil.nin → cEPinnedNil.pre ins → tEPinnedNil.sat { cxEF P lEPinnedNil with hints := hs } (ctrR cEPinnedNil) ins := by
  rintro ins _ ⟨a, b, n, rfl⟩
  simp only [Tree.sat, Bx.den, Ex.den, Bnd.den, gI, gB, gL, gF, gN, gNil, List.map_cons, List.map_nil, List.cons_append, List.nil_append, List.getElem?_cons_zero, List.getElem?_cons_succ, List.getD, Option.getD_some, cmp_eql_t, cmp_eql_f, cmp_neq_t, cmp_neq_f, cmp_lss_t, cmp_lss_f, cmp_leq_t, cmp_leq_f, cmp_gtr_t, cmp_gtr_f, cmp_geq_t, cmp_geq_f, Bool.not_eq_true', Bool.not_eq_false', Bool.and_eq_true, Bool.and_eq_false_iff, binDen, ctrR, Ctr.may, List.take_succ_cons, List.take_zero, Option.some.injEq, EV.u.injEq, tEPinnedNil, cxEF, lEPinnedNil, cx, ctsM, cEPinnedNil, true_and, and_true, ne_eq, not_true_eq_false, not_false_eq_true, false_implies, true_implies, implies_true, List.append_assoc]
  repeat' (first | with_reducible apply And.intro | intro _)
  all_goals first
    | omega
    | exact ⟨[], by rw [manyE_0 (by omega)]; rfl⟩
    | exact bEPinnedNil P hs _ (by assumption)
    | exact ⟨a, b, n, _, 0, [], 0, rfl, by omega, by omega, by omega, by omega, rfl, by omega, rfl⟩
theorem turn_case (f c : Int) : f = c ∧ turnTo f c = f + 1 ∨ f ≠ c ∧ turnTo f c = f := by
  unfold turnTo
  by_cases h : f = c
  · exact .inl ⟨h, if_pos h⟩
  · exact .inr ⟨h, if_neg h⟩
set_option maxHeartbeats 1000000 in
theorem vTurn (P : Program) (hs : List (Nat × Nat × List Nat)) : ∀ ins, ins.length = cTurn.nin → cTurn.pre ins → tTurn.sat { cxEF P lTurn with hints := hs } (ctrR cTurn) ins := by
  have hb : ∀ env, turnInv env → tTurnL0.sat { cxEF P lTurn with hints := hs } (ctrR cTurn) env := by
    rintro env ⟨l, e, a, b, n, c, p, w, k, f, x, i, rfl, h1, h2, h3, h4, h5⟩
    have ht := turn_case f c
    simp only [Tree.sat, Bx.den, Ex.den, Bnd.den, gI, gB, gL, gF, gN, gNil, List.map_cons, List.map_nil, List.cons_append, List.nil_append, List.getElem?_cons_zero, List.getElem?_cons_succ, List.getD, Option.getD_some, cmp_eql_t, cmp_eql_f, cmp_neq_t, cmp_neq_f, cmp_lss_t, cmp_lss_f, cmp_leq_t, cmp_leq_f, cmp_gtr_t, cmp_gtr_f, cmp_geq_t, cmp_geq_f, Bool.not_eq_true', Bool.not_eq_false', Bool.and_eq_true, Bool.and_eq_false_iff, binDen, ctrR, Ctr.may, List.take_succ_cons, List.take_zero, Option.some.injEq, EV.u.injEq, tTurnL0, cxEF, lTurn, cx, cTurn, true_and, and_true, ne_eq, not_true_eq_false, not_false_eq_true, false_implies, true_implies, implies_true, List.append_assoc]
    repeat' (first | with_reducible apply And.intro | intro _)
    all_goals first
      | omega
      | (rw [wrap_small (n := i + 1) (by omega) (by omega)]; exact ⟨l, e, a, b, n, c, p, w, k, f, x, i + 1, rfl, h1, h2, by omega, by omega, by omega⟩)
      | (rw [wrap_small (n := i + 1) (by omega) (by omega)]; show (n - (i + 1)).toNat < (n - i).toNat; omega)
      | (rw [show turnTo f c = i by omega, if_pos (by omega), if_pos (by omega)])
      | (rw [if_neg (by omega), if_neg (by omega)])
  rintro ins _ ⟨l, e, a, b, n, c, p, w, k, f, rfl, h, hn⟩
  simp only [Tree.sat, Bx.den, Ex.den, Bnd.den, gI, gB, gL, gF, gN, gNil, List.map_cons, List.map_nil, List.cons_append, List.nil_append, List.getElem?_cons_zero, List.getElem?_cons_succ, List.getD, Option.getD_some, cmp_eql_t, cmp_eql_f, cmp_neq_t, cmp_neq_f, cmp_lss_t, cmp_lss_f, cmp_leq_t, cmp_leq_f, cmp_gtr_t, cmp_gtr_f, cmp_geq_t, cmp_geq_f, Bool.not_eq_true', Bool.not_eq_false', Bool.and_eq_true, Bool.and_eq_false_iff, binDen, ctrR, Ctr.may, List.take_succ_cons, List.take_zero, Option.some.injEq, EV.u.injEq, tTurn, cxEF, lTurn, cx, ctsM, cTurn, true_and, and_true, ne_eq, not_true_eq_false, not_false_eq_true, false_implies, true_implies, implies_true, List.append_assoc]
  repeat' (first | with_reducible apply And.intro | intro _)
  all_goals first
    | omega
    | exact hb _ (by assumption)
    | exact ⟨l, e, a, b, n, c, p, w, k, f, _, 0, rfl, by omega, by omega, by omega, by omega, by have ht := turn_case f c; omega⟩

theorem nomore_epin {M : EPinSt} : ∀ (t : Nat) (T : ObjT U) (ps : List (EV U)), objs[t]? = some T → t ∉ [11, 12] → ps.length = T.nv → T.ok ps → some (EV.u (U.epin M)) ≠ some (EV.u (T.obj ps)) :=
  nomore_kind (by show ∀ t, t < 26 → t ∉ [11, 12] → kinds.getD t 0 ≠ 10; decide)
theorem nomore_eunp {M : EUnpSt} : ∀ (t : Nat) (T : ObjT U) (ps : List (EV U)), objs[t]? = some T → t ∉ [16, 17] → ps.length = T.nv → T.ok ps → some (EV.u (U.eunp M)) ≠ some (EV.u (T.obj ps)) :=
  nomore_kind (by show ∀ t, t < 26 → t ∉ [16, 17] → kinds.getD t 0 ≠ 14; decide)
theorem nomore_eadv {M : EAdvSt} : ∀ (t : Nat) (T : ObjT U) (ps : List (EV U)), objs[t]? = some T → t ∉ [21, 22] → ps.length = T.nv → T.ok ps → some (EV.u (U.eadv M)) ≠ some (EV.u (T.obj ps)) :=
  nomore_kind (by show ∀ t, t < 26 → t ∉ [21, 22] → kinds.getD t 0 ≠ 18; decide)
set_option maxHeartbeats 1000000 in
theorem vENewPin (P : Program) (hs : List (Nat × Nat × List Nat)) : ∀ ins, ins.length = cENewPin.nin → cENewPin.pre ins → tENewPin.sat { cx P [] with hints := hs } (ctrR cENewPin) ins := by
  rintro ins _ ⟨a, b, n, c, rfl⟩
  simp only [Tree.sat, Bx.den, Ex.den, Bnd.den, gI, gB, gL, gF, gN, gNil, List.map_cons, List.map_nil, List.cons_append, List.nil_append, List.getElem?_cons_zero, List.getElem?_cons_succ, List.getD, Option.getD_some, cmp_eql_t, cmp_eql_f, cmp_neq_t, cmp_neq_f, cmp_lss_t, cmp_lss_f, cmp_leq_t, cmp_leq_f, cmp_gtr_t, cmp_gtr_f, cmp_geq_t, cmp_geq_f, Bool.not_eq_true', Bool.not_eq_false', Bool.and_eq_true, Bool.and_eq_false_iff, binDen, ctrR, Ctr.may, List.take_succ_cons, List.take_zero, Option.some.injEq, EV.u.injEq, tENewPin, cx, objs, epinT, epinBadT, epinObj, epinBadObj, epinOk, ok3, cENewPin, newEP, true_and, and_true, ne_eq, not_true_eq_false, not_false_eq_true, false_implies, true_implies, implies_true, List.append_assoc]
  repeat' (first | with_reducible apply And.intro | intro _)
  all_goals first
    | exact ⟨_, _, _, rfl⟩
    | exact ⟨_, _, _, _, _, _, _, rfl, by omega, by omega, by omega⟩
    | (rw [if_pos (by omega)])
    | (rw [if_neg (by omega)])
set_option maxHeartbeats 2000000 in
theorem vEPinStep (P : Program) (hs : List (Nat × Nat × List Nat)) : ∀ ins, ins.length = cEPinStep.nin → cEPinStep.pre ins → tEPinStep.sat { cx P ctsM with hints := hs } (ctrR cEPinStep) ins := by
  rintro ins _ ⟨p, M, rfl, hp⟩
  simp only [Tree.sat, Bx.den, Ex.den, Bnd.den, gI, gB, gL, gF, gN, gNil, List.map_cons, List.map_nil, List.cons_append, List.nil_append, List.getElem?_cons_zero, List.getElem?_cons_succ, List.getD, Option.getD_some, cmp_eql_t, cmp_eql_f, cmp_neq_t, cmp_neq_f, cmp_lss_t, cmp_lss_f, cmp_leq_t, cmp_leq_f, cmp_gtr_t, cmp_gtr_f, cmp_geq_t, cmp_geq_f, Bool.not_eq_true', Bool.not_eq_false', Bool.and_eq_true, Bool.and_eq_false_iff, binDen, ctrR, Ctr.may, List.take_succ_cons, List.take_zero, Option.some.injEq, EV.u.injEq, tEPinStep, cx, ctsM, objs]
  refine ⟨?_, ?_, nomore_epin⟩
  · rintro ps hl ⟨l, e, a, b, n, q, w, rfl, hl, hw1, hw2⟩ he
    injection he with he; subst he
    simp only [Tree.sat, Bx.den, Ex.den, Bnd.den, gI, gB, gL, gF, gN, gNil, List.map_cons, List.map_nil, List.cons_append, List.nil_append, List.getElem?_cons_zero, List.getElem?_cons_succ, List.getD, Option.getD_some, cmp_eql_t, cmp_eql_f, cmp_neq_t, cmp_neq_f, cmp_lss_t, cmp_lss_f, cmp_leq_t, cmp_leq_f, cmp_gtr_t, cmp_gtr_f, cmp_geq_t, cmp_geq_f, Bool.not_eq_true', Bool.not_eq_false', Bool.and_eq_true, Bool.and_eq_false_iff, binDen, ctrR, Ctr.may, List.take_succ_cons, List.take_zero, Option.some.injEq, EV.u.injEq, epinT, epinBadT, epinObj, epinOk, cEPinStep, stepEP, pre_load, out_load, pre_store, out_store, conv_u64, u32, true_and, and_true, ne_eq, not_true_eq_false, not_false_eq_true, false_implies, true_implies, implies_true, List.append_assoc]
    rw [wrap_u64' (n := w) (by omega) (by omega), wrap_u64' (n := w + 1) (by omega) (by omega)]
    repeat' (first | with_reducible apply And.intro | intro _)
    all_goals first
      | omega
      | exact ⟨_, _, _, _, _, _, _, rfl, by omega, by omega, by omega⟩
      | exact ⟨_, _, _, _, _, _, _, rfl, by omega, wrap32_lo _, wrap32_hi _⟩
      | (simp [*]; done)
      | (simp [*]; omega)
      | grind
  · rintro ps hl ⟨a, b, n, rfl⟩ he
    injection he with he; subst he
    simp only [Tree.sat, Bx.den, Ex.den, Bnd.den, gI, gB, gL, gF, gN, gNil, List.map_cons, List.map_nil, List.cons_append, List.nil_append, List.getElem?_cons_zero, List.getElem?_cons_succ, List.getD, Option.getD_some, cmp_eql_t, cmp_eql_f, cmp_neq_t, cmp_neq_f, cmp_lss_t, cmp_lss_f, cmp_leq_t, cmp_leq_f, cmp_gtr_t, cmp_gtr_f, cmp_geq_t, cmp_geq_f, Bool.not_eq_true', Bool.not_eq_false', Bool.and_eq_true, Bool.and_eq_false_iff, binDen, ctrR, Ctr.may, List.take_succ_cons, List.take_zero, Option.some.injEq, EV.u.injEq, epinT, epinBadT, epinBadObj, ok3, cEPinStep, stepEP, true_and, and_true, ne_eq, not_true_eq_false, not_false_eq_true, false_implies, true_implies, implies_true, List.append_assoc]
    exact ⟨⟨_, _, _, rfl⟩, by simp⟩
set_option maxHeartbeats 1000000 in
theorem vEPinAt (P : Program) (hs : List (Nat × Nat × List Nat)) : ∀ ins, ins.length = cEPinAt.nin → cEPinAt.pre ins → tEPinAt.sat { cx P [] with hints := hs } (ctrR cEPinAt) ins := by
  rintro ins _ ⟨p, rfl, hp⟩
  simp only [Tree.sat, Bx.den, Ex.den, Bnd.den, gI, gB, gL, gF, gN, gNil, List.map_cons, List.map_nil, List.cons_append, List.nil_append, List.getElem?_cons_zero, List.getElem?_cons_succ, List.getD, Option.getD_some, cmp_eql_t, cmp_eql_f, cmp_neq_t, cmp_neq_f, cmp_lss_t, cmp_lss_f, cmp_leq_t, cmp_leq_f, cmp_gtr_t, cmp_gtr_f, cmp_geq_t, cmp_geq_f, Bool.not_eq_true', Bool.not_eq_false', Bool.and_eq_true, Bool.and_eq_false_iff, binDen, ctrR, Ctr.may, List.take_succ_cons, List.take_zero, Option.some.injEq, EV.u.injEq, tEPinAt, cx, objs]
  refine ⟨?_, ?_, nomore_epin⟩
  · rintro ps hl ⟨l, e, a, b, n, q, w, rfl, hl, hw1, hw2⟩ he
    injection he with he; subst he
    simp only [Tree.sat, Bx.den, Ex.den, Bnd.den, gI, gB, gL, gF, gN, gNil, List.map_cons, List.map_nil, List.cons_append, List.nil_append, List.getElem?_cons_zero, List.getElem?_cons_succ, List.getD, Option.getD_some, cmp_eql_t, cmp_eql_f, cmp_neq_t, cmp_neq_f, cmp_lss_t, cmp_lss_f, cmp_leq_t, cmp_leq_f, cmp_gtr_t, cmp_gtr_f, cmp_geq_t, cmp_geq_f, Bool.not_eq_true', Bool.not_eq_false', Bool.and_eq_true, Bool.and_eq_false_iff, binDen, ctrR, Ctr.may, List.take_succ_cons, List.take_zero, Option.some.injEq, EV.u.injEq, epinT, epinObj, epinOk, cEPinAt, atEP, true_and, and_true, ne_eq, not_true_eq_false, not_false_eq_true, false_implies, true_implies, implies_true, List.append_assoc]
    repeat' (first | with_reducible apply And.intro | intro _)
    all_goals first
      | omega
      | exact ⟨_, _, _, _, _, _, _, rfl, by omega, by omega, by omega⟩
      | (rw [wrap_small (n := w) (by omega) (by omega)]; simp [*]; done)
      | (simp [*]; done)
      | grind
  · rintro ps hl ⟨a, b, n, rfl⟩ he
    injection he with he; subst he
    simp only [Tree.sat, Bx.den, Ex.den, Bnd.den, gI, gB, gL, gF, gN, gNil, List.map_cons, List.map_nil, List.cons_append, List.nil_append, List.getElem?_cons_zero, List.getElem?_cons_succ, List.getD, Option.getD_some, cmp_eql_t, cmp_eql_f, cmp_neq_t, cmp_neq_f, cmp_lss_t, cmp_lss_f, cmp_leq_t, cmp_leq_f, cmp_gtr_t, cmp_gtr_f, cmp_geq_t, cmp_geq_f, Bool.not_eq_true', Bool.not_eq_false', Bool.and_eq_true, Bool.and_eq_false_iff, binDen, ctrR, Ctr.may, List.take_succ_cons, List.take_zero, Option.some.injEq, EV.u.injEq, epinBadT, epinBadObj, ok3, cEPinAt, atEP, true_and, and_true, ne_eq, not_true_eq_false, not_false_eq_true, false_implies, true_implies, implies_true, List.append_assoc]
    exact ⟨⟨_, _, _, rfl⟩, by simp⟩
set_option maxHeartbeats 1000000 in
theorem vENewUnp (P : Program) (hs : List (Nat × Nat × List Nat)) : ∀ ins, ins.length = cENewUnp.nin → cENewUnp.pre ins → tENewUnp.sat { cx P [] with hints := hs } (ctrR cENewUnp) ins := by
  rintro ins _ ⟨a, b, n, c, rfl⟩
  simp only [Tree.sat, Bx.den, Ex.den, Bnd.den, gI, gB, gL, gF, gN, gNil, List.map_cons, List.map_nil, List.cons_append, List.nil_append, List.getElem?_cons_zero, List.getElem?_cons_succ, List.getD, Option.getD_some, cmp_eql_t, cmp_eql_f, cmp_neq_t, cmp_neq_f, cmp_lss_t, cmp_lss_f, cmp_leq_t, cmp_leq_f, cmp_gtr_t, cmp_gtr_f, cmp_geq_t, cmp_geq_f, Bool.not_eq_true', Bool.not_eq_false', Bool.and_eq_true, Bool.and_eq_false_iff, binDen, ctrR, Ctr.may, List.take_succ_cons, List.take_zero, Option.some.injEq, EV.u.injEq, tENewUnp, cx, objs, eunpT, eunpBadT, eunpObj, eunpBadObj, eunpOk, ok1, cENewUnp, newEU, true_and, and_true, ne_eq, not_true_eq_false, not_false_eq_true, false_implies, true_implies, implies_true, List.append_assoc]
  repeat' (first | with_reducible apply And.intro | intro _)
  all_goals first
    | exact ⟨_, rfl⟩
    | exact ⟨_, _, _, rfl, by omega⟩
    | (rw [if_pos (by omega)])
    | (rw [if_neg (by omega)])
set_option maxHeartbeats 2000000 in
theorem vEUnpStep (P : Program) (hs : List (Nat × Nat × List Nat)) : ∀ ins, ins.length = cEUnpStep.nin → cEUnpStep.pre ins → tEUnpStep.sat { cx P ctsM with hints := hs } (ctrR cEUnpStep) ins := by
  rintro ins _ ⟨p, M, rfl, hp⟩
  simp only [Tree.sat, Bx.den, Ex.den, Bnd.den, gI, gB, gL, gF, gN, gNil, List.map_cons, List.map_nil, List.cons_append, List.nil_append, List.getElem?_cons_zero, List.getElem?_cons_succ, List.getD, Option.getD_some, cmp_eql_t, cmp_eql_f, cmp_neq_t, cmp_neq_f, cmp_lss_t, cmp_lss_f, cmp_leq_t, cmp_leq_f, cmp_gtr_t, cmp_gtr_f, cmp_geq_t, cmp_geq_f, Bool.not_eq_true', Bool.not_eq_false', Bool.and_eq_true, Bool.and_eq_false_iff, binDen, ctrR, Ctr.may, List.take_succ_cons, List.take_zero, Option.some.injEq, EV.u.injEq, tEUnpStep, cx, ctsM, objs]
  refine ⟨?_, ?_, nomore_eunp⟩
  · rintro ps hl ⟨l, e, q, rfl, hl⟩ he
    injection he with he; subst he
    simp only [Tree.sat, Bx.den, Ex.den, Bnd.den, gI, gB, gL, gF, gN, gNil, List.map_cons, List.map_nil, List.cons_append, List.nil_append, List.getElem?_cons_zero, List.getElem?_cons_succ, List.getD, Option.getD_some, cmp_eql_t, cmp_eql_f, cmp_neq_t, cmp_neq_f, cmp_lss_t, cmp_lss_f, cmp_leq_t, cmp_leq_f, cmp_gtr_t, cmp_gtr_f, cmp_geq_t, cmp_geq_f, Bool.not_eq_true', Bool.not_eq_false', Bool.and_eq_true, Bool.and_eq_false_iff, binDen, ctrR, Ctr.may, List.take_succ_cons, List.take_zero, Option.some.injEq, EV.u.injEq, eunpT, eunpObj, eunpOk, cEUnpStep, stepEU, pre_store, out_store, true_and, and_true, ne_eq, not_true_eq_false, not_false_eq_true, false_implies, true_implies, implies_true, List.append_assoc]
    repeat' (first | with_reducible apply And.intro | intro _)
    all_goals first
      | omega
      | exact ⟨_, _, _, rfl, by omega⟩
      | (simp [*]; done)
      | (simp [*]; omega)
      | grind
  · rintro ps hl ⟨a, rfl⟩ he
    injection he with he; subst he
    simp only [Tree.sat, Bx.den, Ex.den, Bnd.den, gI, gB, gL, gF, gN, gNil, List.map_cons, List.map_nil, List.cons_append, List.nil_append, List.getElem?_cons_zero, List.getElem?_cons_succ, List.getD, Option.getD_some, cmp_eql_t, cmp_eql_f, cmp_neq_t, cmp_neq_f, cmp_lss_t, cmp_lss_f, cmp_leq_t, cmp_leq_f, cmp_gtr_t, cmp_gtr_f, cmp_geq_t, cmp_geq_f, Bool.not_eq_true', Bool.not_eq_false', Bool.and_eq_true, Bool.and_eq_false_iff, binDen, ctrR, Ctr.may, List.take_succ_cons, List.take_zero, Option.some.injEq, EV.u.injEq, eunpBadT, eunpBadObj, ok1, cEUnpStep, stepEU, true_and, and_true, ne_eq, not_true_eq_false, not_false_eq_true, false_implies, true_implies, implies_true, List.append_assoc]
    exact ⟨⟨_, rfl⟩, by simp⟩
set_option maxHeartbeats 1000000 in
theorem vEUnpErr (P : Program) (hs : List (Nat × Nat × List Nat)) : ∀ ins, ins.length = cEUnpErr.nin → cEUnpErr.pre ins → tEUnpErr.sat { cx P [] with hints := hs } (ctrR cEUnpErr) ins := by
  rintro ins _ ⟨p, rfl, hp⟩
  simp only [Tree.sat, Bx.den, Ex.den, Bnd.den, gI, gB, gL, gF, gN, gNil, List.map_cons, List.map_nil, List.cons_append, List.nil_append, List.getElem?_cons_zero, List.getElem?_cons_succ, List.getD, Option.getD_some, cmp_eql_t, cmp_eql_f, cmp_neq_t, cmp_neq_f, cmp_lss_t, cmp_lss_f, cmp_leq_t, cmp_leq_f, cmp_gtr_t, cmp_gtr_f, cmp_geq_t, cmp_geq_f, Bool.not_eq_true', Bool.not_eq_false', Bool.and_eq_true, Bool.and_eq_false_iff, binDen, ctrR, Ctr.may, List.take_succ_cons, List.take_zero, Option.some.injEq, EV.u.injEq, tEUnpErr, cx, objs]
  refine ⟨?_, ?_, nomore_eunp⟩
  · rintro ps hl ⟨l, e, q, rfl, hl⟩ he
    injection he with he; subst he
    simp only [Tree.sat, Bx.den, Ex.den, Bnd.den, gI, gB, gL, gF, gN, gNil, List.map_cons, List.map_nil, List.cons_append, List.nil_append, List.getElem?_cons_zero, List.getElem?_cons_succ, List.getD, Option.getD_some, cmp_eql_t, cmp_eql_f, cmp_neq_t, cmp_neq_f, cmp_lss_t, cmp_lss_f, cmp_leq_t, cmp_leq_f, cmp_gtr_t, cmp_gtr_f, cmp_geq_t, cmp_geq_f, Bool.not_eq_true', Bool.not_eq_false', Bool.and_eq_true, Bool.and_eq_false_iff, binDen, ctrR, Ctr.may, List.take_succ_cons, List.take_zero, Option.some.injEq, EV.u.injEq, eunpT, eunpObj, eunpOk, cEUnpErr, errEU, true_and, and_true, ne_eq, not_true_eq_false, not_false_eq_true, false_implies, true_implies, implies_true, List.append_assoc]
    repeat' (first | with_reducible apply And.intro | intro _)
    all_goals first
      | exact ⟨_, _, _, rfl, by omega⟩
      | (simp [*]; done)
  · rintro ps hl ⟨a, rfl⟩ he
    injection he with he; subst he
    simp only [Tree.sat, Bx.den, Ex.den, Bnd.den, gI, gB, gL, gF, gN, gNil, List.map_cons, List.map_nil, List.cons_append, List.nil_append, List.getElem?_cons_zero, List.getElem?_cons_succ, List.getD, Option.getD_some, cmp_eql_t, cmp_eql_f, cmp_neq_t, cmp_neq_f, cmp_lss_t, cmp_lss_f, cmp_leq_t, cmp_leq_f, cmp_gtr_t, cmp_gtr_f, cmp_geq_t, cmp_geq_f, Bool.not_eq_true', Bool.not_eq_false', Bool.and_eq_true, Bool.and_eq_false_iff, binDen, ctrR, Ctr.may, List.take_succ_cons, List.take_zero, Option.some.injEq, EV.u.injEq, eunpBadT, eunpBadObj, ok1, cEUnpErr, errEU, true_and, and_true, ne_eq, not_true_eq_false, not_false_eq_true, false_implies, true_implies, implies_true, List.append_assoc]
    exact ⟨⟨_, rfl⟩, by simp⟩
set_option maxHeartbeats 1000000 in
theorem vENewAdv (P : Program) (hs : List (Nat × Nat × List Nat)) : ∀ ins, ins.length = cENewAdv.nin → cENewAdv.pre ins → tENewAdv.sat { cx P [] with hints := hs } (ctrR cENewAdv) ins := by
  rintro ins _ ⟨a, b, n, c, p, rfl⟩
  simp only [Tree.sat, Bx.den, Ex.den, Bnd.den, gI, gB, gL, gF, gN, gNil, List.map_cons, List.map_nil, List.cons_append, List.nil_append, List.getElem?_cons_zero, List.getElem?_cons_succ, List.getD, Option.getD_some, cmp_eql_t, cmp_eql_f, cmp_neq_t, cmp_neq_f, cmp_lss_t, cmp_lss_f, cmp_leq_t, cmp_leq_f, cmp_gtr_t, cmp_gtr_f, cmp_geq_t, cmp_geq_f, Bool.not_eq_true', Bool.not_eq_false', Bool.and_eq_true, Bool.and_eq_false_iff, binDen, ctrR, Ctr.may, List.take_succ_cons, List.take_zero, Option.some.injEq, EV.u.injEq, tENewAdv, cx, objs, eadvT, eadvBadT, eadvObj, eadvBadObj, eadvOk, ok5, cENewAdv, newEA, true_and, and_true, ne_eq, not_true_eq_false, not_false_eq_true, false_implies, true_implies, implies_true, List.append_assoc]
  repeat' (first | with_reducible apply And.intro | intro _)
  all_goals first
    | exact ⟨_, _, _, _, _, rfl⟩
    | exact ⟨_, _, _, _, _, _, _, _, _, rfl, by omega, by omega⟩
    | (rw [if_pos (by omega)])
    | (rw [if_neg (by omega)]; simp; omega)
    | (rw [if_neg (by omega)]; simp; done)
theorem pre_turn {l e a b n c p w k f : Int} (h : 0 ≤ f) (h1 : n ≤ 64) : cTurn.pre [.i l, .i e, .i a, .i b, .i n, .i c, .i p, .i w, .i k, .i f] := ⟨_, _, _, _, _, _, _, _, _, _, rfl, h, h1⟩
theorem out_turn (l e a b n c p w k f : Int) : cTurn.out [.i l, .i e, .i a, .i b, .i n, .i c, .i p, .i w, .i k, .i f] = [.i (if turnTo f c < n then 1 else 2), .i (if turnTo f c < n then turnTo f c else k)] := rfl
theorem turn_ge (f c : Int) : f ≤ turnTo f c := by have := turn_case f c; omega
theorem hTurn : cTurn.Holds objs Try.prog := runCtr_holds (X := { cxEF Try.prog lTurn with hints := hsTurn }) objsOk mixed hctsM (callable _ Try.func122 (by kernel_rfl) (by kernel_rfl)) (by rintro ins _ ⟨_, _, _, _, _, _, _, _, _, _, rfl, _, _⟩; rfl) (by rw [rTurn]; exact vTurn _ _)
theorem hctsT : ∀ (ci : Nat) (c : Ctr U), ctsT[ci]? = some c → c.Holds objs Try.prog := ctsApp hctsM (by intro ci c h; match ci, h with | 0, h => cases h; exact hTurn | n + 1, h => cases h)
set_option maxHeartbeats 4000000 in
theorem vEAdvStep (P : Program) (hs : List (Nat × Nat × List Nat)) : ∀ ins, ins.length = cEAdvStep.nin → cEAdvStep.pre ins → tEAdvStep.sat { cx P ctsT with hints := hs } (ctrR cEAdvStep) ins := by
  rintro ins _ ⟨p, M, rfl, hp⟩
  simp only [Tree.sat, Bx.den, Ex.den, Bnd.den, gI, gB, gL, gF, gN, gNil, List.map_cons, List.map_nil, List.cons_append, List.nil_append, List.getElem?_cons_zero, List.getElem?_cons_succ, List.getD, Option.getD_some, cmp_eql_t, cmp_eql_f, cmp_neq_t, cmp_neq_f, cmp_lss_t, cmp_lss_f, cmp_leq_t, cmp_leq_f, cmp_gtr_t, cmp_gtr_f, cmp_geq_t, cmp_geq_f, Bool.not_eq_true', Bool.not_eq_false', Bool.and_eq_true, Bool.and_eq_false_iff, binDen, ctrR, Ctr.may, List.take_succ_cons, List.take_zero, Option.some.injEq, EV.u.injEq, tEAdvStep, cx, ctsT, ctsM, objs]
  refine ⟨?_, ?_, nomore_eadv⟩
  · rintro ps hl ⟨l, e, a, b, n, c, p, w, k, rfl, hl, hk⟩ he
    injection he with he; subst he
    obtain ⟨g1, g2, g3⟩ := hp
    simp only [eadvObj] at g1 g2 g3
    simp only [Tree.sat, Bx.den, Ex.den, Bnd.den, gI, gB, gL, gF, gN, gNil, List.map_cons, List.map_nil, List.cons_append, List.nil_append, List.getElem?_cons_zero, List.getElem?_cons_succ, List.getD, Option.getD_some, cmp_eql_t, cmp_eql_f, cmp_neq_t, cmp_neq_f, cmp_lss_t, cmp_lss_f, cmp_leq_t, cmp_leq_f, cmp_gtr_t, cmp_gtr_f, cmp_geq_t, cmp_geq_f, Bool.not_eq_true', Bool.not_eq_false', Bool.and_eq_true, Bool.and_eq_false_iff, binDen, ctrR, Ctr.may, List.take_succ_cons, List.take_zero, Option.some.injEq, EV.u.injEq, eadvT, eadvBadT, eadvObj, eadvOk, cEAdvStep, stepEA, pre_load, out_load, pre_cas, out_cas, conv_u64, conv_i64, u32, out_turn, true_and, and_true, ne_eq, not_true_eq_false, not_false_eq_true, false_implies, true_implies, implies_true, List.append_assoc]
    by_cases hl1 : l = -1
    · subst hl1
      repeat' (first | with_reducible apply And.intro | intro _)
      all_goals first
        | exact ⟨_, _, _, _, _, _, _, _, _, rfl, .inr (.inr rfl), by omega⟩
        | (simp [*]; done)
        | omega
    · obtain ⟨g4, g5, g6, g7⟩ := g3 hl1
      have hw0 : 0 ≤ IntKind.u32.wrap w := wrap32_lo w
      have hw1 : IntKind.u32.wrap w < 4294967296 := wrap32_hi w
      rw [wrap_u64' (n := IntKind.u32.wrap w + 1) (by omega) (by omega)]
      have hl3 : l = 0 ∨ l = 1 ∨ l = 2 := by omega
      rcases hl3 with rfl | rfl | rfl
      · clear hl g1 g2 hk g3 hl1
        repeat' (first | with_reducible apply And.intro | intro _)
        all_goals first
          | omega
          | exact pre_turn (by omega) (by omega)
          | (have ht := turn_case 0 c; refine ⟨_, _, _, _, _, _, _, _, _, rfl, ?_, ?_⟩ <;> (try split) <;> omega)
          | (by_cases h : turnTo 0 c < n <;> simp [turnA, endA, cmpDen, *] <;> done)
      · have hk2 := hk rfl
        have hw3 : p = IntKind.u32.wrap w := by omega
        subst hw3
        rw [wrap_small (n := k + 1) (by omega) (by omega)]
        clear hl g1 g2 hk g3 hl1
        repeat' (first | with_reducible apply And.intro | intro _)
        all_goals first
          | omega
          | exact pre_turn (by omega) (by omega)
          | (have ht := turn_case (k + 1) c; refine ⟨_, _, _, _, _, _, _, _, _, rfl, ?_, ?_⟩ <;> (try split) <;> omega)
          | (by_cases h : turnTo (k + 1) c < n <;> simp [turnA, endA, u32, cmpDen, *] <;> done)
      · have hw3 : p = IntKind.u32.wrap w := by omega
        subst hw3
        clear hl g1 g2 hk g3 hl1
        repeat' (first | with_reducible apply And.intro | intro _)
        all_goals first
          | omega
          | (refine ⟨_, _, _, _, _, _, _, _, _, rfl, ?_, ?_⟩ <;> omega)
          | (simp [endA, *]; done)
  · rintro ps hl ⟨a, b, n, c, p, rfl⟩ he
    injection he with he; subst he
    simp only [Tree.sat, Bx.den, Ex.den, Bnd.den, gI, gB, gL, gF, gN, gNil, List.map_cons, List.map_nil, List.cons_append, List.nil_append, List.getElem?_cons_zero, List.getElem?_cons_succ, List.getD, Option.getD_some, cmp_eql_t, cmp_eql_f, cmp_neq_t, cmp_neq_f, cmp_lss_t, cmp_lss_f, cmp_leq_t, cmp_leq_f, cmp_gtr_t, cmp_gtr_f, cmp_geq_t, cmp_geq_f, Bool.not_eq_true', Bool.not_eq_false', Bool.and_eq_true, Bool.and_eq_false_iff, binDen, ctrR, Ctr.may, List.take_succ_cons, List.take_zero, Option.some.injEq, EV.u.injEq, eadvT, eadvBadT, eadvBadObj, ok5, cEAdvStep, stepEA, true_and, and_true, ne_eq, not_true_eq_false, not_false_eq_true, false_implies, true_implies, implies_true, List.append_assoc]
    exact ⟨⟨_, _, _, _, _, rfl⟩, by simp⟩
set_option maxHeartbeats 1000000 in
theorem vEAdvErr (P : Program) (hs : List (Nat × Nat × List Nat)) : ∀ ins, ins.length = cEAdvErr.nin → cEAdvErr.pre ins → tEAdvErr.sat { cx P [] with hints := hs } (ctrR cEAdvErr) ins := by
  rintro ins _ ⟨p, rfl, hp⟩
  simp only [Tree.sat, Bx.den, Ex.den, Bnd.den, gI, gB, gL, gF, gN, gNil, List.map_cons, List.map_nil, List.cons_append, List.nil_append, List.getElem?_cons_zero, List.getElem?_cons_succ, List.getD, Option.getD_some, cmp_eql_t, cmp_eql_f, cmp_neq_t, cmp_neq_f, cmp_lss_t, cmp_lss_f, cmp_leq_t, cmp_leq_f, cmp_gtr_t, cmp_gtr_f, cmp_geq_t, cmp_geq_f, Bool.not_eq_true', Bool.not_eq_false', Bool.and_eq_true, Bool.and_eq_false_iff, binDen, ctrR, Ctr.may, List.take_succ_cons, List.take_zero, Option.some.injEq, EV.u.injEq, tEAdvErr, cx, objs]
  refine ⟨?_, ?_, nomore_eadv⟩
  · rintro ps hl ⟨l, e, a, b, n, c, p, w, k, rfl, hl, hk⟩ he
    injection he with he; subst he
    simp only [Tree.sat, Bx.den, Ex.den, Bnd.den, gI, gB, gL, gF, gN, gNil, List.map_cons, List.map_nil, List.cons_append, List.nil_append, List.getElem?_cons_zero, List.getElem?_cons_succ, List.getD, Option.getD_some, cmp_eql_t, cmp_eql_f, cmp_neq_t, cmp_neq_f, cmp_lss_t, cmp_lss_f, cmp_leq_t, cmp_leq_f, cmp_gtr_t, cmp_gtr_f, cmp_geq_t, cmp_geq_f, Bool.not_eq_true', Bool.not_eq_false', Bool.and_eq_true, Bool.and_eq_false_iff, binDen, ctrR, Ctr.may, List.take_succ_cons, List.take_zero, Option.some.injEq, EV.u.injEq, eadvT, eadvObj, eadvOk, cEAdvErr, errEA, true_and, and_true, ne_eq, not_true_eq_false, not_false_eq_true, false_implies, true_implies, implies_true, List.append_assoc]
    repeat' (first | with_reducible apply And.intro | intro _)
    all_goals first
      | exact ⟨_, _, _, _, _, _, _, _, _, rfl, hl, hk⟩
      | (simp [*]; done)
  · rintro ps hl ⟨a, b, n, c, p, rfl⟩ he
    injection he with he; subst he
    simp only [Tree.sat, Bx.den, Ex.den, Bnd.den, gI, gB, gL, gF, gN, gNil, List.map_cons, List.map_nil, List.cons_append, List.nil_append, List.getElem?_cons_zero, List.getElem?_cons_succ, List.getD, Option.getD_some, cmp_eql_t, cmp_eql_f, cmp_neq_t, cmp_neq_f, cmp_lss_t, cmp_lss_f, cmp_leq_t, cmp_leq_f, cmp_gtr_t, cmp_gtr_f, cmp_geq_t, cmp_geq_f, Bool.not_eq_true', Bool.not_eq_false', Bool.and_eq_true, Bool.and_eq_false_iff, binDen, ctrR, Ctr.may, List.take_succ_cons, List.take_zero, Option.some.injEq, EV.u.injEq, eadvBadT, eadvBadObj, ok5, cEAdvErr, errEA, true_and, and_true, ne_eq, not_true_eq_false, not_false_eq_true, false_implies, true_implies, implies_true, List.append_assoc]
    exact ⟨⟨_, _, _, _, _, rfl⟩, by simp⟩
theorem hEFits : cEFits.Holds objs Try.prog := runCtr_holds (X := { cx Try.prog [] with hints := hsEFits }) objsOk mixed noCts (callable _ Try.func57 (by kernel_rfl) (by kernel_rfl)) (by rintro ins _ ⟨_, _, _, _, rfl⟩; rfl) (by rw [rEFits]; exact vEFits _ _)
theorem hEFill : cEFill.Holds objs Try.prog := runCtr_holds (X := { cxEF Try.prog lEFill with hints := hsEFill }) objsOk mixed hctsM (callable _ Try.func70 (by kernel_rfl) (by kernel_rfl)) (by rintro ins _ ⟨_, _, _, _, rfl⟩; rfl) (by rw [rEFill]; exact vEFill _ _)
theorem hEFillNil : cEFillNil.Holds objs Try.prog := runCtr_holds (X := { cxEF Try.prog lEFillNil with hints := hsEFillNil }) objsOk mixed hctsM (callable _ Try.func70 (by kernel_rfl) (by kernel_rfl)) (by rintro ins _ ⟨_, _, _, rfl⟩; rfl) (by rw [rEFillNil]; exact vEFillNil _ _)
theorem hENow : cENow.Holds objs Try.prog := runCtr_holds (X := { cx Try.prog ctsM with hints := hsENow }) objsOk mixed hctsM (callable _ Try.func52 (by kernel_rfl) (by kernel_rfl)) (by rintro ins _ ⟨_, _, _, _, rfl⟩; rfl) (by rw [rENow]; exact vENow _ _)
theorem hEPinned : cEPinned.Holds objs Try.prog := runCtr_holdsm (X := { cxEF Try.prog lEPinned with hints := hsEPinned }) objsOk mixed hctsM (callable _ Try.func69 (by kernel_rfl) (by kernel_rfl)) (by rintro ins outs _ ⟨_, _, _, _, rfl⟩ ⟨c, rfl⟩; rfl) (by rw [rEPinned]; exact vEPinned _ _)
theorem hEPinnedNil : cEPinnedNil.Holds objs Try.prog := runCtr_holdsm (X := { cxEF Try.prog lEPinnedNil with hints := hsEPinnedNil }) objsOk mixed hctsM (callable _ Try.func69 (by kernel_rfl) (by kernel_rfl)) (by rintro ins outs _ ⟨_, _, _, rfl⟩ ⟨c, rfl⟩; rfl) (by rw [rEPinnedNil]; exact vEPinnedNil _ _)
theorem hENewPin : cENewPin.Holds objs Try.prog := runCtr_holds (X := { cx Try.prog [] with hints := hsENewPin }) objsOk mixed noCts (callable _ Try.func48 (by kernel_rfl) (by kernel_rfl)) (by rintro ins _ ⟨_, _, _, _, rfl⟩; rfl) (by rw [rENewPin]; exact vENewPin _ _)
theorem hEPinStep : cEPinStep.Holds objs Try.prog := runCtr_holds (X := { cx Try.prog ctsM with hints := hsEPinStep }) objsOk mixed hctsM (callable _ Try.func53 (by kernel_rfl) (by kernel_rfl)) (by rintro ins _ ⟨_, _, rfl, _⟩; rfl) (by rw [rEPinStep]; exact vEPinStep _ _)
theorem hEPinAt : cEPinAt.Holds objs Try.prog := runCtr_holds (X := { cx Try.prog [] with hints := hsEPinAt }) objsOk mixed noCts (callable _ Try.func54 (by kernel_rfl) (by kernel_rfl)) (by rintro ins _ ⟨_, rfl, _⟩; rfl) (by rw [rEPinAt]; exact vEPinAt _ _)
theorem hENewUnp : cENewUnp.Holds objs Try.prog := runCtr_holds (X := { cx Try.prog [] with hints := hsENewUnp }) objsOk mixed noCts (callable _ Try.func55 (by kernel_rfl) (by kernel_rfl)) (by rintro ins _ ⟨_, _, _, _, rfl⟩; rfl) (by rw [rENewUnp]; exact vENewUnp _ _)
theorem hEUnpStep : cEUnpStep.Holds objs Try.prog := runCtr_holds (X := { cx Try.prog ctsM with hints := hsEUnpStep }) objsOk mixed hctsM (callable _ Try.func67 (by kernel_rfl) (by kernel_rfl)) (by rintro ins _ ⟨_, _, rfl, _⟩; rfl) (by rw [rEUnpStep]; exact vEUnpStep _ _)
theorem hEUnpErr : cEUnpErr.Holds objs Try.prog := runCtr_holds (X := { cx Try.prog [] with hints := hsEUnpErr }) objsOk mixed noCts (callable _ Try.func56 (by kernel_rfl) (by kernel_rfl)) (by rintro ins _ ⟨_, rfl, _⟩; rfl) (by rw [rEUnpErr]; exact vEUnpErr _ _)
theorem hENewAdv : cENewAdv.Holds objs Try.prog := runCtr_holds (X := { cx Try.prog [] with hints := hsENewAdv }) objsOk mixed noCts (callable _ Try.func63 (by kernel_rfl) (by kernel_rfl)) (by rintro ins _ ⟨_, _, _, _, _, rfl⟩; rfl) (by rw [rENewAdv]; exact vENewAdv _ _)
theorem hEAdvStep : cEAdvStep.Holds objs Try.prog := runCtr_holds (X := { cx Try.prog ctsT with hints := hsEAdvStep }) objsOk mixed hctsT (callable _ Try.func64 (by kernel_rfl) (by kernel_rfl)) (by rintro ins _ ⟨_, _, rfl, _⟩; rfl) (by rw [rEAdvStep]; exact vEAdvStep _ _)
theorem hEAdvErr : cEAdvErr.Holds objs Try.prog := runCtr_holds (X := { cx Try.prog [] with hints := hsEAdvErr }) objsOk mixed noCts (callable _ Try.func65 (by kernel_rfl) (by kernel_rfl)) (by rintro ins _ ⟨_, rfl, _⟩; rfl) (by rw [rEAdvErr]; exact vEAdvErr _ _)
end Go.Proofs.Ytjohihkbampbgaa
