/- Stacks: is that all, each once? The contract holds. -/
import Derived.Test.YtdabdbbgaekmdaaZbT
namespace Go.Proofs.Ytdabdbbgaekmdaa
set_option linter.unusedVariables false
set_option linter.unusedSimpArgs false
set_option linter.unusedSectionVars false
open Go Go.RowKit

theorem len_chainZ (M : MemSt) (t l n : Int) : (chainS M t l n).length ≤ n.toNat := len_chainLy ..
theorem cpB_push {P : PushSt} : cpB (.push P) = .push P := rfl
theorem seen_len (L : List Int) (n : Int) : (seenL L n).length = n.toNat := by simp [seenL]
theorem seen_nil (n : Int) : seenL [] n = List.replicate n.toNat 0 := by
  unfold seenL
  apply List.ext_getElem (by simp)
  intro i h1 h2
  simp
theorem seen_get {L : List Int} {n x : Int} (h0 : 0 ≤ x) (h1 : x < n) : (seenL L n)[x.toNat]?.getD 0 = if x ∈ L then 1 else 0 := by
  unfold seenL
  rw [List.getElem?_map, List.getElem?_range (by omega)]
  show (if ((x.toNat : Nat) : Int) ∈ L then (1 : Int) else 0) = _
  rw [Int.toNat_of_nonneg h0]
theorem seen_set {L : List Int} {n x : Int} (h0 : 0 ≤ x) (h1 : x < n) : (seenL L n).set x.toNat 1 = seenL (L ++ [x]) n := by
  apply List.ext_getElem (by simp [seen_len])
  intro i h2 h3
  rw [List.getElem_set]
  simp only [seenL, List.getElem_map, List.getElem_range, List.mem_append, List.mem_singleton]
  by_cases e : x.toNat = i
  · subst e
    rw [if_pos rfl, if_pos (.inr (Int.toNat_of_nonneg h0))]
  · rw [if_neg e]
    have : ¬ (i : Int) = x := by omega
    simp only [this, or_false]
theorem get_at {L : List Int} {k : Int} (h0 : 0 ≤ k) (h1 : k < L.length) : L[k.toNat]?.getD 0 ∈ L ∧ L.take (k + 1).toNat = L.take k.toNat ++ [L[k.toNat]?.getD 0] := by
  have hk : k.toNat < L.length := by omega
  rw [List.getElem?_eq_getElem hk]
  refine ⟨List.getElem_mem hk, ?_⟩
  rw [show (k + 1).toNat = k.toNat + 1 by omega, List.take_succ_eq_append_getElem hk]
  rfl
theorem all_no {L : List Int} {n : Int} {k : Int} (h0 : 0 ≤ k) (h1 : k < L.length) (h : ¬ (0 ≤ L[k.toNat]?.getD 0 ∧ L[k.toNat]?.getD 0 < n) ∨ L[k.toNat]?.getD 0 ∈ L.take k.toNat) : allB L n = false := by
  have hg := get_at h0 h1
  rcases h with h | h
  · have : ¬ ∀ x ∈ L, 0 ≤ x ∧ x < n := fun g => h (g _ hg.1)
    simp [allB, this]
  · have : ¬ L.Nodup := fun g => by
      have e : L = L.take (k + 1).toNat ++ L.drop (k + 1).toNat := (List.take_append_drop _ _).symm
      rw [e, hg.2, List.nodup_append, List.nodup_append] at g
      exact g.1.2.2 _ h _ (by simp) rfl
    simp [allB, this]
theorem all_yes {L : List Int} {n : Int} (h1 : L.Nodup) (h2 : ∀ x ∈ L, 0 ≤ x ∧ x < n) : allB L n = decide ((L.length : Int) = n) := by
  simp only [allB, decide_eq_true h1, decide_eq_true h2, Bool.true_and]
theorem getD_app {L d : List Int} {k : Int} (h0 : 0 ≤ k) (h1 : k < L.length) : (L ++ d)[k.toNat]?.getD 0 = L[k.toNat]?.getD 0 := by rw [List.getElem?_append_left (by omega)]
theorem own0 {o0 o1 o2 : CoreP} {H0 H1 H2 : List Int} {y0 y1 y2 : Int} : ownK o0 o1 o2 H0 H1 H2 y0 y1 y2 0 = [] := rfl
theorem own1 {o0 o1 o2 : CoreP} {H0 H1 H2 : List Int} {y0 y1 y2 : Int} : ownK o0 o1 o2 H0 H1 H2 y0 y1 y2 1 = [] ++ o0.lays H0 y0 := rfl
theorem own2 {o0 o1 o2 : CoreP} {H0 H1 H2 : List Int} {y0 y1 y2 : Int} : ownK o0 o1 o2 H0 H1 H2 y0 y1 y2 2 = (o0.lays H0 y0) ++ o1.lays H1 y1 := rfl
theorem own3 {o0 o1 o2 : CoreP} {H0 H1 H2 : List Int} {y0 y1 y2 : Int} : ownK o0 o1 o2 H0 H1 H2 y0 y1 y2 3 = (o0.lays H0 y0 ++ o1.lays H1 y1) ++ o2.lays H2 y2 := by simp [ownK]
/-- a round of the first loop: how it goes on -/
theorem all_back {o0 o1 o2 : CoreP} {H0 c0 H1 c1 H2 c2 : List Int} {y0 y1 y2 : Int} {M : MemSt} {t l n : Int} {x27 x28 x29 : EV U} {k : Int} {L d : List Int} {a b : Int} (hL : L = chainS M t l n ++ ownK o0 o1 o2 H0 H1 H2 y0 y1 y2 k) (ha : a = L.length) (hb : b = ((L.length + d.length : Nat) : Int)) (h1 : 0 ≤ k) (h2 : k ≤ 3) (h3 : 0 ≤ n) (h4 : n ≤ 4096) (h5 : H0.length ≤ 4096) (h6 : H1.length ≤ 4096) (h7 : H2.length ≤ 4096) :
    allInv1 (allIns o0 o1 o2 H0 c0 H1 c1 H2 c2 y0 y1 y2 M t l n ++ [.l (List.replicate n.toNat 0), .u (.mem M), x27, x28, x29, .i k, .l (L ++ d), .i a, .i b]) := by
  subst hL ha hb
  exact ⟨o0, o1, o2, H0, c0, H1, c1, H2, c2, y0, y1, y2, M, t, l, n, _, x27, x28, x29, k, d, rfl, rfl, h1, h2, h3, h4, h5, h6, h7⟩
theorem lays_B (o : CoreP) (H : List Int) (y : Int) : Nil.isNil (cpB o) = true ∧ o.lays H y = H ∨ Nil.isNil (cpB o) = false ∧ o.lays H y = H ++ [y] := by
  cases o with
  | push P => exact .inr ⟨rfl, rfl⟩
  | none => exact .inl ⟨rfl, rfl⟩
  | pop P => exact .inl ⟨rfl, rfl⟩
  | all P => exact .inl ⟨rfl, rfl⟩
set_option maxRecDepth 10000 in
set_option maxHeartbeats 8000000 in
theorem bAll1_0 (P : Program) (hs : List (Nat × Nat × List Nat)) {o0 o1 o2 : CoreP} {H0 c0 H1 c1 H2 c2 : List Int} {y0 y1 y2 : Int} {M : MemSt} {t l n : Int} {x27 x28 x29 : EV U} {V d : List Int} (hV : V = chainS M t l n ++ ownK o0 o1 o2 H0 H1 H2 y0 y1 y2 0) (hv : V.length ≤ 18000) (hn : 0 ≤ n) (hn4 : n ≤ 4096) (g0 : H0.length ≤ 4096) (g1 : H1.length ≤ 4096) (g2 : H2.length ≤ 4096) :
    tAllSL1.sat { cxZb P with hints := hs } (ctrR cAllS) (allIns o0 o1 o2 H0 c0 H1 c1 H2 c2 y0 y1 y2 M t l n ++ [.l (List.replicate n.toNat 0), .u (.mem M), x27, x28, x29, .i 0, .l (V ++ d), .i V.length, .i ((V.length + d.length : Nat) : Int)]) := by
  have hw1 : IntKind.i64.wrap ((V.length : Int) + 1) = ((V ++ [y0]).length : Int) := by rw [wrap_small (by omega) (by omega), List.length_append]; rfl
  have hw2 : IntKind.i64.wrap ((V.length : Int) + H0.length) = ((V ++ H0).length : Int) := by rw [wrap_small (by omega) (by omega), List.length_append]; omega
  have hl2 : (V ++ H0).length = V.length + H0.length := List.length_append
  have hw3 : IntKind.i64.wrap (((V ++ H0).length : Int) + 1) = ((V ++ H0 ++ [y0]).length : Int) := by rw [wrap_small (by omega) (by omega), show (V ++ H0 ++ [y0]).length = (V ++ H0).length + 1 by simp only [List.length_append, List.length_singleton]]; rfl
  have hwk : IntKind.i64.wrap (0 + 1) = 1 := by decide
  have hla : ∀ r : List Int, (V ++ r).length = V.length + r.length := fun r => List.length_append
  have hlb : ∀ r : List Int, (H0 ++ r).length = H0.length + r.length := fun r => List.length_append
  have hlc : ∀ r : List Int, (V ++ H0 ++ r).length = V.length + H0.length + r.length := fun r => by rw [List.length_append, List.length_append]
  have hN : chainS M t l n ++ ownK o0 o1 o2 H0 H1 H2 y0 y1 y2 1 = V ++ o0.lays H0 y0 := by rw [hV]; simp [ownK]
  by_cases hz : H0.length = 0
  all_goals rcases lays_B o0 H0 y0 with ⟨hB, hO⟩ | ⟨hB, hO⟩
  all_goals
    have hB' := hB
    simp only [Nil.isNil] at hB'
    unfold tAllSL1
    simp only [allIns, List.cons_append, List.nil_append]
    repeat' (first
      | (first
        | (with_reducible refine st_need ?_ ?_
           focus (simp only [Bx.den, Ex.den, Bnd.den, gI, gB, gL, gF, gN, gNil, List.map_cons, List.map_nil, List.cons_append, List.nil_append, List.getElem?_cons_zero, List.getElem?_cons_succ, List.getD, Option.getD_some, cmp_eql_t, cmp_eql_f, cmp_neq_t, cmp_neq_f, cmp_lss_t, cmp_lss_f, cmp_leq_t, cmp_leq_f, cmp_gtr_t, cmp_gtr_f, cmp_geq_t, cmp_geq_f, Bool.not_eq_true', Bool.not_eq_false', Bool.and_eq_true, Bool.and_eq_false_iff, binDen, Option.some.injEq, EV.u.injEq, Nil.isNil, beq_self_eq_true, and_self, true_and, and_true, or_false, false_or, or_self, not_true_eq_false, not_false_eq_true, ne_eq, Bool.true_eq_false, Bool.false_eq_true, reduceCtorEq, hw1, hw2, hw3, hwk, hla, hlb, hlc, hB'] <;> first | omega | assumption))
        | (with_reducible refine st_and ?_ ?_)
        | (with_reducible exact st_ok)
        | (with_reducible refine st_br (fun hc => ?_) (fun hc => ?_) <;> (simp only [Bx.den, Ex.den, Bnd.den, gI, gB, gL, gF, gN, gNil, List.map_cons, List.map_nil, List.cons_append, List.nil_append, List.getElem?_cons_zero, List.getElem?_cons_succ, List.getD, Option.getD_some, cmp_eql_t, cmp_eql_f, cmp_neq_t, cmp_neq_f, cmp_lss_t, cmp_lss_f, cmp_leq_t, cmp_leq_f, cmp_gtr_t, cmp_gtr_f, cmp_geq_t, cmp_geq_f, Bool.not_eq_true', Bool.not_eq_false', Bool.and_eq_true, Bool.and_eq_false_iff, binDen, Option.some.injEq, EV.u.injEq, Nil.isNil, beq_self_eq_true, and_self, true_and, and_true, or_false, false_or, or_self, not_true_eq_false, not_false_eq_true, ne_eq, Bool.true_eq_false, Bool.false_eq_true, reduceCtorEq, hw1, hw2, hw3, hwk, hla, hlb, hlc, hB'] at hc) <;> (try (exfalso; first | contradiction | omega)))
        | (refine st_call (by rfl) (by simp only [Bx.den, Ex.den, Bnd.den, gI, gB, gL, gF, gN, gNil, List.map_cons, List.map_nil, List.cons_append, List.nil_append, List.getElem?_cons_zero, List.getElem?_cons_succ, List.getD, Option.getD_some, cmp_eql_t, cmp_eql_f, cmp_neq_t, cmp_neq_f, cmp_lss_t, cmp_lss_f, cmp_leq_t, cmp_leq_f, cmp_gtr_t, cmp_gtr_f, cmp_geq_t, cmp_geq_f, Bool.not_eq_true', Bool.not_eq_false', Bool.and_eq_true, Bool.and_eq_false_iff, binDen, Option.some.injEq, EV.u.injEq, Nil.isNil, beq_self_eq_true, and_self, true_and, and_true, or_false, false_or, or_self, not_true_eq_false, not_false_eq_true, ne_eq, Bool.true_eq_false, Bool.false_eq_true, reduceCtorEq, hw1, hw2, hw3, hwk, hla, hlb, hlc, hB'] <;> rfl) ?_ (by rfl <;> rfl) (by simp only [List.cons_append, List.nil_append] <;> rfl) ?_
           focus (first | rfl)))
      | (refine st_rowY (V := V ++ H0) (y := y0) (by rfl) (by simp only [Bx.den, Ex.den, Bnd.den, gI, gB, gL, gF, gN, gNil, List.map_cons, List.map_nil, List.cons_append, List.nil_append, List.getElem?_cons_zero, List.getElem?_cons_succ, List.getD, Option.getD_some, cmp_eql_t, cmp_eql_f, cmp_neq_t, cmp_neq_f, cmp_lss_t, cmp_lss_f, cmp_leq_t, cmp_leq_f, cmp_gtr_t, cmp_gtr_f, cmp_geq_t, cmp_geq_f, Bool.not_eq_true', Bool.not_eq_false', Bool.and_eq_true, Bool.and_eq_false_iff, binDen, Option.some.injEq, EV.u.injEq, Nil.isNil, beq_self_eq_true, and_self, true_and, and_true, or_false, false_or, or_self, not_true_eq_false, not_false_eq_true, ne_eq, Bool.true_eq_false, Bool.false_eq_true, reduceCtorEq, hw2] <;> rfl) (by rfl) (fun rr env' he => ?_)
         simp only [List.cons_append, List.nil_append] at he
         subst he)
      | (refine st_rowY (V := V) (y := y0) (by rfl) (by rfl) (by rfl) (fun rr env' he => ?_)
         simp only [List.cons_append, List.nil_append] at he
         subst he)
      | (refine st_rowsY (V := V) (D := H0) (by rfl) (by rfl) (by rfl) (by rfl) (fun rr env' he => ?_)
         simp only [List.cons_append, List.nil_append] at he
         subst he)
      | (refine st_back (by rfl) (by simp only [Bx.den, Ex.den, Bnd.den, gI, gB, gL, gF, gN, gNil, List.map_cons, List.map_nil, List.cons_append, List.nil_append, List.getElem?_cons_zero, List.getElem?_cons_succ, List.getD, Option.getD_some, cmp_eql_t, cmp_eql_f, cmp_neq_t, cmp_neq_f, cmp_lss_t, cmp_lss_f, cmp_leq_t, cmp_leq_f, cmp_gtr_t, cmp_gtr_f, cmp_geq_t, cmp_geq_f, Bool.not_eq_true', Bool.not_eq_false', Bool.and_eq_true, Bool.and_eq_false_iff, binDen, Option.some.injEq, EV.u.injEq, Nil.isNil, beq_self_eq_true, and_self, true_and, and_true, or_false, false_or, or_self, not_true_eq_false, not_false_eq_true, ne_eq, Bool.true_eq_false, Bool.false_eq_true, reduceCtorEq, hw1, hw2, hw3, hwk] <;> rfl) (by simp only [List.take_succ_cons, List.take_zero] <;> rfl) (by rfl) ?_ ?_
         focus first
           | exact all_back (k := 1) (L := V) (d := d) (by rw [hN, hO] <;> simp [List.length_eq_zero_iff.1 hz]) rfl rfl (by decide) (by decide) hn hn4 g0 g1 g2
           | exact all_back (k := 1) (L := V ++ [y0]) (d := rr) (by rw [hN, hO] <;> simp [List.length_eq_zero_iff.1 hz]) rfl rfl (by decide) (by decide) hn hn4 g0 g1 g2
           | exact all_back (k := 1) (L := V ++ H0) (d := rr) (by rw [hN, hO] <;> simp) rfl rfl (by decide) (by decide) hn hn4 g0 g1 g2
           | exact all_back (k := 1) (L := V ++ H0 ++ [y0]) (d := rr) (by rw [hN, hO] <;> simp) rfl rfl (by decide) (by decide) hn hn4 g0 g1 g2
         focus (show ((3 : Int) - 1).toNat < ((3 : Int) - 0).toNat; decide))
      | fail "no step")
set_option maxRecDepth 10000 in
set_option maxHeartbeats 8000000 in
theorem bAll1_1 (P : Program) (hs : List (Nat × Nat × List Nat)) {o0 o1 o2 : CoreP} {H0 c0 H1 c1 H2 c2 : List Int} {y0 y1 y2 : Int} {M : MemSt} {t l n : Int} {x27 x28 x29 : EV U} {V d : List Int} (hV : V = chainS M t l n ++ ownK o0 o1 o2 H0 H1 H2 y0 y1 y2 1) (hv : V.length ≤ 18000) (hn : 0 ≤ n) (hn4 : n ≤ 4096) (g0 : H0.length ≤ 4096) (g1 : H1.length ≤ 4096) (g2 : H2.length ≤ 4096) :
    tAllSL1.sat { cxZb P with hints := hs } (ctrR cAllS) (allIns o0 o1 o2 H0 c0 H1 c1 H2 c2 y0 y1 y2 M t l n ++ [.l (List.replicate n.toNat 0), .u (.mem M), x27, x28, x29, .i 1, .l (V ++ d), .i V.length, .i ((V.length + d.length : Nat) : Int)]) := by
  have hw1 : IntKind.i64.wrap ((V.length : Int) + 1) = ((V ++ [y1]).length : Int) := by rw [wrap_small (by omega) (by omega), List.length_append]; rfl
  have hw2 : IntKind.i64.wrap ((V.length : Int) + H1.length) = ((V ++ H1).length : Int) := by rw [wrap_small (by omega) (by omega), List.length_append]; omega
  have hl2 : (V ++ H1).length = V.length + H1.length := List.length_append
  have hw3 : IntKind.i64.wrap (((V ++ H1).length : Int) + 1) = ((V ++ H1 ++ [y1]).length : Int) := by rw [wrap_small (by omega) (by omega), show (V ++ H1 ++ [y1]).length = (V ++ H1).length + 1 by simp only [List.length_append, List.length_singleton]]; rfl
  have hwk : IntKind.i64.wrap (1 + 1) = 2 := by decide
  have hla : ∀ r : List Int, (V ++ r).length = V.length + r.length := fun r => List.length_append
  have hlb : ∀ r : List Int, (H1 ++ r).length = H1.length + r.length := fun r => List.length_append
  have hlc : ∀ r : List Int, (V ++ H1 ++ r).length = V.length + H1.length + r.length := fun r => by rw [List.length_append, List.length_append]
  have hN : chainS M t l n ++ ownK o0 o1 o2 H0 H1 H2 y0 y1 y2 2 = V ++ o1.lays H1 y1 := by rw [hV]; simp [ownK]
  by_cases hz : H1.length = 0
  all_goals rcases lays_B o1 H1 y1 with ⟨hB, hO⟩ | ⟨hB, hO⟩
  all_goals
    have hB' := hB
    simp only [Nil.isNil] at hB'
    unfold tAllSL1
    simp only [allIns, List.cons_append, List.nil_append]
    repeat' (first
      | (first
        | (with_reducible refine st_need ?_ ?_
           focus (simp only [Bx.den, Ex.den, Bnd.den, gI, gB, gL, gF, gN, gNil, List.map_cons, List.map_nil, List.cons_append, List.nil_append, List.getElem?_cons_zero, List.getElem?_cons_succ, List.getD, Option.getD_some, cmp_eql_t, cmp_eql_f, cmp_neq_t, cmp_neq_f, cmp_lss_t, cmp_lss_f, cmp_leq_t, cmp_leq_f, cmp_gtr_t, cmp_gtr_f, cmp_geq_t, cmp_geq_f, Bool.not_eq_true', Bool.not_eq_false', Bool.and_eq_true, Bool.and_eq_false_iff, binDen, Option.some.injEq, EV.u.injEq, Nil.isNil, beq_self_eq_true, and_self, true_and, and_true, or_false, false_or, or_self, not_true_eq_false, not_false_eq_true, ne_eq, Bool.true_eq_false, Bool.false_eq_true, reduceCtorEq, hw1, hw2, hw3, hwk, hla, hlb, hlc, hB'] <;> first | omega | assumption))
        | (with_reducible refine st_and ?_ ?_)
        | (with_reducible exact st_ok)
        | (with_reducible refine st_br (fun hc => ?_) (fun hc => ?_) <;> (simp only [Bx.den, Ex.den, Bnd.den, gI, gB, gL, gF, gN, gNil, List.map_cons, List.map_nil, List.cons_append, List.nil_append, List.getElem?_cons_zero, List.getElem?_cons_succ, List.getD, Option.getD_some, cmp_eql_t, cmp_eql_f, cmp_neq_t, cmp_neq_f, cmp_lss_t, cmp_lss_f, cmp_leq_t, cmp_leq_f, cmp_gtr_t, cmp_gtr_f, cmp_geq_t, cmp_geq_f, Bool.not_eq_true', Bool.not_eq_false', Bool.and_eq_true, Bool.and_eq_false_iff, binDen, Option.some.injEq, EV.u.injEq, Nil.isNil, beq_self_eq_true, and_self, true_and, and_true, or_false, false_or, or_self, not_true_eq_false, not_false_eq_true, ne_eq, Bool.true_eq_false, Bool.false_eq_true, reduceCtorEq, hw1, hw2, hw3, hwk, hla, hlb, hlc, hB'] at hc) <;> (try (exfalso; first | contradiction | omega)))
        | (refine st_call (by rfl) (by simp only [Bx.den, Ex.den, Bnd.den, gI, gB, gL, gF, gN, gNil, List.map_cons, List.map_nil, List.cons_append, List.nil_append, List.getElem?_cons_zero, List.getElem?_cons_succ, List.getD, Option.getD_some, cmp_eql_t, cmp_eql_f, cmp_neq_t, cmp_neq_f, cmp_lss_t, cmp_lss_f, cmp_leq_t, cmp_leq_f, cmp_gtr_t, cmp_gtr_f, cmp_geq_t, cmp_geq_f, Bool.not_eq_true', Bool.not_eq_false', Bool.and_eq_true, Bool.and_eq_false_iff, binDen, Option.some.injEq, EV.u.injEq, Nil.isNil, beq_self_eq_true, and_self, true_and, and_true, or_false, false_or, or_self, not_true_eq_false, not_false_eq_true, ne_eq, Bool.true_eq_false, Bool.false_eq_true, reduceCtorEq, hw1, hw2, hw3, hwk, hla, hlb, hlc, hB'] <;> rfl) ?_ (by rfl <;> rfl) (by simp only [List.cons_append, List.nil_append] <;> rfl) ?_
           focus (first | rfl)))
      | (refine st_rowY (V := V ++ H1) (y := y1) (by rfl) (by simp only [Bx.den, Ex.den, Bnd.den, gI, gB, gL, gF, gN, gNil, List.map_cons, List.map_nil, List.cons_append, List.nil_append, List.getElem?_cons_zero, List.getElem?_cons_succ, List.getD, Option.getD_some, cmp_eql_t, cmp_eql_f, cmp_neq_t, cmp_neq_f, cmp_lss_t, cmp_lss_f, cmp_leq_t, cmp_leq_f, cmp_gtr_t, cmp_gtr_f, cmp_geq_t, cmp_geq_f, Bool.not_eq_true', Bool.not_eq_false', Bool.and_eq_true, Bool.and_eq_false_iff, binDen, Option.some.injEq, EV.u.injEq, Nil.isNil, beq_self_eq_true, and_self, true_and, and_true, or_false, false_or, or_self, not_true_eq_false, not_false_eq_true, ne_eq, Bool.true_eq_false, Bool.false_eq_true, reduceCtorEq, hw2] <;> rfl) (by rfl) (fun rr env' he => ?_)
         simp only [List.cons_append, List.nil_append] at he
         subst he)
      | (refine st_rowY (V := V) (y := y1) (by rfl) (by rfl) (by rfl) (fun rr env' he => ?_)
         simp only [List.cons_append, List.nil_append] at he
         subst he)
      | (refine st_rowsY (V := V) (D := H1) (by rfl) (by rfl) (by rfl) (by rfl) (fun rr env' he => ?_)
         simp only [List.cons_append, List.nil_append] at he
         subst he)
      | (refine st_back (by rfl) (by simp only [Bx.den, Ex.den, Bnd.den, gI, gB, gL, gF, gN, gNil, List.map_cons, List.map_nil, List.cons_append, List.nil_append, List.getElem?_cons_zero, List.getElem?_cons_succ, List.getD, Option.getD_some, cmp_eql_t, cmp_eql_f, cmp_neq_t, cmp_neq_f, cmp_lss_t, cmp_lss_f, cmp_leq_t, cmp_leq_f, cmp_gtr_t, cmp_gtr_f, cmp_geq_t, cmp_geq_f, Bool.not_eq_true', Bool.not_eq_false', Bool.and_eq_true, Bool.and_eq_false_iff, binDen, Option.some.injEq, EV.u.injEq, Nil.isNil, beq_self_eq_true, and_self, true_and, and_true, or_false, false_or, or_self, not_true_eq_false, not_false_eq_true, ne_eq, Bool.true_eq_false, Bool.false_eq_true, reduceCtorEq, hw1, hw2, hw3, hwk] <;> rfl) (by simp only [List.take_succ_cons, List.take_zero] <;> rfl) (by rfl) ?_ ?_
         focus first
           | exact all_back (k := 2) (L := V) (d := d) (by rw [hN, hO] <;> simp [List.length_eq_zero_iff.1 hz]) rfl rfl (by decide) (by decide) hn hn4 g0 g1 g2
           | exact all_back (k := 2) (L := V ++ [y1]) (d := rr) (by rw [hN, hO] <;> simp [List.length_eq_zero_iff.1 hz]) rfl rfl (by decide) (by decide) hn hn4 g0 g1 g2
           | exact all_back (k := 2) (L := V ++ H1) (d := rr) (by rw [hN, hO] <;> simp) rfl rfl (by decide) (by decide) hn hn4 g0 g1 g2
           | exact all_back (k := 2) (L := V ++ H1 ++ [y1]) (d := rr) (by rw [hN, hO] <;> simp) rfl rfl (by decide) (by decide) hn hn4 g0 g1 g2
         focus (show ((3 : Int) - 2).toNat < ((3 : Int) - 1).toNat; decide))
      | fail "no step")
set_option maxRecDepth 10000 in
set_option maxHeartbeats 8000000 in
theorem bAll1_2 (P : Program) (hs : List (Nat × Nat × List Nat)) {o0 o1 o2 : CoreP} {H0 c0 H1 c1 H2 c2 : List Int} {y0 y1 y2 : Int} {M : MemSt} {t l n : Int} {x27 x28 x29 : EV U} {V d : List Int} (hV : V = chainS M t l n ++ ownK o0 o1 o2 H0 H1 H2 y0 y1 y2 2) (hv : V.length ≤ 18000) (hn : 0 ≤ n) (hn4 : n ≤ 4096) (g0 : H0.length ≤ 4096) (g1 : H1.length ≤ 4096) (g2 : H2.length ≤ 4096) :
    tAllSL1.sat { cxZb P with hints := hs } (ctrR cAllS) (allIns o0 o1 o2 H0 c0 H1 c1 H2 c2 y0 y1 y2 M t l n ++ [.l (List.replicate n.toNat 0), .u (.mem M), x27, x28, x29, .i 2, .l (V ++ d), .i V.length, .i ((V.length + d.length : Nat) : Int)]) := by
  have hw1 : IntKind.i64.wrap ((V.length : Int) + 1) = ((V ++ [y2]).length : Int) := by rw [wrap_small (by omega) (by omega), List.length_append]; rfl
  have hw2 : IntKind.i64.wrap ((V.length : Int) + H2.length) = ((V ++ H2).length : Int) := by rw [wrap_small (by omega) (by omega), List.length_append]; omega
  have hl2 : (V ++ H2).length = V.length + H2.length := List.length_append
  have hw3 : IntKind.i64.wrap (((V ++ H2).length : Int) + 1) = ((V ++ H2 ++ [y2]).length : Int) := by rw [wrap_small (by omega) (by omega), show (V ++ H2 ++ [y2]).length = (V ++ H2).length + 1 by simp only [List.length_append, List.length_singleton]]; rfl
  have hwk : IntKind.i64.wrap (2 + 1) = 3 := by decide
  have hla : ∀ r : List Int, (V ++ r).length = V.length + r.length := fun r => List.length_append
  have hlb : ∀ r : List Int, (H2 ++ r).length = H2.length + r.length := fun r => List.length_append
  have hlc : ∀ r : List Int, (V ++ H2 ++ r).length = V.length + H2.length + r.length := fun r => by rw [List.length_append, List.length_append]
  have hN : chainS M t l n ++ ownK o0 o1 o2 H0 H1 H2 y0 y1 y2 3 = V ++ o2.lays H2 y2 := by rw [hV]; simp [ownK]
  by_cases hz : H2.length = 0
  all_goals rcases lays_B o2 H2 y2 with ⟨hB, hO⟩ | ⟨hB, hO⟩
  all_goals
    have hB' := hB
    simp only [Nil.isNil] at hB'
    unfold tAllSL1
    simp only [allIns, List.cons_append, List.nil_append]
    repeat' (first
      | (first
        | (with_reducible refine st_need ?_ ?_
           focus (simp only [Bx.den, Ex.den, Bnd.den, gI, gB, gL, gF, gN, gNil, List.map_cons, List.map_nil, List.cons_append, List.nil_append, List.getElem?_cons_zero, List.getElem?_cons_succ, List.getD, Option.getD_some, cmp_eql_t, cmp_eql_f, cmp_neq_t, cmp_neq_f, cmp_lss_t, cmp_lss_f, cmp_leq_t, cmp_leq_f, cmp_gtr_t, cmp_gtr_f, cmp_geq_t, cmp_geq_f, Bool.not_eq_true', Bool.not_eq_false', Bool.and_eq_true, Bool.and_eq_false_iff, binDen, Option.some.injEq, EV.u.injEq, Nil.isNil, beq_self_eq_true, and_self, true_and, and_true, or_false, false_or, or_self, not_true_eq_false, not_false_eq_true, ne_eq, Bool.true_eq_false, Bool.false_eq_true, reduceCtorEq, hw1, hw2, hw3, hwk, hla, hlb, hlc, hB'] <;> first | omega | assumption))
        | (with_reducible refine st_and ?_ ?_)
        | (with_reducible exact st_ok)
        | (with_reducible refine st_br (fun hc => ?_) (fun hc => ?_) <;> (simp only [Bx.den, Ex.den, Bnd.den, gI, gB, gL, gF, gN, gNil, List.map_cons, List.map_nil, List.cons_append, List.nil_append, List.getElem?_cons_zero, List.getElem?_cons_succ, List.getD, Option.getD_some, cmp_eql_t, cmp_eql_f, cmp_neq_t, cmp_neq_f, cmp_lss_t, cmp_lss_f, cmp_leq_t, cmp_leq_f, cmp_gtr_t, cmp_gtr_f, cmp_geq_t, cmp_geq_f, Bool.not_eq_true', Bool.not_eq_false', Bool.and_eq_true, Bool.and_eq_false_iff, binDen, Option.some.injEq, EV.u.injEq, Nil.isNil, beq_self_eq_true, and_self, true_and, and_true, or_false, false_or, or_self, not_true_eq_false, not_false_eq_true, ne_eq, Bool.true_eq_false, Bool.false_eq_true, reduceCtorEq, hw1, hw2, hw3, hwk, hla, hlb, hlc, hB'] at hc) <;> (try (exfalso; first | contradiction | omega)))
        | (refine st_call (by rfl) (by simp only [Bx.den, Ex.den, Bnd.den, gI, gB, gL, gF, gN, gNil, List.map_cons, List.map_nil, List.cons_append, List.nil_append, List.getElem?_cons_zero, List.getElem?_cons_succ, List.getD, Option.getD_some, cmp_eql_t, cmp_eql_f, cmp_neq_t, cmp_neq_f, cmp_lss_t, cmp_lss_f, cmp_leq_t, cmp_leq_f, cmp_gtr_t, cmp_gtr_f, cmp_geq_t, cmp_geq_f, Bool.not_eq_true', Bool.not_eq_false', Bool.and_eq_true, Bool.and_eq_false_iff, binDen, Option.some.injEq, EV.u.injEq, Nil.isNil, beq_self_eq_true, and_self, true_and, and_true, or_false, false_or, or_self, not_true_eq_false, not_false_eq_true, ne_eq, Bool.true_eq_false, Bool.false_eq_true, reduceCtorEq, hw1, hw2, hw3, hwk, hla, hlb, hlc, hB'] <;> rfl) ?_ (by rfl <;> rfl) (by simp only [List.cons_append, List.nil_append] <;> rfl) ?_
           focus (first | rfl)))
      | (refine st_rowY (V := V ++ H2) (y := y2) (by rfl) (by simp only [Bx.den, Ex.den, Bnd.den, gI, gB, gL, gF, gN, gNil, List.map_cons, List.map_nil, List.cons_append, List.nil_append, List.getElem?_cons_zero, List.getElem?_cons_succ, List.getD, Option.getD_some, cmp_eql_t, cmp_eql_f, cmp_neq_t, cmp_neq_f, cmp_lss_t, cmp_lss_f, cmp_leq_t, cmp_leq_f, cmp_gtr_t, cmp_gtr_f, cmp_geq_t, cmp_geq_f, Bool.not_eq_true', Bool.not_eq_false', Bool.and_eq_true, Bool.and_eq_false_iff, binDen, Option.some.injEq, EV.u.injEq, Nil.isNil, beq_self_eq_true, and_self, true_and, and_true, or_false, false_or, or_self, not_true_eq_false, not_false_eq_true, ne_eq, Bool.true_eq_false, Bool.false_eq_true, reduceCtorEq, hw2] <;> rfl) (by rfl) (fun rr env' he => ?_)
         simp only [List.cons_append, List.nil_append] at he
         subst he)
      | (refine st_rowY (V := V) (y := y2) (by rfl) (by rfl) (by rfl) (fun rr env' he => ?_)
         simp only [List.cons_append, List.nil_append] at he
         subst he)
      | (refine st_rowsY (V := V) (D := H2) (by rfl) (by rfl) (by rfl) (by rfl) (fun rr env' he => ?_)
         simp only [List.cons_append, List.nil_append] at he
         subst he)
      | (refine st_back (by rfl) (by simp only [Bx.den, Ex.den, Bnd.den, gI, gB, gL, gF, gN, gNil, List.map_cons, List.map_nil, List.cons_append, List.nil_append, List.getElem?_cons_zero, List.getElem?_cons_succ, List.getD, Option.getD_some, cmp_eql_t, cmp_eql_f, cmp_neq_t, cmp_neq_f, cmp_lss_t, cmp_lss_f, cmp_leq_t, cmp_leq_f, cmp_gtr_t, cmp_gtr_f, cmp_geq_t, cmp_geq_f, Bool.not_eq_true', Bool.not_eq_false', Bool.and_eq_true, Bool.and_eq_false_iff, binDen, Option.some.injEq, EV.u.injEq, Nil.isNil, beq_self_eq_true, and_self, true_and, and_true, or_false, false_or, or_self, not_true_eq_false, not_false_eq_true, ne_eq, Bool.true_eq_false, Bool.false_eq_true, reduceCtorEq, hw1, hw2, hw3, hwk] <;> rfl) (by simp only [List.take_succ_cons, List.take_zero] <;> rfl) (by rfl) ?_ ?_
         focus first
           | exact all_back (k := 3) (L := V) (d := d) (by rw [hN, hO] <;> simp [List.length_eq_zero_iff.1 hz]) rfl rfl (by decide) (by decide) hn hn4 g0 g1 g2
           | exact all_back (k := 3) (L := V ++ [y2]) (d := rr) (by rw [hN, hO] <;> simp [List.length_eq_zero_iff.1 hz]) rfl rfl (by decide) (by decide) hn hn4 g0 g1 g2
           | exact all_back (k := 3) (L := V ++ H2) (d := rr) (by rw [hN, hO] <;> simp) rfl rfl (by decide) (by decide) hn hn4 g0 g1 g2
           | exact all_back (k := 3) (L := V ++ H2 ++ [y2]) (d := rr) (by rw [hN, hO] <;> simp) rfl rfl (by decide) (by decide) hn hn4 g0 g1 g2
         focus (show ((3 : Int) - 3).toNat < ((3 : Int) - 2).toNat; decide))
      | fail "no step")
theorem own_len {M : MemSt} {t l n : Int} {o0 o1 o2 : CoreP} {H0 H1 H2 : List Int} {y0 y1 y2 : Int} {k : Int} (hn4 : n ≤ 4096) (g0 : H0.length ≤ 4096) (g1 : H1.length ≤ 4096) (g2 : H2.length ≤ 4096) : (chainS M t l n ++ ownK o0 o1 o2 H0 H1 H2 y0 y1 y2 k).length ≤ 18000 := by
  have h := len_chainZ M t l n
  have hl : ∀ (o : CoreP) (H : List Int) (y : Int), (o.lays H y).length ≤ H.length + 1 := fun o H y => by cases o <;> simp [CoreP.lays]
  have := hl o0 H0 y0; have := hl o1 H1 y1; have := hl o2 H2 y2
  rw [List.length_append]
  unfold ownK
  split
  · simp; omega
  · split
    · omega
    · split
      · rw [List.length_append]; omega
      · rw [List.length_append, List.length_append]; omega
set_option maxRecDepth 10000 in
set_option maxHeartbeats 8000000 in
theorem bAll2 (P : Program) (hs : List (Nat × Nat × List Nat)) : ∀ env, allInv2 env → tAllSL0.sat { cxZb P with hints := hs } (ctrR cAllS) env := by
  rintro env ⟨o0, o1, o2, H0, c0, H1, c1, H2, c2, y0, y1, y2, M, t, l, n, x25, x27, x28, x29, x30, L, d, cap, k, rfl, hL, h0, h1, hn, hn4, hl, hnd, hr⟩
  have hdl : (L ++ d).length = L.length + d.length := List.length_append
  have hsl := seen_len (L.take k.toNat) n
  have hg : True := trivial
  have hsg : True := trivial
  have hss : True := trivial
  have hwk : IntKind.i64.wrap (k + 1) = k + 1 := wrap_small (by omega) (by omega)
  have main : (∃ r : Bool, allB L n = r ∧ (k = L.length ∧ r = decide ((L.length : Int) = n) ∨ k < L.length ∧ r = false ∧ (¬ (0 ≤ L[k.toNat]?.getD 0 ∧ L[k.toNat]?.getD 0 < n) ∨ (0 ≤ L[k.toNat]?.getD 0 ∧ L[k.toNat]?.getD 0 < n) ∧ L[k.toNat]?.getD 0 ∈ L.take k.toNat))) ∨ k < L.length ∧ (0 ≤ L[k.toNat]?.getD 0 ∧ L[k.toNat]?.getD 0 < n) ∧ L[k.toNat]?.getD 0 ∉ L.take k.toNat := by
    by_cases hk : k = L.length
    · have ht : L.take k.toNat = L := List.take_of_length_le (by omega)
      rw [ht] at hnd hr
      exact .inl ⟨_, rfl, .inl ⟨hk, all_yes hnd hr⟩⟩
    · have hkl : k < L.length := by omega
      by_cases hxr : 0 ≤ L[k.toNat]?.getD 0 ∧ L[k.toNat]?.getD 0 < n
      · by_cases hm : L[k.toNat]?.getD 0 ∈ L.take k.toNat
        · exact .inl ⟨_, rfl, .inr ⟨hkl, all_no h0 hkl (.inr hm), .inr ⟨hxr, hm⟩⟩⟩
        · exact .inr ⟨hkl, hxr, hm⟩
      · exact .inl ⟨_, rfl, .inr ⟨hkl, all_no h0 hkl (.inl hxr), .inl hxr⟩⟩
  have hg : k < L.length → (L ++ d)[k.toNat]?.getD 0 = L[k.toNat]?.getD 0 := fun h => getD_app h0 h
  have hga : k < L.length → L.take (k + 1).toNat = L.take k.toNat ++ [L[k.toNat]?.getD 0] := fun h => (get_at h0 h).2
  generalize hx : L[k.toNat]?.getD 0 = x at main hg hga
  rcases main with ⟨r, hR, ⟨hk, hr'⟩ | ⟨hkl, hr', hxr | ⟨hxr, hm⟩⟩⟩ | ⟨hkl, hxr, hm⟩
  rotate_left
  rotate_left
  have hsg := seen_get (L := L.take k.toNat) hxr.1 hxr.2
  have hss := seen_set (L := L.take k.toNat) hxr.1 hxr.2
  rotate_left
  have hsg := seen_get (L := L.take k.toNat) hxr.1 hxr.2
  have hss := seen_set (L := L.take k.toNat) hxr.1 hxr.2
  rotate_left
  all_goals try simp only [hm, if_true, if_false] at hsg
  all_goals try have hf := hR.trans hr'
  all_goals first | replace hg := hg hkl | replace hg : True := trivial
  all_goals
    unfold tAllSL0
    simp only [allIns, List.cons_append, List.nil_append]
    repeat' (first
      | (first
        | (with_reducible refine st_need ?_ ?_
           focus (simp only [Bx.den, Ex.den, Bnd.den, gI, gB, gL, gF, gN, gNil, List.map_cons, List.map_nil, List.cons_append, List.nil_append, List.getElem?_cons_zero, List.getElem?_cons_succ, List.getD, Option.getD_some, cmp_eql_t, cmp_eql_f, cmp_neq_t, cmp_neq_f, cmp_lss_t, cmp_lss_f, cmp_leq_t, cmp_leq_f, cmp_gtr_t, cmp_gtr_f, cmp_geq_t, cmp_geq_f, Bool.not_eq_true', Bool.not_eq_false', Bool.and_eq_true, Bool.and_eq_false_iff, binDen, Option.some.injEq, EV.u.injEq, Nil.isNil, beq_self_eq_true, and_self, true_and, and_true, or_false, false_or, or_self, not_true_eq_false, not_false_eq_true, ne_eq, Bool.true_eq_false, Bool.false_eq_true, reduceCtorEq, hdl, hsl, hg, hsg, Int.reduceEq, Int.reduceNe] <;> first | omega | assumption))
        | (with_reducible refine st_and ?_ ?_)
        | (with_reducible exact st_ok)
        | (with_reducible refine st_br (fun hc => ?_) (fun hc => ?_) <;> (simp only [Bx.den, Ex.den, Bnd.den, gI, gB, gL, gF, gN, gNil, List.map_cons, List.map_nil, List.cons_append, List.nil_append, List.getElem?_cons_zero, List.getElem?_cons_succ, List.getD, Option.getD_some, cmp_eql_t, cmp_eql_f, cmp_neq_t, cmp_neq_f, cmp_lss_t, cmp_lss_f, cmp_leq_t, cmp_leq_f, cmp_gtr_t, cmp_gtr_f, cmp_geq_t, cmp_geq_f, Bool.not_eq_true', Bool.not_eq_false', Bool.and_eq_true, Bool.and_eq_false_iff, binDen, Option.some.injEq, EV.u.injEq, Nil.isNil, beq_self_eq_true, and_self, true_and, and_true, or_false, false_or, or_self, not_true_eq_false, not_false_eq_true, ne_eq, Bool.true_eq_false, Bool.false_eq_true, reduceCtorEq, hdl, hsl, hg, hsg, Int.reduceEq, Int.reduceNe] at hc) <;> (try (exfalso; first | contradiction | omega)))
        | (refine st_call (by rfl) (by simp only [Bx.den, Ex.den, Bnd.den, gI, gB, gL, gF, gN, gNil, List.map_cons, List.map_nil, List.cons_append, List.nil_append, List.getElem?_cons_zero, List.getElem?_cons_succ, List.getD, Option.getD_some, cmp_eql_t, cmp_eql_f, cmp_neq_t, cmp_neq_f, cmp_lss_t, cmp_lss_f, cmp_leq_t, cmp_leq_f, cmp_gtr_t, cmp_gtr_f, cmp_geq_t, cmp_geq_f, Bool.not_eq_true', Bool.not_eq_false', Bool.and_eq_true, Bool.and_eq_false_iff, binDen, Option.some.injEq, EV.u.injEq, Nil.isNil, beq_self_eq_true, and_self, true_and, and_true, or_false, false_or, or_self, not_true_eq_false, not_false_eq_true, ne_eq, Bool.true_eq_false, Bool.false_eq_true, reduceCtorEq, hdl, hsl, hg, hsg, Int.reduceEq, Int.reduceNe] <;> rfl) ?_ (by rfl <;> rfl) (by simp only [List.cons_append, List.nil_append] <;> rfl) ?_
           focus (first | rfl)))
      | (refine st_ret (by simp only [Bx.den, Ex.den, Bnd.den, gI, gB, gL, gF, gN, gNil, List.map_cons, List.map_nil, List.cons_append, List.nil_append, List.getElem?_cons_zero, List.getElem?_cons_succ, List.getD, Option.getD_some, cmp_eql_t, cmp_eql_f, cmp_neq_t, cmp_neq_f, cmp_lss_t, cmp_lss_f, cmp_leq_t, cmp_leq_f, cmp_gtr_t, cmp_gtr_f, cmp_geq_t, cmp_geq_f, Bool.not_eq_true', Bool.not_eq_false', Bool.and_eq_true, Bool.and_eq_false_iff, binDen, Option.some.injEq, EV.u.injEq, Nil.isNil, beq_self_eq_true, and_self, true_and, and_true, or_false, false_or, or_self, not_true_eq_false, not_false_eq_true, ne_eq, Bool.true_eq_false, Bool.false_eq_true, reduceCtorEq, hdl, hsl, hg] <;> rfl) ?_
         focus exact ⟨o0, o1, o2, H0, c0, H1, c1, H2, c2, y0, y1, y2, M, t, l, n, rfl, by rw [← hL, hf]; try rw [cmpDen_eql]⟩)
      | (refine st_setl (by simp only [Bx.den, Ex.den, Bnd.den, gI, gB, gL, gF, gN, gNil, List.map_cons, List.map_nil, List.cons_append, List.nil_append, List.getElem?_cons_zero, List.getElem?_cons_succ, List.getD, Option.getD_some, cmp_eql_t, cmp_eql_f, cmp_neq_t, cmp_neq_f, cmp_lss_t, cmp_lss_f, cmp_leq_t, cmp_leq_f, cmp_gtr_t, cmp_gtr_f, cmp_geq_t, cmp_geq_f, Bool.not_eq_true', Bool.not_eq_false', Bool.and_eq_true, Bool.and_eq_false_iff, binDen, Option.some.injEq, EV.u.injEq, Nil.isNil, beq_self_eq_true, and_self, true_and, and_true, or_false, false_or, or_self, not_true_eq_false, not_false_eq_true, ne_eq, Bool.true_eq_false, Bool.false_eq_true, reduceCtorEq, hg, hss] <;> rfl) ?_)
      | (refine st_back (by rfl) (by simp only [Bx.den, Ex.den, Bnd.den, gI, gB, gL, gF, gN, gNil, List.map_cons, List.map_nil, List.cons_append, List.nil_append, List.getElem?_cons_zero, List.getElem?_cons_succ, List.getD, Option.getD_some, cmp_eql_t, cmp_eql_f, cmp_neq_t, cmp_neq_f, cmp_lss_t, cmp_lss_f, cmp_leq_t, cmp_leq_f, cmp_gtr_t, cmp_gtr_f, cmp_geq_t, cmp_geq_f, Bool.not_eq_true', Bool.not_eq_false', Bool.and_eq_true, Bool.and_eq_false_iff, binDen, Option.some.injEq, EV.u.injEq, Nil.isNil, beq_self_eq_true, and_self, true_and, and_true, or_false, false_or, or_self, not_true_eq_false, not_false_eq_true, ne_eq, Bool.true_eq_false, Bool.false_eq_true, reduceCtorEq, hwk, hg, hss] <;> rfl) (by simp only [List.take_succ_cons, List.take_zero] <;> rfl) (by rfl) ?_ ?_
         focus (refine ⟨o0, o1, o2, H0, c0, H1, c1, H2, c2, y0, y1, y2, M, t, l, n, x25, x27, x28, x29, x30, L, d, cap, k + 1, ?_, hL, by omega, by omega, hn, hn4, hl, ?_, ?_⟩
                · rw [hga hkl]; rfl
                · rw [hga hkl, List.nodup_append]; exact ⟨hnd, by simp, fun a ha b hb e => hm (by rw [← e] at hb; rw [← List.mem_singleton.1 hb]; exact e ▸ ha)⟩
                · rw [hga hkl]; intro z hz; rcases List.mem_append.1 hz with hz | hz
                  · exact hr z hz
                  · rw [List.mem_singleton.1 hz]; exact hxr)
         focus (show ((L.length : Int) - (k + 1)).toNat < ((L.length : Int) - k).toNat; omega))
      | fail "no step")
set_option maxRecDepth 10000 in
set_option maxHeartbeats 8000000 in
theorem bAll1 (P : Program) (hs : List (Nat × Nat × List Nat)) : ∀ env, allInv1 env → tAllSL1.sat { cxZb P with hints := hs } (ctrR cAllS) env := by
  rintro env ⟨o0, o1, o2, H0, c0, H1, c1, H2, c2, y0, y1, y2, M, t, l, n, z, x27, x28, x29, k, d, rfl, rfl, h0, h1, hn, hn4, g0, g1, g2⟩
  have hv := @own_len M t l n o0 o1 o2 H0 H1 H2 y0 y1 y2 k hn4 g0 g1 g2
  have hc : k = 0 ∨ k = 1 ∨ k = 2 ∨ k = 3 := by omega
  rcases hc with rfl | rfl | rfl | rfl
  · exact bAll1_0 P hs rfl hv hn hn4 g0 g1 g2
  · exact bAll1_1 P hs rfl hv hn hn4 g0 g1 g2
  · exact bAll1_2 P hs rfl hv hn hn4 g0 g1 g2
  · have hL : chainS M t l n ++ ownK o0 o1 o2 H0 H1 H2 y0 y1 y2 3 = chainS M t l n ++ ownL o0 o1 o2 H0 H1 H2 y0 y1 y2 := rfl
    generalize hLL : chainS M t l n ++ ownK o0 o1 o2 H0 H1 H2 y0 y1 y2 3 = L at hv hL
    unfold tAllSL1
    simp only [allIns, List.cons_append, List.nil_append]
    repeat' (first
      | (first
        | (with_reducible refine st_need ?_ ?_
           focus (simp only [Bx.den, Ex.den, Bnd.den, gI, gB, gL, gF, gN, gNil, List.map_cons, List.map_nil, List.cons_append, List.nil_append, List.getElem?_cons_zero, List.getElem?_cons_succ, List.getD, Option.getD_some, cmp_eql_t, cmp_eql_f, cmp_neq_t, cmp_neq_f, cmp_lss_t, cmp_lss_f, cmp_leq_t, cmp_leq_f, cmp_gtr_t, cmp_gtr_f, cmp_geq_t, cmp_geq_f, Bool.not_eq_true', Bool.not_eq_false', Bool.and_eq_true, Bool.and_eq_false_iff, binDen, Option.some.injEq, EV.u.injEq, Nil.isNil, beq_self_eq_true, and_self, true_and, and_true, or_false, false_or, or_self, not_true_eq_false, not_false_eq_true, ne_eq, Bool.true_eq_false, Bool.false_eq_true, reduceCtorEq, hLL] <;> first | omega | assumption))
        | (with_reducible refine st_and ?_ ?_)
        | (with_reducible exact st_ok)
        | (with_reducible refine st_br (fun hc => ?_) (fun hc => ?_) <;> (simp only [Bx.den, Ex.den, Bnd.den, gI, gB, gL, gF, gN, gNil, List.map_cons, List.map_nil, List.cons_append, List.nil_append, List.getElem?_cons_zero, List.getElem?_cons_succ, List.getD, Option.getD_some, cmp_eql_t, cmp_eql_f, cmp_neq_t, cmp_neq_f, cmp_lss_t, cmp_lss_f, cmp_leq_t, cmp_leq_f, cmp_gtr_t, cmp_gtr_f, cmp_geq_t, cmp_geq_f, Bool.not_eq_true', Bool.not_eq_false', Bool.and_eq_true, Bool.and_eq_false_iff, binDen, Option.some.injEq, EV.u.injEq, Nil.isNil, beq_self_eq_true, and_self, true_and, and_true, or_false, false_or, or_self, not_true_eq_false, not_false_eq_true, ne_eq, Bool.true_eq_false, Bool.false_eq_true, reduceCtorEq, hLL] at hc) <;> (try (exfalso; first | contradiction | omega)))
        | (refine st_call (by rfl) (by simp only [Bx.den, Ex.den, Bnd.den, gI, gB, gL, gF, gN, gNil, List.map_cons, List.map_nil, List.cons_append, List.nil_append, List.getElem?_cons_zero, List.getElem?_cons_succ, List.getD, Option.getD_some, cmp_eql_t, cmp_eql_f, cmp_neq_t, cmp_neq_f, cmp_lss_t, cmp_lss_f, cmp_leq_t, cmp_leq_f, cmp_gtr_t, cmp_gtr_f, cmp_geq_t, cmp_geq_f, Bool.not_eq_true', Bool.not_eq_false', Bool.and_eq_true, Bool.and_eq_false_iff, binDen, Option.some.injEq, EV.u.injEq, Nil.isNil, beq_self_eq_true, and_self, true_and, and_true, or_false, false_or, or_self, not_true_eq_false, not_false_eq_true, ne_eq, Bool.true_eq_false, Bool.false_eq_true, reduceCtorEq, hLL] <;> rfl) ?_ (by rfl <;> rfl) (by simp only [List.cons_append, List.nil_append] <;> rfl) ?_
           focus (first | rfl)))
      | (refine st_loop (by rfl) (by simp only [Bx.den, Ex.den, Bnd.den, gI, gB, gL, gF, gN, gNil, List.map_cons, List.map_nil, List.cons_append, List.nil_append, List.getElem?_cons_zero, List.getElem?_cons_succ, List.getD, Option.getD_some, cmp_eql_t, cmp_eql_f, cmp_neq_t, cmp_neq_f, cmp_lss_t, cmp_lss_f, cmp_leq_t, cmp_leq_f, cmp_gtr_t, cmp_gtr_f, cmp_geq_t, cmp_geq_f, Bool.not_eq_true', Bool.not_eq_false', Bool.and_eq_true, Bool.and_eq_false_iff, binDen, Option.some.injEq, EV.u.injEq, Nil.isNil, beq_self_eq_true, and_self, true_and, and_true, or_false, false_or, or_self, not_true_eq_false, not_false_eq_true, ne_eq, Bool.true_eq_false, Bool.false_eq_true, reduceCtorEq, hLL] <;> rfl) (by simp only [List.take_succ_cons, List.take_zero] <;> rfl) ?_ (fun env' h => bAll2 P hs env' h)
         exact ⟨o0, o1, o2, H0, c0, H1, c1, H2, c2, y0, y1, y2, M, t, l, n, _, x27, x28, x29, _, L, d, _, 0, by rw [show (0 : Int).toNat = 0 from rfl, List.take_zero, seen_nil]; rfl, hL, by omega, by omega, hn, hn4, by omega, by simp, by simp⟩)
      | fail "no step")
set_option maxRecDepth 10000 in
set_option maxHeartbeats 8000000 in
theorem vAllS (P : Program) (hs : List (Nat × Nat × List Nat)) : ∀ ins, ins.length = cAllS.nin → cAllS.pre ins → tAllS.sat { cxZb P with hints := hs } (ctrR cAllS) ins := by
  rintro ins _ ⟨o0, o1, o2, H0, c0, H1, c1, H2, c2, y0, y1, y2, M, t, l, n, rfl, hM, hn, hn4, g0, g1, g2⟩
  unfold tAllS
  simp only [allIns]
  repeat' (first
    | (first
      | (with_reducible refine st_need ?_ ?_
         focus (simp only [Bx.den, Ex.den, Bnd.den, gI, gB, gL, gF, gN, gNil, List.map_cons, List.map_nil, List.cons_append, List.nil_append, List.getElem?_cons_zero, List.getElem?_cons_succ, List.getD, Option.getD_some, cmp_eql_t, cmp_eql_f, cmp_neq_t, cmp_neq_f, cmp_lss_t, cmp_lss_f, cmp_leq_t, cmp_leq_f, cmp_gtr_t, cmp_gtr_f, cmp_geq_t, cmp_geq_f, Bool.not_eq_true', Bool.not_eq_false', Bool.and_eq_true, Bool.and_eq_false_iff, binDen, Option.some.injEq, EV.u.injEq, Nil.isNil, beq_self_eq_true, and_self, true_and, and_true, or_false, false_or, or_self, not_true_eq_false, not_false_eq_true, ne_eq, Bool.true_eq_false, Bool.false_eq_true, reduceCtorEq, hM] <;> first | omega | assumption))
      | (with_reducible refine st_and ?_ ?_)
      | (with_reducible exact st_ok)
      | (with_reducible refine st_br (fun hc => ?_) (fun hc => ?_) <;> (simp only [Bx.den, Ex.den, Bnd.den, gI, gB, gL, gF, gN, gNil, List.map_cons, List.map_nil, List.cons_append, List.nil_append, List.getElem?_cons_zero, List.getElem?_cons_succ, List.getD, Option.getD_some, cmp_eql_t, cmp_eql_f, cmp_neq_t, cmp_neq_f, cmp_lss_t, cmp_lss_f, cmp_leq_t, cmp_leq_f, cmp_gtr_t, cmp_gtr_f, cmp_geq_t, cmp_geq_f, Bool.not_eq_true', Bool.not_eq_false', Bool.and_eq_true, Bool.and_eq_false_iff, binDen, Option.some.injEq, EV.u.injEq, Nil.isNil, beq_self_eq_true, and_self, true_and, and_true, or_false, false_or, or_self, not_true_eq_false, not_false_eq_true, ne_eq, Bool.true_eq_false, Bool.false_eq_true, reduceCtorEq, hM] at hc) <;> (try (exfalso; first | contradiction | omega)))
      | (refine st_call (by rfl) (by simp only [Bx.den, Ex.den, Bnd.den, gI, gB, gL, gF, gN, gNil, List.map_cons, List.map_nil, List.cons_append, List.nil_append, List.getElem?_cons_zero, List.getElem?_cons_succ, List.getD, Option.getD_some, cmp_eql_t, cmp_eql_f, cmp_neq_t, cmp_neq_f, cmp_lss_t, cmp_lss_f, cmp_leq_t, cmp_leq_f, cmp_gtr_t, cmp_gtr_f, cmp_geq_t, cmp_geq_f, Bool.not_eq_true', Bool.not_eq_false', Bool.and_eq_true, Bool.and_eq_false_iff, binDen, Option.some.injEq, EV.u.injEq, Nil.isNil, beq_self_eq_true, and_self, true_and, and_true, or_false, false_or, or_self, not_true_eq_false, not_false_eq_true, ne_eq, Bool.true_eq_false, Bool.false_eq_true, reduceCtorEq, hM] <;> rfl) ?_ (by rfl <;> rfl) (by simp only [List.cons_append, List.nil_append] <;> rfl) ?_
         focus (first | rfl)))
    | (refine st_repl (by simp only [Bx.den, Ex.den, Bnd.den, gI, gB, gL, gF, gN, gNil, List.map_cons, List.map_nil, List.cons_append, List.nil_append, List.getElem?_cons_zero, List.getElem?_cons_succ, List.getD, Option.getD_some, cmp_eql_t, cmp_eql_f, cmp_neq_t, cmp_neq_f, cmp_lss_t, cmp_lss_f, cmp_leq_t, cmp_leq_f, cmp_gtr_t, cmp_gtr_f, cmp_geq_t, cmp_geq_f, Bool.not_eq_true', Bool.not_eq_false', Bool.and_eq_true, Bool.and_eq_false_iff, binDen, Option.some.injEq, EV.u.injEq, Nil.isNil, beq_self_eq_true, and_self, true_and, and_true, or_false, false_or, or_self, not_true_eq_false, not_false_eq_true, ne_eq, Bool.true_eq_false, Bool.false_eq_true, reduceCtorEq, hM] <;> rfl) ?_)
    | (refine st_chainY (by rfl) (by simp only [Bx.den, Ex.den, Bnd.den, gI, gB, gL, gF, gN, gNil, List.map_cons, List.map_nil, List.cons_append, List.nil_append, List.getElem?_cons_zero, List.getElem?_cons_succ, List.getD, Option.getD_some, cmp_eql_t, cmp_eql_f, cmp_neq_t, cmp_neq_f, cmp_lss_t, cmp_lss_f, cmp_leq_t, cmp_leq_f, cmp_gtr_t, cmp_gtr_f, cmp_geq_t, cmp_geq_f, Bool.not_eq_true', Bool.not_eq_false', Bool.and_eq_true, Bool.and_eq_false_iff, binDen, Option.some.injEq, EV.u.injEq, Nil.isNil, beq_self_eq_true, and_self, true_and, and_true, or_false, false_or, or_self, not_true_eq_false, not_false_eq_true, ne_eq, Bool.true_eq_false, Bool.false_eq_true, reduceCtorEq, hM] <;> rfl) hM hn4 (fun cc env' he => ?_)
       simp only [List.cons_append, List.nil_append] at he
       subst he)
    | (refine st_loop (by rfl) (by simp only [Bx.den, Ex.den, Bnd.den, gI, gB, gL, gF, gN, gNil, List.map_cons, List.map_nil, List.cons_append, List.nil_append, List.getElem?_cons_zero, List.getElem?_cons_succ, List.getD, Option.getD_some, cmp_eql_t, cmp_eql_f, cmp_neq_t, cmp_neq_f, cmp_lss_t, cmp_lss_f, cmp_leq_t, cmp_leq_f, cmp_gtr_t, cmp_gtr_f, cmp_geq_t, cmp_geq_f, Bool.not_eq_true', Bool.not_eq_false', Bool.and_eq_true, Bool.and_eq_false_iff, binDen, Option.some.injEq, EV.u.injEq, Nil.isNil, beq_self_eq_true, and_self, true_and, and_true, or_false, false_or, or_self, not_true_eq_false, not_false_eq_true, ne_eq, Bool.true_eq_false, Bool.false_eq_true, reduceCtorEq, hM] <;> rfl) (by simp only [List.take_succ_cons, List.take_zero] <;> rfl) ?_ (fun env' h => bAll1 P hs env' h)
       exact ⟨o0, o1, o2, H0, c0, H1, c1, H2, c2, y0, y1, y2, M, t, l, n, _, _, _, _, 0, cc, by rw [own0, List.append_nil]; rfl, rfl, by omega, by omega, hn, hn4, g0, g1, g2⟩)
    | fail "no step")
theorem hAllS : cAllS.Holds objs Try.prog := runCtr_holdsm (X := { cxZb Try.prog with hints := hsAllS }) objsOk mixed hctsST (callable _ Try.func36 (by kernel_rfl) (by kernel_rfl)) (by rintro ins outs _ _ ⟨o0, o1, o2, H0, c0, H1, c1, H2, c2, y0, y1, y2, M, t, l, n, _, rfl⟩; rfl) (by rw [rAllS]; exact vAllS _ _)
end Go.Proofs.Ytdabdbbgaekmdaa
