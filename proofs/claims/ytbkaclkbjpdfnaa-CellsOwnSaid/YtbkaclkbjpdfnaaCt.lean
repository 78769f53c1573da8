/- An access changes its own cell alone: the law holds. -/
import Derived.Test.YtbkaclkbjpdfnaaCs
namespace Go.Proofs.Ytbkaclkbjpdfnaa
set_option linter.unusedVariables false
set_option linter.unusedSimpArgs false
set_option linter.unusedSectionVars false
open Go Go.RowKit

theorem does_out {M : MemSt} {q a o x : Int} (h : a < 0 ∨ M.W.length ≤ a) (h1 : 1 ≤ q) (h2 : q ≤ 4) : doesM M q a o x = ⟨M.W, q, a, 0, 0, false, IntKind.i64.wrap (M.N + 1)⟩ ∧ doesT M q a o x = 0 := by
  have : q = 1 ∨ q = 2 ∨ q = 3 ∨ q = 4 := by omega
  rcases this with rfl | rfl | rfl | rfl
  · simp [doesM, doesT, load_out h]
  · simp [doesM, doesT, store_out h]
  · simp [doesM, doesT, cas_out h]
  · simp [doesM, doesT, add_out h]
structure InD (M M' : MemSt) (T q a o x : Int) : Prop where
  fk : M'.k = q
  fa : M'.a = a
  fN : M'.N = IntKind.i64.wrap (M.N + 1)
  fo : M'.o = M.W[a.toNat]?.getD 0
  fn : M'.n = M'.W[a.toNat]?.getD 0
  nh : M'.h = false → M'.W = M.W
  yh : M'.h = true → M'.W = M.W.set a.toNat M'.n
  q1 : q = 1 → M'.h = false ∧ T = M'.o ∧ M'.n = M'.o
  q2 : q = 2 → M'.h = true ∧ M'.n = o
  q3 : q = 3 → M'.h = decide (M'.o = o) ∧ T = (if M'.h then 1 else 0) ∧ (M'.h = true → M'.n = x) ∧ (M'.h = false → M'.n = M'.o)
  q4 : q = 4 → M'.h = true ∧ M'.n = IntKind.u64.wrap (M'.o + o) ∧ T = M'.n
theorem does_in {M : MemSt} {q a o x : Int} (h : 0 ≤ a) (h' : a < M.W.length) (h1 : 1 ≤ q) (h2 : q ≤ 4) : InD M (doesM M q a o x) (doesT M q a o x) q a o x := by
  have hlt : a.toNat < M.W.length := by omega
  have : q = 1 ∨ q = 2 ∨ q = 3 ∨ q = 4 := by omega
  rcases this with rfl | rfl | rfl | rfl
  · constructor <;> simp [doesM, doesT, load_in h h']
  · constructor <;> simp [doesM, doesT, store_in h h', hlt]
  · by_cases hx : M.W[a.toNat]?.getD 0 = o
    · have hx' : M.W[a.toNat] = o := by simpa [hlt] using hx
      constructor <;> simp [doesM, doesT, cas_is h h' hx, hlt, hx']
    · have hx' : ¬ M.W[a.toNat] = o := by simpa [hlt] using hx
      constructor <;> simp [doesM, doesT, cas_not h h' hx, hlt, hx']
  · constructor <;> simp [doesM, doesT, add_in h h', hlt]
theorem store_W {A : MemSt} {a n : Int} (h : 0 ≤ a) (h' : a < A.W.length) : (A.store a n).W = A.W.set a.toNat n := by rw [store_in h h']
theorem own_changes {M M' : MemSt} {T q a o x j : Int} (hI : InD M M' T q a o x) (ha : 0 ≤ a) (hj : 0 ≤ j) (h : ¬ M'.W[j.toNat]?.getD 0 = M.W[j.toNat]?.getD 0) : j = a ∧ M'.h = true := by
  cases hh : M'.h
  · rw [hI.nh hh] at h; exact absurd rfl h
  · refine ⟨?_, rfl⟩
    rw [hI.yh hh] at h
    by_cases e : a.toNat = j.toNat
    · omega
    · rw [List.getElem?_set_ne e] at h; exact absurd rfl h
set_option maxRecDepth 10000 in
set_option maxHeartbeats 8000000 in
theorem bOwn0 (P : Program) (hs : List (Nat × Nat × List Nat)) : ∀ env, own2Inv env → 0 ≤ gF env 1 (gI env 12).toNat 1 → tOwnL0.sat { cxO P with hints := hs } (ctrR cOwn) env := by
  rintro env ⟨n, g, k, c, p, x6, x7, x8, x9, M, A, i, x13, x16, x18, x20, x23, x30, j, rfl, h1, h2, h3, h4, h5, h6, h7, h8, h9, h10, h11⟩ hcond
  simp only [gF, gI, List.getElem?_cons_zero, List.getElem?_cons_succ] at hcond
  have hw : IntKind.i64.wrap (1 + p) = 1 + p := wrap_small (by omega) (by omega)
  have hlen := len_does M (g i.toNat 0) (g i.toNat 1) (g i.toNat 2) (g i.toNat 3)
  by_cases ha : g i.toNat 1 < M.W.length
  · have hI := does_in (M := M) (o := g i.toNat 2) (x := g i.toNat 3) hcond ha h10 h11
    have hst : ∀ m, (A.store (g i.toNat 1) m).W = M.W.set (g i.toNat 1).toNat m := fun m => by rw [← h7]; exact store_W hcond (by rw [h7]; exact ha)
    have hch := fun hj => own_changes (j := j) hI hcond h8 hj
    obtain ⟨f1, f2, f3, f4, f5, f6, f7, f8, f9, f10, f11⟩ := hI
    simp only [Tree.sat, Bx.den, Ex.den, Bnd.den, gI, gB, gL, gF, gN, gNil, List.map_cons, List.map_nil, List.cons_append, List.nil_append, List.getElem?_cons_zero, List.getElem?_cons_succ, List.getD, Option.getD_some, cmp_eql_t, cmp_eql_f, cmp_neq_t, cmp_neq_f, cmp_lss_t, cmp_lss_f, cmp_leq_t, cmp_leq_f, cmp_gtr_t, cmp_gtr_f, cmp_geq_t, cmp_geq_f, Bool.not_eq_true', Bool.not_eq_false', Bool.and_eq_true, Bool.and_eq_false_iff, binDen, ctrR, List.take_succ_cons, List.take_zero, Option.some.injEq, EV.u.injEq, tOwnL0, cxO, cx, ctsO, ctsC, cOwn, hw, pre_store, out_store, true_and, List.append_assoc, ne_eq, not_true_eq_false, false_implies, false_or, or_self, and_true, decide_true, beq_self_eq_true, Bool.not_true, reduceCtorEq, true_implies, implies_true, not_false_eq_true]
    repeat' (first | with_reducible apply And.intro | intro _)
    all_goals first
      | omega
      | (rw [wrap_small (by omega) (by omega)]; refine ⟨_, _, _, _, _, _, _, _, _, _, _, _, _, _, _, _, _, _, _, rfl, h1, h2, h3, h4, h5, h6, h7, ?_, ?_, h10, h11⟩ <;> omega)
      | (rw [wrap_small (by omega) (by omega)]; show ((1 + p - (j + 1)).toNat < (1 + p - j).toNat); omega)
      | (rw [wrap_small (by omega) (by omega)]; show (((k : Int) - (i + 1)).toNat < ((k : Int) - i).toNat); omega)
      | (refine absurd f4 ?_; assumption)
      | (refine absurd f5 ?_; assumption)
      | (refine absurd (hch ?_).1 ?_ <;> assumption)
      | (refine absurd (hch ?_).2 ?_ <;> first | assumption | (refine Bool.eq_false_iff.1 ?_; assumption))
      | (rw [wrap_small (by omega) (by omega)]; refine ⟨_, _, _, _, _, _, _, _, _, _, _, _, rfl, ?_, ?_, h3, h4, h5, ?_, ?_⟩ <;> first | omega | (rw [f6 (by assumption)]; exact h7) | (rw [hst, f7 (by assumption)]))
      | (exfalso; clear hch hst f3 f4 f5 f6 f7 hlen hw h1 h2 h3 h4 h5 h6 h7 h8 h9 f1 f2; generalize (doesM M (g i.toNat 0) (g i.toNat 1) (g i.toNat 2) (g i.toNat 3)).n = dn at *; generalize (doesM M (g i.toNat 0) (g i.toNat 1) (g i.toNat 2) (g i.toNat 3)).o = do_ at *; generalize (doesM M (g i.toNat 0) (g i.toNat 1) (g i.toNat 2) (g i.toNat 3)).h = dh at *; generalize doesT M (g i.toNat 0) (g i.toNat 1) (g i.toNat 2) (g i.toNat 3) = dt at *; generalize (doesM M (g i.toNat 0) (g i.toNat 1) (g i.toNat 2) (g i.toNat 3)).W[(g i.toNat 1).toNat]?.getD 0 = z1 at *; generalize M.W[(g i.toNat 1).toNat]?.getD 0 = z2 at *; grind)
      | (exfalso; simp only [cmpDen] at *; clear hch hst f3 f4 f5 f6 f7 hlen hw h1 h2 h3 h4 h5 h6 h7 h8 h9 f1 f2; generalize (doesM M (g i.toNat 0) (g i.toNat 1) (g i.toNat 2) (g i.toNat 3)).n = dn at *; generalize (doesM M (g i.toNat 0) (g i.toNat 1) (g i.toNat 2) (g i.toNat 3)).o = do_ at *; generalize (doesM M (g i.toNat 0) (g i.toNat 1) (g i.toNat 2) (g i.toNat 3)).h = dh at *; generalize doesT M (g i.toNat 0) (g i.toNat 1) (g i.toNat 2) (g i.toNat 3) = dt at *; generalize (doesM M (g i.toNat 0) (g i.toNat 1) (g i.toNat 2) (g i.toNat 3)).W[(g i.toNat 1).toNat]?.getD 0 = z1 at *; generalize M.W[(g i.toNat 1).toNat]?.getD 0 = z2 at *; grind)
  · obtain ⟨e1, e2⟩ := does_out (M := M) (q := g i.toNat 0) (a := g i.toNat 1) (o := g i.toNat 2) (x := g i.toNat 3) (.inr (by omega)) h10 h11
    have fW : (doesM M (g i.toNat 0) (g i.toNat 1) (g i.toNat 2) (g i.toNat 3)).W = M.W := by rw [e1]
    have fo : (doesM M (g i.toNat 0) (g i.toNat 1) (g i.toNat 2) (g i.toNat 3)).o = 0 := by rw [e1]
    have fn : (doesM M (g i.toNat 0) (g i.toNat 1) (g i.toNat 2) (g i.toNat 3)).n = 0 := by rw [e1]
    have fh : (doesM M (g i.toNat 0) (g i.toNat 1) (g i.toNat 2) (g i.toNat 3)).h = false := by rw [e1]
    clear e1
    simp only [Tree.sat, Bx.den, Ex.den, Bnd.den, gI, gB, gL, gF, gN, gNil, List.map_cons, List.map_nil, List.cons_append, List.nil_append, List.getElem?_cons_zero, List.getElem?_cons_succ, List.getD, Option.getD_some, cmp_eql_t, cmp_eql_f, cmp_neq_t, cmp_neq_f, cmp_lss_t, cmp_lss_f, cmp_leq_t, cmp_leq_f, cmp_gtr_t, cmp_gtr_f, cmp_geq_t, cmp_geq_f, Bool.not_eq_true', Bool.not_eq_false', Bool.and_eq_true, Bool.and_eq_false_iff, binDen, ctrR, List.take_succ_cons, List.take_zero, Option.some.injEq, EV.u.injEq, tOwnL0, cxO, cx, ctsO, ctsC, cOwn, hw, pre_store, out_store, true_and, List.append_assoc, ne_eq, not_true_eq_false, false_implies, false_or, or_self, and_true, decide_true, beq_self_eq_true, Bool.not_true, reduceCtorEq, true_implies, implies_true, not_false_eq_true]
    repeat' (first | with_reducible apply And.intro | intro _)
    all_goals first
      | omega
      | (rw [wrap_small (by omega) (by omega)]; refine ⟨_, _, _, _, _, _, _, _, _, _, _, _, _, _, _, _, _, _, _, rfl, h1, h2, h3, h4, h5, h6, h7, ?_, ?_, h10, h11⟩ <;> omega)
      | (rw [wrap_small (by omega) (by omega)]; show ((1 + p - (j + 1)).toNat < (1 + p - j).toNat); omega)
      | (rw [wrap_small (by omega) (by omega)]; show (((k : Int) - (i + 1)).toNat < ((k : Int) - i).toNat); omega)
      | (rw [wrap_small (by omega) (by omega)]; refine ⟨_, _, _, _, _, _, _, _, _, _, _, _, rfl, ?_, ?_, h3, h4, h5, ?_, ?_⟩ <;> first | omega | (rw [fW]; exact h7))
      | (exfalso; simp_all; done)
set_option maxRecDepth 10000 in
set_option maxHeartbeats 8000000 in
theorem bOwn1 (P : Program) (hs : List (Nat × Nat × List Nat)) : ∀ env, own2Inv env → gF env 1 (gI env 12).toNat 1 < 0 → tOwnL1.sat { cxO P with hints := hs } (ctrR cOwn) env := by
  rintro env ⟨n, g, k, c, p, x6, x7, x8, x9, M, A, i, x13, x16, x18, x20, x23, x30, j, rfl, h1, h2, h3, h4, h5, h6, h7, h8, h9, h10, h11⟩ hcond
  simp only [gF, gI, List.getElem?_cons_zero, List.getElem?_cons_succ] at hcond
  have hw : IntKind.i64.wrap (1 + p) = 1 + p := wrap_small (by omega) (by omega)
  have hlen := len_does M (g i.toNat 0) (g i.toNat 1) (g i.toNat 2) (g i.toNat 3)
  obtain ⟨e1, e2⟩ := does_out (M := M) (q := g i.toNat 0) (a := g i.toNat 1) (o := g i.toNat 2) (x := g i.toNat 3) (.inl (by omega)) h10 h11
  have fW : (doesM M (g i.toNat 0) (g i.toNat 1) (g i.toNat 2) (g i.toNat 3)).W = M.W := by rw [e1]
  have fo : (doesM M (g i.toNat 0) (g i.toNat 1) (g i.toNat 2) (g i.toNat 3)).o = 0 := by rw [e1]
  have fn : (doesM M (g i.toNat 0) (g i.toNat 1) (g i.toNat 2) (g i.toNat 3)).n = 0 := by rw [e1]
  have fh : (doesM M (g i.toNat 0) (g i.toNat 1) (g i.toNat 2) (g i.toNat 3)).h = false := by rw [e1]
  clear e1
  simp only [Tree.sat, Bx.den, Ex.den, Bnd.den, gI, gB, gL, gF, gN, gNil, List.map_cons, List.map_nil, List.cons_append, List.nil_append, List.getElem?_cons_zero, List.getElem?_cons_succ, List.getD, Option.getD_some, cmp_eql_t, cmp_eql_f, cmp_neq_t, cmp_neq_f, cmp_lss_t, cmp_lss_f, cmp_leq_t, cmp_leq_f, cmp_gtr_t, cmp_gtr_f, cmp_geq_t, cmp_geq_f, Bool.not_eq_true', Bool.not_eq_false', Bool.and_eq_true, Bool.and_eq_false_iff, binDen, ctrR, List.take_succ_cons, List.take_zero, Option.some.injEq, EV.u.injEq, tOwnL1, cxO, cx, ctsO, ctsC, cOwn, hw, pre_store, out_store, true_and, List.append_assoc, ne_eq, not_true_eq_false, false_implies, false_or, or_self, and_true, decide_true, beq_self_eq_true, Bool.not_true, reduceCtorEq, true_implies, implies_true, not_false_eq_true]
  repeat' (first | with_reducible apply And.intro | intro _)
  all_goals first
    | omega
    | (rw [wrap_small (by omega) (by omega)]; refine ⟨_, _, _, _, _, _, _, _, _, _, _, _, _, _, _, _, _, _, _, rfl, h1, h2, h3, h4, h5, h6, h7, ?_, ?_, h10, h11⟩ <;> omega)
    | (rw [wrap_small (by omega) (by omega)]; show ((1 + p - (j + 1)).toNat < (1 + p - j).toNat); omega)
    | (rw [wrap_small (by omega) (by omega)]; show (((k : Int) - (i + 1)).toNat < ((k : Int) - i).toNat); omega)
    | (rw [wrap_small (by omega) (by omega)]; refine ⟨_, _, _, _, _, _, _, _, _, _, _, _, rfl, ?_, ?_, h3, h4, h5, ?_, ?_⟩ <;> first | omega | (rw [fW]; exact h7))
    | (exfalso; simp_all; done)
set_option maxRecDepth 10000 in
set_option maxHeartbeats 8000000 in
theorem bOwn2 (P : Program) (hs : List (Nat × Nat × List Nat)) : ∀ env, own1Inv env → tOwnL2.sat { cxO P with hints := hs } (ctrR cOwn) env := by
  rintro env ⟨n, g, k, c, p, x6, x7, x8, x9, M, A, i, rfl, h1, h2, h3, h4, h5, h6, h7⟩
  have hw : IntKind.i64.wrap (1 + p) = 1 + p := wrap_small (by omega) (by omega)
  have hlen := len_does M (g i.toNat 0) (g i.toNat 1) (g i.toNat 2) (g i.toNat 3)
  have hf : ∀ (q : 1 ≤ g i.toNat 0) (q' : g i.toNat 0 ≤ 4), (doesM M (g i.toNat 0) (g i.toNat 1) (g i.toNat 2) (g i.toNat 3)).k = g i.toNat 0 ∧ (doesM M (g i.toNat 0) (g i.toNat 1) (g i.toNat 2) (g i.toNat 3)).a = g i.toNat 1 ∧ (doesM M (g i.toNat 0) (g i.toNat 1) (g i.toNat 2) (g i.toNat 3)).N = IntKind.i64.wrap (M.N + 1) := by
    intro q q'
    by_cases ha : 0 ≤ g i.toNat 1 ∧ g i.toNat 1 < M.W.length
    · have hI := does_in (M := M) (o := g i.toNat 2) (x := g i.toNat 3) ha.1 ha.2 q q'
      exact ⟨hI.fk, hI.fa, hI.fN⟩
    · obtain ⟨e1, e2⟩ := does_out (M := M) (q := g i.toNat 0) (a := g i.toNat 1) (o := g i.toNat 2) (x := g i.toNat 3) (by omega) q q'
      rw [e1]; exact ⟨rfl, rfl, rfl⟩
  have hn : g i.toNat 0 < 1 ∨ 4 < g i.toNat 0 → doesM M (g i.toNat 0) (g i.toNat 1) (g i.toNat 2) (g i.toNat 3) = M := by
    intro h
    unfold doesM
    rw [if_neg (by omega), if_neg (by omega), if_neg (by omega), if_neg (by omega)]
  simp only [Tree.sat, Bx.den, Ex.den, Bnd.den, gI, gB, gL, gF, gN, gNil, List.map_cons, List.map_nil, List.cons_append, List.nil_append, List.getElem?_cons_zero, List.getElem?_cons_succ, List.getD, Option.getD_some, cmp_eql_t, cmp_eql_f, cmp_neq_t, cmp_neq_f, cmp_lss_t, cmp_lss_f, cmp_leq_t, cmp_leq_f, cmp_gtr_t, cmp_gtr_f, cmp_geq_t, cmp_geq_f, Bool.not_eq_true', Bool.not_eq_false', Bool.and_eq_true, Bool.and_eq_false_iff, binDen, ctrR, List.take_succ_cons, List.take_zero, Option.some.injEq, EV.u.injEq, tOwnL2, cxO, cx, ctsO, ctsC, cOwn, hw, h7, len_does, pre_words, out_words, pre_count, out_count, pre_does, out_does, pre_last, out_last, out_same, true_and, List.append_assoc, ne_eq, not_true_eq_false, false_implies, false_or, or_self, and_true, decide_true, beq_self_eq_true, Bool.not_true, reduceCtorEq, true_implies, implies_true, not_false_eq_true, decide_eq_true_eq, decide_eq_false_iff_not]
  repeat' (first | with_reducible apply And.intro | intro _)
  all_goals first
    | omega
    | (refine pre_same ?_ ?_ ?_ <;> (try simp only [len_does]) <;> omega)
    | (refine bOwn0 P hs _ ?_ ?_ <;> assumption)
    | (refine bOwn1 P hs _ ?_ ?_; · assumption
       · show g i.toNat 1 < 0; omega)
    | (rw [hn (by omega), wrap_small (by omega) (by omega)]; exact ⟨_, _, _, _, _, _, _, _, _, _, _, _, rfl, by omega, by omega, h3, h4, h5, h6, h7⟩)
    | (rw [wrap_small (by omega) (by omega)]; show (((k : Int) - (i + 1)).toNat < ((k : Int) - i).toNat); omega)
    | (rw [(hf (by omega) (by omega)).1, (hf (by omega) (by omega)).2.1]; exact ⟨_, _, _, _, _, _, _, _, _, _, _, _, _, _, _, _, _, _, _, rfl, h1, by omega, h3, h4, h5, h6, h7, by omega, by omega, by omega, by omega⟩)
    | (exfalso; have e := hf (by omega) (by omega); grind)
    | (exfalso; have e := hn (by omega); grind)
set_option maxRecDepth 10000 in
set_option maxHeartbeats 4000000 in
theorem vOwn (P : Program) (hs : List (Nat × Nat × List Nat)) : ∀ ins, ins.length = cOwn.nin → cOwn.pre ins → tOwn.sat { cxO P with hints := hs } (ctrR cOwn) ins := by
  rintro ins _ ⟨n, g, k, c, rfl⟩
  have hp1 : 0 ≤ n.emod 100 := Int.emod_nonneg _ (by decide)
  have hp2 : n.emod 100 < 100 := Int.emod_lt_of_pos _ (by decide)
  have hw : IntKind.i64.wrap (1 + n.emod 100) = 1 + n.emod 100 := wrap_small (by omega) (by omega)
  have hl := len_new (n := 1 + n.emod 100) (by omega)
  simp only [Tree.sat, Bx.den, Ex.den, Bnd.den, gI, gB, gL, gF, gN, gNil, List.map_cons, List.map_nil, List.cons_append, List.nil_append, List.getElem?_cons_zero, List.getElem?_cons_succ, List.getD, Option.getD_some, cmp_eql_t, cmp_eql_f, cmp_neq_t, cmp_neq_f, cmp_lss_t, cmp_lss_f, cmp_leq_t, cmp_leq_f, cmp_gtr_t, cmp_gtr_f, cmp_geq_t, cmp_geq_f, Bool.not_eq_true', Bool.not_eq_false', Bool.and_eq_true, Bool.and_eq_false_iff, binDen, ctrR, List.take_succ_cons, List.take_zero, Option.some.injEq, EV.u.injEq, tOwn, cxO, cx, ctsO, ctsC, cOwn, pre_known, out_known, out_pick, hw, pre_new, out_new (show 1 ≤ 1 + n.emod 100 by omega) (show 1 + n.emod 100 ≤ 4096 by omega), Nil.isNil, true_and, List.append_assoc, ne_eq, not_true_eq_false, false_implies, false_or, or_self, and_true, decide_true, beq_self_eq_true, Bool.not_true, reduceCtorEq, true_implies, implies_true, not_false_eq_true]
  repeat' (first | with_reducible apply And.intro | intro _)
  all_goals first
    | omega
    | exact pre_pick (by decide) (by decide)
    | exact bOwn2 P hs _ (by assumption)
    | exact ⟨_, _, _, _, _, _, _, _, _, _, _, _, rfl, by omega, by omega, by omega, by omega, by omega, by omega, rfl⟩
theorem hOwn : cOwn.Holds objs Try.prog := runCtr_holds (X := cxO Try.prog) objsOk mixed hctsO (callable _ Try.func5 (by kernel_rfl) (by kernel_rfl)) (by rintro ins _ ⟨_, _, _, _, rfl⟩; rfl) (by rw [rOwn]; exact vOwn _ _)
theorem cellsOwn_walk (x : Int) {v : Value} {n c : Nat} {g : Nat → Nat → Int} (W : World) (h : SliceAt W actKs v n c g) : Calls Try.prog 5 #[.int .i64 x, v] W fun e W' => e = .returned (.bool true) ∧ Below W.heap.size W W' :=
  hOwn.law rfl (ins := [.i x, .f g n, .i n, .i c]) (ρ := [ptrOf v]) (vals := [.int .i64 x, v]) rfl ⟨_, _, _, _, rfl⟩ rfl
    (DenL.cons ⟨fun _ _ => rfl, trivial⟩ (DenL.cons (h.den rfl (by simp) rfl rfl) DenL.nil))
    (Sat.inputs rfl (by intro m e hm; match m, hm with | 0, hm => cases hm; exact .inl ⟨_, _, rfl, h.ro rfl⟩ | m + 1, hm => cases hm))
end Go.Proofs.Ytbkaclkbjpdfnaa
