import Derived.Test.YtdabdbbgaekmdaaGreatDeM
import Derived.Test.YtdabdbbgaekmdaaGreatDfM
/- Which jobs may be: the contracts hold (printed by gen_db.py). -/
namespace Go.Proofs.YtdabdbbgaekmdaaGreat
set_option linter.unusedVariables false
set_option linter.unusedSimpArgs false
set_option linter.unusedSectionVars false
open Go Go.RowKit

def fT (a b c : Int) (j : Nat) : Int := if j % 3 = 0 then a + (j / 3 : Nat) else if j % 3 = 1 then b + (j / 3 : Nat) else c + (j / 3 : Nat)
theorem runT_eq (a b c : Int) (ha : 0 ≤ a) (ha' : a ≤ 100000) (hb : 0 ≤ b) (hb' : b ≤ 100000) (hc : 0 ≤ c) (hc' : c ≤ 100000) : ∀ n : Nat, n ≤ 100000 → runT a b c n = (List.range (3 * n)).map (fT a b c)
  | 0, _ => rfl
  | n + 1, h => by
    rw [runT, runT_eq a b c ha ha' hb hb' hc hc' n (by omega), show 3 * (n + 1) = 3 * n + 1 + 1 + 1 by omega, List.range_succ, List.range_succ, List.range_succ]
    simp only [List.map_append, List.map_cons, List.map_nil, List.append_assoc, List.cons_append, List.nil_append]
    have e0 : fT a b c (3 * n) = a + n := by unfold fT; rw [if_pos (by omega)]; congr 1; omega
    have e1 : fT a b c (3 * n + 1) = b + n := by unfold fT; rw [if_neg (by omega), if_pos (by omega)]; congr 1; omega
    have e2 : fT a b c (3 * n + 1 + 1) = c + n := by unfold fT; rw [if_neg (by omega), if_neg (by omega)]; congr 1; omega
    rw [e0, e1, e2, wrap_small (by omega) (by omega), wrap_small (by omega) (by omega), wrap_small (by omega) (by omega)]
theorem nodup_range {f : Nat → Int} {n : Nat} : ((List.range n).map f).Nodup ↔ ∀ i j, i < j → j < n → f i ≠ f j := by
  rw [List.Nodup, List.pairwise_iff_getElem]
  simp only [List.length_map, List.length_range, List.getElem_map, List.getElem_range]
  exact ⟨fun h i j hij hj => h i j (by omega) hj hij, fun h i j hi hj hij => h i j hij hj⟩
theorem fT0 (a b c : Int) (i : Nat) : fT a b c (3 * i) = a + i := by unfold fT; rw [if_pos (by omega)]; congr 1; omega
theorem fT1 (a b c : Int) (i : Nat) : fT a b c (3 * i + 1) = b + i := by unfold fT; rw [if_neg (by omega), if_pos (by omega)]; congr 1; omega
theorem fT2 (a b c : Int) (i : Nat) : fT a b c (3 * i + 2) = c + i := by unfold fT; rw [if_neg (by omega), if_neg (by omega)]; congr 1; omega
theorem fT_or (a b c : Int) (j : Nat) : ∃ i, (j = 3 * i ∧ fT a b c j = a + i) ∨ (j = 3 * i + 1 ∧ fT a b c j = b + i) ∨ (j = 3 * i + 2 ∧ fT a b c j = c + i) := by
  rcases (show j % 3 = 0 ∨ j % 3 = 1 ∨ j % 3 = 2 by omega) with h | h | h
  · exact ⟨j / 3, .inl ⟨by omega, by rw [show j = 3 * (j / 3) by omega, fT0]; congr 1; omega⟩⟩
  · exact ⟨j / 3, .inr (.inl ⟨by omega, by rw [show j = 3 * (j / 3) + 1 by omega, fT1]; congr 1; omega⟩)⟩
  · exact ⟨j / 3, .inr (.inr ⟨by omega, by rw [show j = 3 * (j / 3) + 2 by omega, fT2]; congr 1; omega⟩)⟩
theorem apart24 {st ks t ls s c : Int} (h0 : 1 ≤ s) (h1 : s ≤ 64) (h2 : 0 ≤ t ∧ t < c) (h3 : 0 ≤ ls ∧ ls + s ≤ c) (h4 : c ≤ 4096) (h5 : t < ls ∨ ls + s ≤ t) (h6 : 0 ≤ st ∧ st ≤ c) (h7 : 0 ≤ ks ∧ ks ≤ c) :
    apartB (cells24 st ks t ls s) c = true ↔ ok24 st ks t ls s c := by
  have hs : ((s.toNat : Nat) : Int) = s := by omega
  unfold apartB cells24
  rw [runT_eq ls st ks (by omega) (by omega) (by omega) (by omega) (by omega) (by omega) s.toNat (by omega)]
  rw [Bool.and_eq_true, decide_eq_true_iff, decide_eq_true_iff, List.nodup_cons, nodup_range]
  simp only [List.mem_cons, List.mem_map, List.mem_range, forall_eq_or_imp]
  generalize s.toNat = n at hs
  subst hs
  constructor
  · rintro ⟨⟨_, hr⟩, ht, hd⟩
    have bs := hr _ ⟨3 * (n - 1) + 1, by omega, rfl⟩
    have bk := hr _ ⟨3 * (n - 1) + 2, by omega, rfl⟩
    rw [fT1] at bs
    rw [fT2] at bk
    have nt : ∀ j, j < 3 * n → fT ls st ks j ≠ t := fun j hj e => ht ⟨j, hj, e⟩
    have nd : ∀ i j, i < 3 * n → j < 3 * n → i ≠ j → fT ls st ks i ≠ fT ls st ks j := by
      intro i j hi hj hne
      rcases Nat.lt_or_gt_of_ne hne with h | h
      · exact hd i j h hj
      · exact (hd j i h hi).symm
    refine ⟨⟨h6.1, by omega⟩, ⟨h7.1, by omega⟩, ?_, ?_, ?_, ?_, ?_⟩
    · refine Decidable.byContradiction fun hn => ?_
      have := nt (3 * (t - st).toNat + 1) (by omega)
      rw [fT1] at this; omega
    · refine Decidable.byContradiction fun hn => ?_
      by_cases hle : st ≤ ls
      · have := nd (3 * (ls - st).toNat + 1) (3 * 0) (by omega) (by omega) (by omega)
        rw [fT1, fT0] at this; omega
      · have := nd (3 * (st - ls).toNat) (3 * 0 + 1) (by omega) (by omega) (by omega)
        rw [fT0, fT1] at this; omega
    · refine Decidable.byContradiction fun hn => ?_
      have := nt (3 * (t - ks).toNat + 2) (by omega)
      rw [fT2] at this; omega
    · refine Decidable.byContradiction fun hn => ?_
      by_cases hle : ks ≤ ls
      · have := nd (3 * (ls - ks).toNat + 2) (3 * 0) (by omega) (by omega) (by omega)
        rw [fT2, fT0] at this; omega
      · have := nd (3 * (ks - ls).toNat) (3 * 0 + 2) (by omega) (by omega) (by omega)
        rw [fT0, fT2] at this; omega
    · refine Decidable.byContradiction fun hn => ?_
      by_cases hle : ks ≤ st
      · have := nd (3 * (st - ks).toNat + 2) (3 * 0 + 1) (by omega) (by omega) (by omega)
        rw [fT2, fT1] at this; omega
      · have := nd (3 * (ks - st).toNat + 1) (3 * 0 + 2) (by omega) (by omega) (by omega)
        rw [fT1, fT2] at this; omega
  · rintro ⟨⟨a1, a2⟩, ⟨a3, a4⟩, a5, a6, a7, a8, a9⟩
    refine ⟨⟨h2, ?_⟩, ?_, ?_⟩
    · rintro x ⟨j, hj, rfl⟩
      obtain ⟨i, ⟨e, h⟩ | ⟨e, h⟩ | ⟨e, h⟩⟩ := fT_or ls st ks j <;> rw [h] <;> omega
    · rintro ⟨j, hj, h'⟩
      obtain ⟨i, ⟨e, h⟩ | ⟨e, h⟩ | ⟨e, h⟩⟩ := fT_or ls st ks j <;> rw [h] at h' <;> omega
    · intro i j hij hj
      obtain ⟨i', ⟨e, h⟩ | ⟨e, h⟩ | ⟨e, h⟩⟩ := fT_or ls st ks i <;> obtain ⟨j', ⟨e', h'⟩ | ⟨e', h'⟩ | ⟨e', h'⟩⟩ := fT_or ls st ks j <;> rw [h, h'] <;> omega
theorem out_SFits (a b n s : Int) : cSFits.out [.i a, .i b, .i n, .i s] = [.i (fits10 a b n s)] := rfl
theorem out_DF10 (a b n s : Int) : cDF10.out [.i a, .i b, .i n, .i s] = [.i (fits10 a b n s)] := rfl
theorem vSFits (P : Program) (hs : List (Nat × Nat × List Nat)) : ∀ ins, ins.length = cSFits.nin → cSFits.pre ins → tSFits.sat { cxDf P with hints := hs } (ctrR cSFits) ins := by
  rintro ins _ ⟨a, b, n, s, rfl⟩
  simp only [Tree.sat, Bx.den, Ex.den, Bnd.den, gI, gB, gL, gF, gN, gNil, List.map_cons, List.map_nil, List.cons_append, List.nil_append, List.getElem?_cons_zero, List.getElem?_cons_succ, List.getD, Option.getD_some, cmp_eql_t, cmp_eql_f, cmp_neq_t, cmp_neq_f, cmp_lss_t, cmp_lss_f, cmp_leq_t, cmp_leq_f, cmp_gtr_t, cmp_gtr_f, cmp_geq_t, cmp_geq_f, Bool.not_eq_true', Bool.not_eq_false', Bool.and_eq_true, Bool.and_eq_false_iff, binDen, ctrR, Ctr.may, List.take_succ_cons, List.take_zero, Option.some.injEq, EV.u.injEq, tSFits, cx, cSFits, fits10, true_and, and_true, ne_eq, not_true_eq_false, not_false_eq_true, false_implies, true_implies, implies_true, List.append_assoc]
  repeat' (first | with_reducible apply And.intro | intro _)
  all_goals first
    | omega
    | (rw [if_pos (by omega)])
    | (rw [if_neg (by omega), if_pos (by omega)])
    | (rw [if_neg (by omega), if_neg (by omega)])
theorem hSFits : cSFits.Holds objs Tryz.prog := runCtr_holds (X := { cxDf Tryz.prog with hints := hsSFits }) objsOk mixed noCts (callable _ Tryz.func55 (by kernel_rfl) (by kernel_rfl)) (by rintro ins _ ⟨_, _, _, _, rfl⟩; rfl) (by rw [rSFits]; exact vSFits _ _)
set_option maxHeartbeats 4000000 in
theorem vDF10 (P : Program) (hs : List (Nat × Nat × List Nat)) : ∀ ins, ins.length = cDF10.nin → cDF10.pre ins → tDF10.sat { cxDf P with hints := hs } (ctrR cDF10) ins := by
  rintro ins _ ⟨a, b, n, s, rfl⟩
  simp only [Tree.sat, Bx.den, Ex.den, Bnd.den, gI, gB, gL, gF, gN, gNil, List.map_cons, List.map_nil, List.cons_append, List.nil_append, List.getElem?_cons_zero, List.getElem?_cons_succ, List.getD, Option.getD_some, cmp_eql_t, cmp_eql_f, cmp_neq_t, cmp_neq_f, cmp_lss_t, cmp_lss_f, cmp_leq_t, cmp_leq_f, cmp_gtr_t, cmp_gtr_f, cmp_geq_t, cmp_geq_f, Bool.not_eq_true', Bool.not_eq_false', Bool.and_eq_true, Bool.and_eq_false_iff, binDen, ctrR, Ctr.may, List.take_succ_cons, List.take_zero, Option.some.injEq, EV.u.injEq, tDF10, cx, cDF10, cSFits, fits10, true_and, and_true, ne_eq, not_true_eq_false, not_false_eq_true, false_implies, true_implies, implies_true, List.append_assoc]
  repeat' (first | with_reducible apply And.intro | intro _)
  all_goals first
    | omega
    | (rw [if_pos (by omega)])
    | (rw [if_neg (by omega), if_pos (by omega)])
    | (rw [if_neg (by omega), if_neg (by omega)])
theorem hDF10 : cDF10.Holds objs Tryz.prog := runCtr_holds (X := { cxDf Tryz.prog with hints := hsDF10 }) objsOk mixed noCts (callable _ Tryz.func56 (by kernel_rfl) (by kernel_rfl)) (by rintro ins _ ⟨_, _, _, _, rfl⟩; rfl) (by rw [rDF10]; exact vDF10 _ _)
theorem get_at {L : List Int} {k : Int} (h0 : 0 ≤ k) (h1 : k < L.length) : L[k.toNat]?.getD 0 ∈ L ∧ L.take (k + 1).toNat = L.take k.toNat ++ [L[k.toNat]?.getD 0] := by
  have hk : k.toNat < L.length := by omega
  rw [List.getElem?_eq_getElem hk]
  refine ⟨List.getElem_mem hk, ?_⟩
  rw [show (k + 1).toNat = k.toNat + 1 by omega, List.take_succ_eq_append_getElem hk]
  rfl
theorem apart_no {L : List Int} {n : Int} (h : (∃ x ∈ L, ¬ (0 ≤ x ∧ x < n)) ∨ ¬ L.Nodup) : apartB L n = false := by
  rcases h with ⟨x, hx, h⟩ | h
  · have : ¬ ∀ x ∈ L, 0 ≤ x ∧ x < n := fun g => h (g x hx)
    simp [apartB, this]
  · simp [apartB, h]
theorem apart_yes {L : List Int} {n : Int} (h : ∀ x ∈ L, 0 ≤ x ∧ x < n) (h' : L.Nodup) : apartB L n = true := by
  simp only [apartB, decide_eq_true h, decide_eq_true h', Bool.and_self]
section
variable {k : Tree} {env : List (EV U)} {X : Cx U} {R : List (EV U) → List (EV U) → Prop} {ci : Nat} {β : List Bnd}
theorem st_appsG {i : Nat} {e : Ex} {xs : List Ex} {V vc ys : List Int} (hl : gL env i = V ++ vc) (hn : e.den env = (V.length : Int)) (hx : xs.map (Ex.den env) = ys)
    (hk : ∀ (r : List Int) (env' : List (EV U)), env ++ [.l ((V ++ ys) ++ r), .i (((V ++ ys).length + r.length : Nat) : Int)] = env' → k.sat X R env') : (Tree.apps (some i) e xs k).sat X R env := by
  intro r
  refine hk r _ ?_
  have hlen : xs.length = ys.length := by rw [← hx, List.length_map]
  simp only
  rw [hl, hn, Int.toNat_natCast, List.take_left' rfl, List.length_append]
  simp only [hx, hlen, List.append_assoc]
theorem st_ce24 {st ks t ls s : Int} (hc : X.cts[ci]? = some cCe24) (ha : β.map (Bnd.den env) = [.i st, .i ks, .i t, .i ls, .i s]) (h1 : s ≤ 64)
    (hk : ∀ (d : List Int) (env' : List (EV U)), env ++ [.l (cells24 st ks t ls s ++ d), .i (cells24 st ks t ls s).length, .i (((cells24 st ks t ls s).length + d.length : Nat) : Int)] = env' → k.sat X R env') : (Tree.callm ci β k).sat X R env := by
  refine st_callm hc ha ⟨_, _, _, _, _, rfl, h1⟩ (fun o env' hr he => ?_)
  obtain ⟨st', ks', t', ls', s', d, e1, e2⟩ := hr
  simp only [List.cons.injEq, EV.i.injEq, and_true] at e1
  obtain ⟨rfl, rfl, rfl, rfl, rfl⟩ := e1
  subst e2
  exact hk d env' he
end
theorem f24_3 {st ks t ls s c : Int} (h : c < 1 ∨ 4096 < c) : fits24 st ks t ls s c = 3 := if_pos h
theorem f24_2 {st ks t ls s c : Int} (h : ¬ (c < 1 ∨ 4096 < c)) (h1 : ¬ (fits10 t ls s c = 0 ∧ s ≤ 64 ∧ ok24 st ks t ls s c)) : fits24 st ks t ls s c = 2 := by unfold fits24; rw [if_neg h, if_neg h1]
theorem f24_0 {st ks t ls s c : Int} (h : ¬ (c < 1 ∨ 4096 < c)) (h1 : fits10 t ls s c = 0 ∧ s ≤ 64 ∧ ok24 st ks t ls s c) : fits24 st ks t ls s c = 0 := by unfold fits24; rw [if_neg h, if_pos h1]
theorem fits10_3 {t l s c : Int} (h : c < 1 ∨ 4096 < c) : fits10 t l s c = 3 := if_pos h
theorem fits10_or {t l s c : Int} (h : ¬ (c < 1 ∨ 4096 < c)) : fits10 t l s c = 2 ∨ fits10 t l s c = 0 ∧ (1 ≤ s ∧ s ≤ 4096) ∧ (0 ≤ t ∧ t < c) ∧ (0 ≤ l ∧ l + s ≤ c) ∧ (t < l ∨ l + s ≤ t) := by
  unfold fits10
  rw [if_neg h]
  by_cases h0 : s < 1 ∨ 4096 < s
  · rw [if_pos (by omega)]; exact .inl rfl
  · have e1 : IntKind.i64.wrap (c - s) = c - s := wrap_small (by omega) (by omega)
    rw [e1]
    by_cases h1 : t < 0 ∨ c ≤ t ∨ l < 0 ∨ c - s < l
    · rw [if_pos (by omega)]; exact .inl rfl
    · have e2 : IntKind.i64.wrap (l + s) = l + s := wrap_small (by omega) (by omega)
      rw [e2]
      by_cases h2 : l ≤ t ∧ t < l + s
      · rw [if_pos (by omega)]; exact .inl rfl
      · rw [if_neg (by omega)]; exact .inr ⟨rfl, by omega, by omega, by omega, by omega⟩
theorem hctsDfj : ∀ (ci : Nat) (c : Ctr U), ([cSFits] : List (Ctr U))[ci]? = some c → c.Holds objs Tryz.prog := by
  intro ci c h
  match ci, h with
  | 0, h => cases h; exact hSFits
  | n + 1, h => cases h
set_option maxRecDepth 10000 in
set_option maxHeartbeats 32000000 in
theorem vJFits (P : Program) (hs : List (Nat × Nat × List Nat)) : ∀ ins, ins.length = cJFits.nin → cJFits.pre ins → tJFits.sat { cxDfj P with hints := hs } (ctrR cJFits) ins := by
  rintro ins _ ⟨st, ks, t, ls, s, c, rfl⟩
  unfold tJFits
  by_cases hc0 : c < 1 ∨ 4096 < c
  · have e := fits10_3 (t := t) (l := ls) (s := s) hc0
    repeat' (first
      | (first
        | (with_reducible refine st_need ?_ ?_
           focus (simp only [dn, reduceCtorEq, e] <;> first | omega | assumption))
        | (with_reducible refine st_and ?_ ?_)
        | (with_reducible exact st_ok)
        | (with_reducible refine st_br (fun hc => ?_) (fun hc => ?_) <;> (simp only [dn, reduceCtorEq, e] at hc) <;> (try (exfalso; first | contradiction | omega)))
        | (refine st_call (by rfl) (by simp only [dn, reduceCtorEq, e] <;> rfl) ?_ (by simp only [out_SFits, e] <;> rfl) (by simp only [dn] <;> rfl) ?_
           focus (first | exact ⟨_, _, _, _, rfl⟩)))
      | (refine st_ret (by simp only [dn, reduceCtorEq, e] <;> rfl) ?_
         show [EV.i _] = [EV.i (fits24 st ks t ls s c)]
         rw [f24_3 hc0])
      | fail "no step")
  rcases fits10_or (t := t) (l := ls) (s := s) hc0 with e | ⟨e, ⟨a1, a2⟩, ⟨a3, a4⟩, ⟨a5, a6⟩, a7⟩
  · repeat' (first
      | (first
        | (with_reducible refine st_need ?_ ?_
           focus (simp only [dn, reduceCtorEq, e] <;> first | omega | assumption))
        | (with_reducible refine st_and ?_ ?_)
        | (with_reducible exact st_ok)
        | (with_reducible refine st_br (fun hc => ?_) (fun hc => ?_) <;> (simp only [dn, reduceCtorEq, e] at hc) <;> (try (exfalso; first | contradiction | omega)))
        | (refine st_call (by rfl) (by simp only [dn, reduceCtorEq, e] <;> rfl) ?_ (by simp only [out_SFits, e] <;> rfl) (by simp only [dn] <;> rfl) ?_
           focus (first | exact ⟨_, _, _, _, rfl⟩)))
      | (refine st_ret (by simp only [dn, reduceCtorEq, e] <;> rfl) ?_
         show [EV.i _] = [EV.i (fits24 st ks t ls s c)]
         rw [f24_2 hc0 (by rw [e]; rintro ⟨h, _⟩; exact absurd h (by decide))])
      | fail "no step")
  have hw1 : IntKind.i64.wrap (c - 1) = c - 1 := wrap_small (by omega) (by omega)
  have hw2 : IntKind.i64.wrap (c - s) = c - s := wrap_small (by omega) (by omega)
  have hw3 : IntKind.i64.wrap (t + 1) = t + 1 := wrap_small (by omega) (by omega)
  have hw4 : IntKind.i64.wrap (ls + s) = ls + s := wrap_small (by omega) (by omega)
  by_cases b1 : 0 ≤ st ∧ st ≤ c - s
  · have hw5 : IntKind.i64.wrap (st + s) = st + s := wrap_small (by omega) (by omega)
    by_cases b2 : 0 ≤ ks ∧ ks ≤ c - s
    · have hw6 : IntKind.i64.wrap (ks + s) = ks + s := wrap_small (by omega) (by omega)
      repeat' (first
        | (first
          | (with_reducible refine st_need ?_ ?_
             focus (simp only [dn, reduceCtorEq, e, hw1, hw2, hw3, hw4, hw5, hw6] <;> first | omega | assumption))
          | (with_reducible refine st_and ?_ ?_)
          | (with_reducible exact st_ok)
          | (with_reducible refine st_br (fun hc => ?_) (fun hc => ?_) <;> (simp only [dn, reduceCtorEq, e, hw1, hw2, hw3, hw4, hw5, hw6] at hc) <;> (try (exfalso; first | contradiction | omega)))
          | (refine st_call (by rfl) (by simp only [dn, reduceCtorEq, e, hw1, hw2, hw3, hw4, hw5, hw6] <;> rfl) ?_ (by simp only [out_SFits, e] <;> rfl) (by simp only [dn] <;> rfl) ?_
             focus (first | exact ⟨_, _, _, _, rfl⟩)))
        | (refine st_ret (by simp only [dn, reduceCtorEq, e] <;> rfl) ?_
           first
             | (show [EV.i _] = [EV.i (fits24 st ks t ls s c)]; rw [f24_2 hc0 (by rintro ⟨_, _, ⟨k1, k2⟩, ⟨k3, k4⟩, k5, k6, k7, k8, k9⟩; omega)])
             | (show [EV.i _] = [EV.i (fits24 st ks t ls s c)]; rw [f24_0 hc0 ⟨e, by omega, ⟨by omega, by omega⟩, ⟨by omega, by omega⟩, by omega, by omega, by omega, by omega, by omega⟩]))
        | fail "no step")

    · have hw6 : True := trivial
      repeat' (first
        | (first
          | (with_reducible refine st_need ?_ ?_
             focus (simp only [dn, reduceCtorEq, e, hw1, hw2, hw3, hw4, hw5, hw6] <;> first | omega | assumption))
          | (with_reducible refine st_and ?_ ?_)
          | (with_reducible exact st_ok)
          | (with_reducible refine st_br (fun hc => ?_) (fun hc => ?_) <;> (simp only [dn, reduceCtorEq, e, hw1, hw2, hw3, hw4, hw5, hw6] at hc) <;> (try (exfalso; first | contradiction | omega)))
          | (refine st_call (by rfl) (by simp only [dn, reduceCtorEq, e, hw1, hw2, hw3, hw4, hw5, hw6] <;> rfl) ?_ (by simp only [out_SFits, e] <;> rfl) (by simp only [dn] <;> rfl) ?_
             focus (first | exact ⟨_, _, _, _, rfl⟩)))
        | (refine st_ret (by simp only [dn, reduceCtorEq, e] <;> rfl) ?_
           first
             | (show [EV.i _] = [EV.i (fits24 st ks t ls s c)]; rw [f24_2 hc0 (by rintro ⟨_, _, ⟨k1, k2⟩, ⟨k3, k4⟩, k5, k6, k7, k8, k9⟩; omega)])
             | (show [EV.i _] = [EV.i (fits24 st ks t ls s c)]; rw [f24_0 hc0 ⟨e, by omega, ⟨by omega, by omega⟩, ⟨by omega, by omega⟩, by omega, by omega, by omega, by omega, by omega⟩]))
        | fail "no step")

  · have hw5 : True := trivial
    have hw6 : True := trivial
    repeat' (first
      | (first
        | (with_reducible refine st_need ?_ ?_
           focus (simp only [dn, reduceCtorEq, e, hw1, hw2, hw3, hw4, hw5, hw6] <;> first | omega | assumption))
        | (with_reducible refine st_and ?_ ?_)
        | (with_reducible exact st_ok)
        | (with_reducible refine st_br (fun hc => ?_) (fun hc => ?_) <;> (simp only [dn, reduceCtorEq, e, hw1, hw2, hw3, hw4, hw5, hw6] at hc) <;> (try (exfalso; first | contradiction | omega)))
        | (refine st_call (by rfl) (by simp only [dn, reduceCtorEq, e, hw1, hw2, hw3, hw4, hw5, hw6] <;> rfl) ?_ (by simp only [out_SFits, e] <;> rfl) (by simp only [dn] <;> rfl) ?_
           focus (first | exact ⟨_, _, _, _, rfl⟩)))
      | (refine st_ret (by simp only [dn, reduceCtorEq, e] <;> rfl) ?_
         first
           | (show [EV.i _] = [EV.i (fits24 st ks t ls s c)]; rw [f24_2 hc0 (by rintro ⟨_, _, ⟨k1, k2⟩, ⟨k3, k4⟩, k5, k6, k7, k8, k9⟩; omega)])
           | (show [EV.i _] = [EV.i (fits24 st ks t ls s c)]; rw [f24_0 hc0 ⟨e, by omega, ⟨by omega, by omega⟩, ⟨by omega, by omega⟩, by omega, by omega, by omega, by omega, by omega⟩]))
      | fail "no step")

theorem hJFits : cJFits.Holds objs Tryz.prog := runCtr_holds (X := { cxDfj Tryz.prog with hints := hsJFits }) objsOk mixed hctsDfj (callable _ Tryz.func14 (by kernel_rfl) (by kernel_rfl)) (by rintro ins _ ⟨_, _, _, _, _, _, rfl⟩; rfl) (by rw [rJFits]; exact vJFits _ _)
set_option maxHeartbeats 8000000 in
theorem bApt (P : Program) (hs : List (Nat × Nat × List Nat)) : ∀ env, aptInv env → tAptL0.sat { cxDa1 P with hints := hs } (ctrR cApt) env := by
  rintro env ⟨xs, a, c, n, x4, k, rfl, h1, h2, h3, h4, hn0, hn1, h5, h6, h7, h8⟩
  have hsl := seen_len (xs.take k.toNat) n
  by_cases hk : k < a
  · have hga := get_at h5 (show k < xs.length by omega)
    have hwk : IntKind.i64.wrap (k + 1) = k + 1 := wrap_small (by omega) (by omega)
    obtain ⟨x, hx⟩ : ∃ x, xs[k.toNat]?.getD 0 = x := ⟨_, rfl⟩
    rw [hx] at hga
    have htk : xs.take (k + 1).toNat ++ (xs.take a.toNat).drop (k + 1).toNat = xs.take a.toNat := by
      have := List.take_append_drop (k + 1).toNat (xs.take a.toNat)
      rwa [List.take_take, Nat.min_eq_left (by omega)] at this
    have hxm : x ∈ xs.take a.toNat := by rw [← htk, hga.2]; simp
    have hno : ¬ (0 ≤ x ∧ x < n) ∨ x ∈ xs.take k.toNat → apartB (xs.take a.toNat) n = false := fun h => by
      rcases h with h | h
      · exact apart_no (.inl ⟨x, hxm, h⟩)
      · exact apart_no (.inr (not_nodup h ⟨_, by rw [← hga.2]; exact htk.symm⟩))
    by_cases hxr : 0 ≤ x ∧ x < n
    · have hg := seen_get (L := xs.take k.toNat) hxr.1 hxr.2
      have hset := seen_set (L := xs.take k.toNat) hxr.1 hxr.2
      by_cases hm : x ∈ xs.take k.toNat
      · have hR := hno (.inr hm)
        rw [if_pos hm] at hg
        unfold tAptL0
        repeat' (first
          | (first
            | (with_reducible refine st_need ?_ ?_
               focus (simp only [dn, reduceCtorEq, hx, hg, hsl] <;> first | omega | assumption))
            | (with_reducible refine st_and ?_ ?_)
            | (with_reducible exact st_ok)
            | (with_reducible refine st_br (fun hc => ?_) (fun hc => ?_) <;> (simp only [dn, reduceCtorEq, hx, hg, hsl] at hc) <;> (try (exfalso; first | contradiction | omega)))
            | (refine st_call (by rfl) (by simp only [dn, reduceCtorEq, hx, hg, hsl] <;> rfl) ?_ (by rfl <;> rfl) (by simp only [dn] <;> rfl) ?_
               focus (first | rfl)))
          | (refine st_ret (by simp only [dn, reduceCtorEq, hx, hg] <;> rfl) ?_
             focus (show [EV.b _] = [EV.b _]; rw [hR]))
          | fail "no step")
      · rw [if_neg hm] at hg
        unfold tAptL0
        repeat' (first
          | (first
            | (with_reducible refine st_need ?_ ?_
               focus (simp only [dn, reduceCtorEq, hx, hg, hsl] <;> first | omega | assumption))
            | (with_reducible refine st_and ?_ ?_)
            | (with_reducible exact st_ok)
            | (with_reducible refine st_br (fun hc => ?_) (fun hc => ?_) <;> (simp only [dn, reduceCtorEq, hx, hg, hsl] at hc) <;> (try (exfalso; first | contradiction | omega)))
            | (refine st_call (by rfl) (by simp only [dn, reduceCtorEq, hx, hg, hsl] <;> rfl) ?_ (by rfl <;> rfl) (by simp only [dn] <;> rfl) ?_
               focus (first | rfl)))
          | (refine st_setl (by simp only [dn, reduceCtorEq, hx, hset] <;> rfl) ?_)
          | (refine st_back (by rfl) (by simp only [dn, reduceCtorEq, hwk] <;> rfl) (by simp only [dn] <;> rfl) (by rfl) ?_ ?_
             focus exact ⟨xs, a, c, n, x4, k + 1, by rw [hga.2]; rfl, h1, h2, h3, h4, hn0, hn1, by omega, by omega, by rw [hga.2]; exact nodup_put h7 hm, by rw [hga.2]; intro z hz; rcases List.mem_append.1 hz with hz | hz; exact h8 z hz; rw [List.mem_singleton.1 hz]; exact hxr⟩
             focus (show (a - (k + 1)).toNat < (a - k).toNat; omega))
          | fail "no step")
    · have hR := hno (.inl hxr)
      unfold tAptL0
      repeat' (first
        | (first
          | (with_reducible refine st_need ?_ ?_
             focus (simp only [dn, reduceCtorEq, hx] <;> first | omega | assumption))
          | (with_reducible refine st_and ?_ ?_)
          | (with_reducible exact st_ok)
          | (with_reducible refine st_br (fun hc => ?_) (fun hc => ?_) <;> (simp only [dn, reduceCtorEq, hx] at hc) <;> (try (exfalso; first | contradiction | omega)))
          | (refine st_call (by rfl) (by simp only [dn, reduceCtorEq, hx] <;> rfl) ?_ (by rfl <;> rfl) (by simp only [dn] <;> rfl) ?_
             focus (first | rfl)))
        | (refine st_ret (by simp only [dn, reduceCtorEq, hx] <;> rfl) ?_
           focus (show [EV.b _] = [EV.b _]; rw [hR]))
        | fail "no step")
  · obtain rfl : k = a := by omega
    have hR := apart_yes h8 h7
    unfold tAptL0
    repeat' (first
      | (first
        | (with_reducible refine st_need ?_ ?_
           focus (simp only [dn, reduceCtorEq, h1] <;> first | omega | assumption))
        | (with_reducible refine st_and ?_ ?_)
        | (with_reducible exact st_ok)
        | (with_reducible refine st_br (fun hc => ?_) (fun hc => ?_) <;> (simp only [dn, reduceCtorEq, h1] at hc) <;> (try (exfalso; first | contradiction | omega)))
        | (refine st_call (by rfl) (by simp only [dn, reduceCtorEq, h1] <;> rfl) ?_ (by rfl <;> rfl) (by simp only [dn] <;> rfl) ?_
           focus (first | rfl)))
      | (refine st_ret (by simp only [dn, reduceCtorEq, h1] <;> rfl) ?_
         focus (show [EV.b _] = [EV.b _]; rw [hR]))
      | fail "no step")
set_option maxHeartbeats 4000000 in
theorem vApt (P : Program) (hs : List (Nat × Nat × List Nat)) : ∀ ins, ins.length = cApt.nin → cApt.pre ins → tApt.sat { cxDa1 P with hints := hs } (ctrR cApt) ins := by
  rintro ins _ ⟨xs, a, c, n, rfl, h1, h2, h3, h4, h5, h6⟩
  unfold tApt
  repeat' (first
    | (first
      | (with_reducible refine st_need ?_ ?_
         focus (simp only [dn, reduceCtorEq, h1] <;> first | omega | assumption))
      | (with_reducible refine st_and ?_ ?_)
      | (with_reducible exact st_ok)
      | (with_reducible refine st_br (fun hc => ?_) (fun hc => ?_) <;> (simp only [dn, reduceCtorEq, h1] at hc) <;> (try (exfalso; first | contradiction | omega)))
      | (refine st_call (by rfl) (by simp only [dn, reduceCtorEq, h1] <;> rfl) ?_ (by rfl <;> rfl) (by simp only [dn] <;> rfl) ?_
         focus (first | rfl)))
    | (refine st_repl (by simp only [dn, reduceCtorEq, h1] <;> rfl) ?_)
    | (refine st_loop (by rfl) (by simp only [dn, reduceCtorEq, h1] <;> rfl) (by simp only [dn] <;> rfl) ?_ (fun env' h => bApt P hs env' h)
       exact ⟨xs, a, c, n, _, 0, by rw [seen_nil]; rfl, h1, h2, h3, h4, h5, h6, by omega, by omega, by simp, by simp⟩)
    | fail "no step")
theorem hApt : cApt.Holds objs Tryz.prog := runCtr_holds (X := { cxDa1 Tryz.prog with hints := hsApt }) objsOk mixed noCts (callable _ Tryz.func58 (by kernel_rfl) (by kernel_rfl)) (by rintro ins _ ⟨_, _, _, _, rfl, _⟩; rfl) (by rw [rApt]; exact vApt _ _)
theorem runT_len (a b c : Int) : ∀ n, (runT a b c n).length = 3 * n
  | 0 => rfl
  | n + 1 => by rw [runT, List.length_append, runT_len a b c n]; simp; omega
set_option maxHeartbeats 4000000 in
theorem bCe24 (P : Program) (hs : List (Nat × Nat × List Nat)) : ∀ env, ce24Inv env → tCe24L0.sat { cxDc1 P with hints := hs } (ctrR cCe24) env := by
  rintro env ⟨st, ks, t, ls, s, k, V, d, rfl, h1, h3, hV⟩
  have hvl : V.length ≤ 9000 := by rw [hV, List.length_cons, runT_len]; omega
  have hwk : IntKind.i64.wrap ((k : Int) + 1) = ((k + 1 : Nat) : Int) := by rw [wrap_small (by omega) (by omega)]; rfl
  have hla : (V ++ d).length = V.length + d.length := List.length_append
  have hw1 : IntKind.i64.wrap ((V.length : Int) + 3) = ((V ++ [IntKind.i64.wrap (ls + k), IntKind.i64.wrap (st + k), IntKind.i64.wrap (ks + k)]).length : Int) := by rw [wrap_small (by omega) (by omega), List.length_append]; rfl
  by_cases hk : (k : Int) < s
  all_goals
    unfold tCe24L0
    repeat' (first
      | (first
        | (with_reducible refine st_need ?_ ?_
           focus (simp only [dn, reduceCtorEq, hw1, hla, hwk] <;> first | omega | assumption))
        | (with_reducible refine st_and ?_ ?_)
        | (with_reducible exact st_ok)
        | (with_reducible refine st_br (fun hc => ?_) (fun hc => ?_) <;> (simp only [dn, reduceCtorEq, hw1, hla, hwk] at hc) <;> (try (exfalso; first | contradiction | omega)))
        | (refine st_call (by rfl) (by simp only [dn, reduceCtorEq, hw1, hla, hwk] <;> rfl) ?_ (by rfl <;> rfl) (by simp only [dn] <;> rfl) ?_
           focus (first | rfl)))
      | (refine st_appsG (V := V) (by rfl) (by rfl) (by simp only [List.map_cons, List.map_nil] <;> rfl) (fun rr env' he => ?_)
         simp only [List.cons_append, List.nil_append] at he
         subst he)
      | (refine st_back (by rfl) (by simp only [dn, reduceCtorEq, hw1, hwk] <;> rfl) (by simp only [dn] <;> rfl) (by rfl) ?_ ?_
         focus exact ⟨st, ks, t, ls, s, k + 1, V ++ [IntKind.i64.wrap (ls + k), IntKind.i64.wrap (st + k), IntKind.i64.wrap (ks + k)], rr, rfl, h1, by omega, by rw [hV]; rfl⟩
         focus (show (s - ((k + 1 : Nat) : Int)).toNat < (s - (k : Int)).toNat; omega))
      | (refine st_ret (by simp only [dn, reduceCtorEq, hw1] <;> rfl) ?_
         focus exact ⟨st, ks, t, ls, s, d, rfl, by rw [show cells24 st ks t ls s = V by rw [hV, show k = s.toNat by omega]; rfl]⟩)
      | fail "no step")
set_option maxHeartbeats 4000000 in
theorem vCe24 (P : Program) (hs : List (Nat × Nat × List Nat)) : ∀ ins, ins.length = cCe24.nin → cCe24.pre ins → tCe24.sat { cxDc1 P with hints := hs } (ctrR cCe24) ins := by
  rintro ins _ ⟨st, ks, t, ls, s, rfl, h1⟩
  unfold tCe24
  repeat' (first
    | (refine st_lst (by simp only [dn, reduceCtorEq, h1] <;> rfl) ?_)
    | (refine st_loop (by rfl) (by simp only [dn, reduceCtorEq, h1] <;> rfl) (by simp only [dn] <;> rfl) ?_ (fun env' h => bCe24 P hs env' h)
       exact ⟨st, ks, t, ls, s, 0, [t], [], rfl, h1, Nat.zero_le _, by simp [runT]⟩)
    | fail "no step")
theorem hCe24 : cCe24.Holds objs Tryz.prog := runCtr_holdsm (X := { cxDc1 Tryz.prog with hints := hsCe24 }) (fuel := 20) (opens := []) (folds := []) objsOk mixed noCts (callable _ Tryz.func59 (by kernel_rfl) (by kernel_rfl)) (by rintro ins outs _ _ ⟨_, _, _, _, _, _, _, rfl⟩; rfl) (by rw [rCe24]; exact vCe24 _ _)
theorem out_Apt (xs : List Int) (a c n : Int) : cApt.out [.l xs, .i a, .i c, .i n] = [.b (apartB (xs.take a.toNat) n)] := rfl
theorem hctsDfq : ∀ (ci : Nat) (c : Ctr U), ctsDfq[ci]? = some c → c.Holds objs Tryz.prog := by
  intro ci c h
  match ci, h with
  | 0, h => cases h; exact hDF10
  | 1, h => cases h; exact hCe24
  | 2, h => cases h; exact hApt
  | n + 3, h => cases h
theorem cells24_len {st ks t ls s : Int} : (cells24 st ks t ls s).length = 3 * s.toNat + 1 := by rw [cells24, List.length_cons, runT_len]
set_option maxRecDepth 10000 in
set_option maxHeartbeats 32000000 in
theorem vQFits (P : Program) (hs : List (Nat × Nat × List Nat)) : ∀ ins, ins.length = cQFits.nin → cQFits.pre ins → tQFits.sat { cxDfq P with hints := hs } (ctrR cQFits) ins := by
  rintro ins _ ⟨st, ks, t, ls, s, c, rfl⟩
  unfold tQFits
  by_cases hc0 : c < 1 ∨ 4096 < c
  · repeat' (first
      | (first
        | (with_reducible refine st_need ?_ ?_
           focus (simp only [dn, reduceCtorEq, va_map] <;> first | omega | assumption))
        | (with_reducible refine st_and ?_ ?_)
        | (with_reducible exact st_ok)
        | (with_reducible refine st_br (fun hc => ?_) (fun hc => ?_) <;> (simp only [dn, reduceCtorEq, va_map] at hc) <;> (try (exfalso; first | contradiction | omega)))
        | (refine st_call (by rfl) (by simp only [dn, reduceCtorEq, va_map] <;> rfl) ?_ (by rfl <;> rfl) (by simp only [dn] <;> rfl) ?_
           focus (first | rfl)))
      | (refine st_ret (by simp only [dn, reduceCtorEq, va_map] <;> rfl) ?_
         show [EV.i _] = [EV.i (fits24 st ks t ls s c)]
         rw [f24_3 hc0])
      | fail "no step")
  rcases fits10_or (t := t) (l := ls) (s := s) hc0 with e | ⟨e, ⟨a1, a2⟩, ⟨a3, a4⟩, ⟨a5, a6⟩, a7⟩
  · repeat' (first
      | (first
        | (with_reducible refine st_need ?_ ?_
           focus (simp only [dn, reduceCtorEq, e] <;> first | omega | assumption))
        | (with_reducible refine st_and ?_ ?_)
        | (with_reducible exact st_ok)
        | (with_reducible refine st_br (fun hc => ?_) (fun hc => ?_) <;> (simp only [dn, reduceCtorEq, e] at hc) <;> (try (exfalso; first | contradiction | omega)))
        | (refine st_call (by rfl) (by simp only [dn, reduceCtorEq, e] <;> rfl) ?_ (by simp only [out_DF10, e] <;> rfl) (by simp only [dn] <;> rfl) ?_
           focus (first | exact ⟨_, _, _, _, rfl⟩)))
      | (refine st_ret (by simp only [dn, reduceCtorEq, e] <;> rfl) ?_
         show [EV.i _] = [EV.i (fits24 st ks t ls s c)]
         rw [f24_2 hc0 (by rw [e]; rintro ⟨h, _⟩; exact absurd h (by decide))])
      | fail "no step")
  have hcl := cells24_len (st := st) (ks := ks) (t := t) (ls := ls) (s := s)
  by_cases b1 : s ≤ 64 ∧ 0 ≤ st ∧ st ≤ c ∧ 0 ≤ ks ∧ ks ≤ c
  · have ha := apart24 (st := st) (ks := ks) (t := t) (ls := ls) (s := s) (c := c) a1 b1.1 ⟨a3, a4⟩ ⟨a5, a6⟩ (by omega) a7 ⟨b1.2.1, b1.2.2.1⟩ ⟨b1.2.2.2.1, b1.2.2.2.2⟩
    by_cases hok : ok24 st ks t ls s c
    · have hb := ha.2 hok
      repeat' (first
        | (first
          | (with_reducible refine st_need ?_ ?_
             focus (simp only [dn, reduceCtorEq, e, hb] <;> first | omega | assumption))
          | (with_reducible refine st_and ?_ ?_)
          | (with_reducible exact st_ok)
          | (with_reducible refine st_br (fun hc => ?_) (fun hc => ?_) <;> (simp only [dn, reduceCtorEq, e, hb] at hc) <;> (try (exfalso; first | contradiction | omega)))
          | (refine st_call (by rfl) (by simp only [dn, reduceCtorEq, e, hb] <;> rfl) ?_ (by simp only [out_DF10, out_Apt, e, List.take_left, Int.toNat_natCast, hb] <;> rfl) (by simp only [dn] <;> rfl) ?_
             focus (first | exact ⟨_, _, _, _, rfl⟩ | exact ⟨_, _, _, _, rfl, by omega, by rw [List.length_append]; omega, by omega, by rw [hcl]; omega, by omega, by omega⟩)))
        | (refine st_ce24 (by rfl) (by simp only [dn, reduceCtorEq, e, va_map] <;> rfl) (by omega) (fun d env' he => ?_)
           simp only [List.cons_append, List.nil_append] at he
           subst he)
        | (refine st_ret (by simp only [dn, reduceCtorEq, e, hb] <;> rfl) ?_
           first
             | (show [EV.i _] = [EV.i (fits24 st ks t ls s c)]; rw [f24_0 hc0 ⟨e, by omega, hok⟩])
             | (show [EV.i _] = [EV.i (fits24 st ks t ls s c)]; rw [f24_2 hc0 (by rintro ⟨_, h9, h⟩; first | exact hok h | (obtain ⟨⟨k1, k2⟩, ⟨k3, k4⟩, _⟩ := h; omega))]))
        | fail "no step")

    · have hb : apartB (cells24 st ks t ls s) c = false := Bool.eq_false_iff.2 fun h => hok (ha.1 h)
      repeat' (first
        | (first
          | (with_reducible refine st_need ?_ ?_
             focus (simp only [dn, reduceCtorEq, e, hb] <;> first | omega | assumption))
          | (with_reducible refine st_and ?_ ?_)
          | (with_reducible exact st_ok)
          | (with_reducible refine st_br (fun hc => ?_) (fun hc => ?_) <;> (simp only [dn, reduceCtorEq, e, hb] at hc) <;> (try (exfalso; first | contradiction | omega)))
          | (refine st_call (by rfl) (by simp only [dn, reduceCtorEq, e, hb] <;> rfl) ?_ (by simp only [out_DF10, out_Apt, e, List.take_left, Int.toNat_natCast, hb] <;> rfl) (by simp only [dn] <;> rfl) ?_
             focus (first | exact ⟨_, _, _, _, rfl⟩ | exact ⟨_, _, _, _, rfl, by omega, by rw [List.length_append]; omega, by omega, by rw [hcl]; omega, by omega, by omega⟩)))
        | (refine st_ce24 (by rfl) (by simp only [dn, reduceCtorEq, e, va_map] <;> rfl) (by omega) (fun d env' he => ?_)
           simp only [List.cons_append, List.nil_append] at he
           subst he)
        | (refine st_ret (by simp only [dn, reduceCtorEq, e, hb] <;> rfl) ?_
           first
             | (show [EV.i _] = [EV.i (fits24 st ks t ls s c)]; rw [f24_0 hc0 ⟨e, by omega, hok⟩])
             | (show [EV.i _] = [EV.i (fits24 st ks t ls s c)]; rw [f24_2 hc0 (by rintro ⟨_, h9, h⟩; first | exact hok h | (obtain ⟨⟨k1, k2⟩, ⟨k3, k4⟩, _⟩ := h; omega))]))
        | fail "no step")

  · have hb : True := trivial
    have hok : ¬ ok24 st ks t ls s c ∨ ¬ s ≤ 64 := by
      by_cases h64 : s ≤ 64
      · refine .inl ?_
        rintro ⟨⟨k1, k2⟩, ⟨k3, k4⟩, _⟩
        omega
      · exact .inr h64
    repeat' (first
      | (first
        | (with_reducible refine st_need ?_ ?_
           focus (simp only [dn, reduceCtorEq, e] <;> first | omega | assumption))
        | (with_reducible refine st_and ?_ ?_)
        | (with_reducible exact st_ok)
        | (with_reducible refine st_br (fun hc => ?_) (fun hc => ?_) <;> (simp only [dn, reduceCtorEq, e] at hc) <;> (try (exfalso; first | contradiction | omega)))
        | (refine st_call (by rfl) (by simp only [dn, reduceCtorEq, e] <;> rfl) ?_ (by simp only [out_DF10, e] <;> rfl) (by simp only [dn] <;> rfl) ?_
           focus (first | exact ⟨_, _, _, _, rfl⟩)))
      | (refine st_ret (by simp only [dn, reduceCtorEq, e] <;> rfl) ?_
         show [EV.i _] = [EV.i (fits24 st ks t ls s c)]
         rw [f24_2 hc0 (by rintro ⟨_, h9, h⟩; exact hok.elim (fun g => g h) (fun g => g h9))])
      | fail "no step")
theorem hQFits : cQFits.Holds objs Tryz.prog := runCtr_holds (X := { cxDfq Tryz.prog with hints := hsQFits }) objsOk mixed hctsDfq (callable _ Tryz.func15 (by kernel_rfl) (by kernel_rfl)) (by rintro ins _ ⟨_, _, _, _, _, _, rfl⟩; rfl) (by rw [rQFits]; exact vQFits _ _)
end Go.Proofs.YtdabdbbgaekmdaaGreat
