/- Which limbos and towers may be: the contracts hold. -/
import Derived.Test.YtdldcofddfkkbaaGreatPeT
namespace Go.Proofs.YtdldcofddfkkbaaGreat
set_option linter.unusedVariables false
set_option linter.unusedSimpArgs false
set_option linter.unusedSectionVars false
open Go Go.RowKit

theorem get_at {L : List Int} {k : Int} (h0 : 0 ≤ k) (h1 : k < L.length) : L[k.toNat]?.getD 0 ∈ L ∧ L.take (k + 1).toNat = L.take k.toNat ++ [L[k.toNat]?.getD 0] := by
  have hk : k.toNat < L.length := by omega
  rw [List.getElem?_eq_getElem hk]
  refine ⟨List.getElem_mem hk, ?_⟩
  rw [show (k + 1).toNat = k.toNat + 1 by omega, List.take_succ_eq_append_getElem hk]
  rfl
theorem getD_app {L d : List Int} {k : Int} (h0 : 0 ≤ k) (h1 : k < L.length) : (L ++ d)[k.toNat]?.getD 0 = L[k.toNat]?.getD 0 := by rw [List.getElem?_append_left (by omega)]
theorem twice_at {L : List Int} {k : Int} (h0 : 0 ≤ k) (h1 : k < L.length) (h : L[k.toNat]?.getD 0 ∈ L.take k.toNat) : ¬ L.Nodup :=
  not_nodup h ⟨L.drop (k + 1).toNat, by rw [← (get_at h0 h1).2, List.take_append_drop]⟩
theorem mem_runI {a x : Int} : ∀ {n : Nat}, x ∈ runI a n → ∃ i : Nat, i < n ∧ x = IntKind.i64.wrap (a + i)
  | 0, h => by cases h
  | n + 1, h => by
    rw [runI, List.mem_append, List.mem_singleton] at h
    rcases h with h | h
    · obtain ⟨i, h1, h2⟩ := mem_runI h; exact ⟨i, by omega, h2⟩
    · exact ⟨n, by omega, h⟩
theorem mem_runP {a b x : Int} : ∀ {n : Nat}, x ∈ runP a b n → ∃ i : Nat, i < n ∧ (x = IntKind.i64.wrap (a + i) ∨ x = IntKind.i64.wrap (b + i))
  | 0, h => by cases h
  | n + 1, h => by
    rw [runP, List.mem_append] at h
    rcases h with h | h
    · obtain ⟨i, h1, h2⟩ := mem_runP h; exact ⟨i, by omega, h2⟩
    · simp only [List.mem_cons, List.not_mem_nil, or_false] at h
      exact ⟨n, by omega, h⟩
theorem fits10_facts {t l s c : Int} (h : fits10 t l s c = 0) : 1 ≤ s ∧ s ≤ 4096 ∧ 0 ≤ t ∧ t < c ∧ 0 ≤ l ∧ l + s ≤ c ∧ 1 ≤ c ∧ c ≤ 4096 := by
  unfold fits10 at h
  by_cases h1 : c < 1 ∨ 4096 < c
  · rw [if_pos h1] at h; omega
  · rw [if_neg h1] at h
    by_cases h0 : s < 1 ∨ 4096 < s
    · rw [if_pos (by omega)] at h; omega
    · have e1 : IntKind.i64.wrap (c - s) = c - s := wrap_small (by omega) (by omega)
      rw [e1] at h
      by_cases h2 : t < 0 ∨ c ≤ t ∨ l < 0 ∨ c - s < l
      · rw [if_pos (by omega)] at h; omega
      · omega
theorem fits12_facts {t p n c : Int} (h : fits12 t p n c = 0) : 1 ≤ n ∧ n ≤ 64 ∧ 0 ≤ t ∧ t < c ∧ 0 ≤ p ∧ p + n ≤ c := by
  unfold fits12 at h
  by_cases h1 : c < 1 ∨ 4096 < c
  · rw [if_pos h1] at h; omega
  · rw [if_neg h1] at h
    by_cases h0 : n < 1 ∨ 64 < n
    · rw [if_pos (by omega)] at h; omega
    · have e1 : IntKind.i64.wrap (c - n) = c - n := wrap_small (by omega) (by omega)
      rw [e1] at h
      by_cases h2 : t < 0 ∨ c ≤ t ∨ p < 0 ∨ c - n < p
      · rw [if_pos (by omega)] at h; omega
      · omega
theorem fits11_facts {t l s g w m c : Int} (h : fits11 t l s g w m c = 0) : arFacts t l s g w m c ∧ (cells11 t l s g w).Nodup := by
  have h' := h
  unfold fits11 at h
  by_cases h1 : c < 1 ∨ 4096 < c
  · rw [if_pos h1] at h; omega
  · rw [if_neg h1] at h
    by_cases h0 : fits10 t l s c = 0
    · obtain ⟨f1, f2, f3, f4, f5, f6, f7, f8⟩ := fits10_facts h0
      have e1 : IntKind.i64.wrap (c - s) = c - s := wrap_small (by omega) (by omega)
      rw [e1] at h
      by_cases h2 : m < 1 ∨ 4294967295 < m ∨ g < 0 ∨ c - s < g ∨ w < 0 ∨ c ≤ w
      · rw [if_pos (by omega)] at h; omega
      · have hA : arFacts t l s g w m c := ⟨f1, f2, f3, f4, f5, f6, by omega, by omega, by omega, by omega, by omega, h0, by omega, by omega⟩
        refine ⟨hA, ?_⟩
        rw [fits11_of hA] at h'
        by_cases hn : (cells11 t l s g w).Nodup
        · exact hn
        · rw [if_neg hn] at h'; omega
    · rw [if_pos (.inl h0)] at h; omega
theorem held_range {t l s g w m ea ep ec tp c : Int} (h : liFacts t l s g w m ea ep ec tp c) : ∀ x ∈ held13 t l s g w ea ep ec tp, 0 ≤ x ∧ x < c := by
  obtain ⟨h1, h2, h3, h4, h5, h6⟩ := h
  obtain ⟨⟨f1, f1', f2, f3, f4, f5, f6, f7, f8, f9, f10, _, _, _⟩, _⟩ := fits11_facts h1
  obtain ⟨e1, e2, e3, e4, e5, e6⟩ := fits12_facts h2
  have w1 : IntKind.i64.wrap (tp + 1) = tp + 1 := wrap_small (by omega) (by omega)
  have w2 : IntKind.i64.wrap (tp + 2) = tp + 2 := wrap_small (by omega) (by omega)
  intro x hx
  unfold held13 at hx
  rw [List.mem_append, List.mem_append] at hx
  rcases hx with (hx | hx) | hx
  · simp only [List.mem_cons, List.not_mem_nil, or_false, w1, w2] at hx
    omega
  · obtain ⟨i, hi, hx⟩ := mem_runP hx
    rw [wrap_small (n := l + i) (by omega) (by omega), wrap_small (n := g + i) (by omega) (by omega)] at hx
    omega
  · obtain ⟨i, hi, hx⟩ := mem_runI hx
    rw [wrap_small (n := ep + i) (by omega) (by omega)] at hx
    omega
theorem held_len {t l s g w ea ep ec tp : Int} (h : s ≤ 4096) (h' : ec ≤ 64) : (held13 t l s g w ea ep ec tp).length ≤ 8300 := by
  unfold held13
  rw [List.length_append, List.length_append, runP_len, runI_len]; simp; omega
theorem fits13_of {t l s g w m ea ep ec tp c : Int} (h : liFacts t l s g w m ea ep ec tp c) : fits13 t l s g w m ea ep ec tp c = if (held13 t l s g w ea ep ec tp).Nodup then 0 else 2 := by
  obtain ⟨h1, h2, h3, h4, h5, h6⟩ := h
  have e : IntKind.i64.wrap (c - 3) = c - 3 := wrap_small (by omega) (by omega)
  unfold fits13
  rw [if_neg (by omega), if_neg (by rw [e]; omega)]
theorem fits13_facts {t l s g w m ea ep ec tp c : Int} (h : fits13 t l s g w m ea ep ec tp c = 0) : liFacts t l s g w m ea ep ec tp c ∧ (held13 t l s g w ea ep ec tp).Nodup := by
  have h' := h
  unfold fits13 at h
  by_cases h1 : c < 1 ∨ 4096 < c
  · rw [if_pos h1] at h; omega
  · rw [if_neg h1] at h
    have e : IntKind.i64.wrap (c - 3) = c - 3 := wrap_small (by omega) (by omega)
    rw [e] at h
    by_cases h2 : fits11 t l s g w m c ≠ 0 ∨ fits12 ea ep ec c ≠ 0 ∨ tp < 0 ∨ c - 3 < tp
    · rw [if_pos h2] at h; omega
    · have hA : liFacts t l s g w m ea ep ec tp c := ⟨by omega, by omega, by omega, by omega, by omega, by omega⟩
      refine ⟨hA, ?_⟩
      rw [fits13_of hA] at h'
      by_cases hn : (held13 t l s g w ea ep ec tp).Nodup
      · exact hn
      · rw [if_neg hn] at h'; omega
section
variable {k : Tree} {env : List (EV U)} {X : Cx U} {R : List (EV U) → List (EV U) → Prop} {ci : Nat} {β : List Bnd}
theorem st_held {f : FuncId} {t l s g w m ea ep ec tp : Int} (hc : X.cts[ci]? = some (cHeld f)) (ha : β.map (Bnd.den env) = [.i t, .i l, .i s, .i g, .i w, .i m, .i ea, .i ep, .i ec, .i tp]) (h1 : s ≤ 4096) (h2 : ec ≤ 64)
    (hk : ∀ (d : List Int) (env' : List (EV U)), env ++ [.l (held13 t l s g w ea ep ec tp ++ d), .i (held13 t l s g w ea ep ec tp).length, .i (((held13 t l s g w ea ep ec tp).length + d.length : Nat) : Int)] = env' → k.sat X R env') : (Tree.callm ci β k).sat X R env := by
  refine st_callm hc ha ⟨_, _, _, _, _, _, _, _, _, _, rfl, h1, h2⟩ (fun o env' hr he => ?_)
  obtain ⟨t', l', s', g', w', m', ea', ep', ec', tp', d, e1, e2⟩ := hr
  simp only [List.cons.injEq, EV.i.injEq, and_true] at e1
  obtain ⟨rfl, rfl, rfl, rfl, rfl, rfl, rfl, rfl, rfl, rfl⟩ := e1
  subst e2
  exact hk d env' he
theorem st_push {i : Nat} {e : Ex} {env' : List (EV U)} (he : env ++ [.l (gL env i ++ [e.den env])] = env') (hk : k.sat X R env') : (Tree.ext (.push i e) k).sat X R env := by subst he; exact hk
end
set_option maxHeartbeats 4000000 in
theorem bLi (P : Program) (hs : List (Nat × Nat × List Nat)) : ∀ env, liInv env → tLFitsL0.sat { cxPe0 P with hints := hs } (ctrR cLFits) env := by
  rintro env ⟨t, l, s, g, w, m, ea, ep, ec, tp, c, x11, x12, x13, V, d, S, cap, k, rfl, hV, hf, h0, h1, hS, hN⟩
  have hfo := fits13_of hf
  rw [← hV] at hfo
  have hvl : V.length ≤ 8300 := by
    obtain ⟨⟨f1, f1', _⟩, _⟩ := fits11_facts hf.1
    rw [hV]; exact held_len f1' (fits12_facts hf.2.1).2.1
  have hla : (V ++ d).length = V.length + d.length := List.length_append
  by_cases hk : k = V.length
  · have ht : V.take k.toNat = V := List.take_of_length_le (by omega)
    rw [ht] at hN
    rw [if_pos hN] at hfo
    unfold tLFitsL0
    repeat' (first
      | (first
        | (with_reducible refine st_need ?_ ?_
           focus (simp only [dn, reduceCtorEq, hla] <;> first | omega | assumption))
        | (with_reducible refine st_and ?_ ?_)
        | (with_reducible exact st_ok)
        | (with_reducible refine st_br (fun hc => ?_) (fun hc => ?_) <;> (simp only [dn, reduceCtorEq, hla] at hc) <;> (try (exfalso; first | contradiction | omega)))
        | (refine st_call (by rfl) (by simp only [dn, reduceCtorEq, hla] <;> rfl) ?_ (by rfl <;> rfl) (by simp only [dn] <;> rfl) ?_
           focus (first | rfl)))
      | (refine st_ret (by simp only [dn, reduceCtorEq, hla] <;> rfl) ?_
         focus (show [EV.i _] = [EV.i _]; rw [hfo]))
      | fail "no step")
  · have hkl : k < V.length := by omega
    have hg := getD_app (d := d) h0 hkl
    have hga := get_at h0 hkl
    have htw := twice_at h0 hkl
    obtain ⟨x, hx⟩ : ∃ x, V[k.toNat]?.getD 0 = x := ⟨_, rfl⟩
    rw [hx] at hg hga htw
    have hwk : IntKind.i64.wrap (k + 1) = k + 1 := wrap_small (by omega) (by omega)
    by_cases hm : x ∈ S
    · rw [if_neg (htw ((hS x).1 hm))] at hfo
      unfold tLFitsL0
      repeat' (first
        | (first
          | (with_reducible refine st_need ?_ ?_
             focus (simp only [dn, reduceCtorEq, hla, hg, hm, decide_true] <;> first | omega | assumption))
          | (with_reducible refine st_and ?_ ?_)
          | (with_reducible exact st_ok)
          | (with_reducible refine st_br (fun hc => ?_) (fun hc => ?_) <;> (simp only [dn, reduceCtorEq, hla, hg, hm, decide_true] at hc) <;> (try (exfalso; first | contradiction | omega)))
          | (refine st_call (by rfl) (by simp only [dn, reduceCtorEq, hla, hg, hm, decide_true] <;> rfl) ?_ (by rfl <;> rfl) (by simp only [dn] <;> rfl) ?_
             focus (first | rfl)))
        | (refine st_ret (by simp only [dn, reduceCtorEq, hla] <;> rfl) ?_
           focus (show [EV.i _] = [EV.i _]; rw [hfo]))
        | fail "no step")
    · have hm' : x ∉ V.take k.toNat := fun h => hm ((hS x).2 h)
      unfold tLFitsL0
      repeat' (first
        | (first
          | (with_reducible refine st_need ?_ ?_
             focus (simp only [dn, reduceCtorEq, hla, hg, hm, decide_false] <;> first | omega | assumption))
          | (with_reducible refine st_and ?_ ?_)
          | (with_reducible exact st_ok)
          | (with_reducible refine st_br (fun hc => ?_) (fun hc => ?_) <;> (simp only [dn, reduceCtorEq, hla, hg, hm, decide_false] at hc) <;> (try (exfalso; first | contradiction | omega)))
          | (refine st_call (by rfl) (by simp only [dn, reduceCtorEq, hla, hg, hm, decide_false] <;> rfl) ?_ (by rfl <;> rfl) (by simp only [dn] <;> rfl) ?_
             focus (first | rfl)))
        | (refine st_push (by simp only [dn, reduceCtorEq, hg] <;> rfl) ?_)
        | (refine st_back (by rfl) (by simp only [dn, reduceCtorEq, hwk, hg] <;> rfl) (by simp only [dn] <;> rfl) (by rfl) ?_ ?_
           focus exact ⟨t, l, s, g, w, m, ea, ep, ec, tp, c, x11, x12, x13, V, d, S ++ [x], cap, k + 1, rfl, hV, hf, by omega, by omega, fun z => by rw [hga.2, List.mem_append, List.mem_append, hS z], by rw [hga.2]; exact nodup_put hN hm'⟩
           focus (show ((V.length : Int) - (k + 1)).toNat < ((V.length : Int) - k).toNat; omega))
        | fail "no step")
set_option maxHeartbeats 4000000 in
theorem vLFits (P : Program) (hs : List (Nat × Nat × List Nat)) : ∀ ins, ins.length = cLFits.nin → cLFits.pre ins → tLFits.sat { cxPe0 P with hints := hs } (ctrR cLFits) ins := by
  rintro ins _ ⟨t, l, s, g, w, m, ea, ep, ec, tp, c, rfl⟩
  by_cases hc : 1 ≤ c ∧ c ≤ 4096
  · have e1 : IntKind.i64.wrap (c - 3) = c - 3 := wrap_small (by omega) (by omega)
    by_cases hf : fits11 t l s g w m c = 0 ∧ fits12 ea ep ec c = 0 ∧ 0 ≤ tp ∧ tp ≤ c - 3
    · have hA : liFacts t l s g w m ea ep ec tp c := ⟨hf.1, hf.2.1, hf.2.2.1, hf.2.2.2, hc.1, hc.2⟩
      have hs1 := (fits11_facts hf.1).1.2.1
      have hs2 := (fits12_facts hf.2.1).2.1
      obtain ⟨f1, f2, f3, f4⟩ := hf
      have hvl := @held_len t l s g w ea ep ec tp hs1 hs2
      obtain ⟨V, hV⟩ : ∃ V, V = held13 t l s g w ea ep ec tp := ⟨_, rfl⟩
      rw [← hV] at hvl
      unfold tLFits
      repeat' (first
        | (first
          | (with_reducible refine st_need ?_ ?_
             focus (simp only [dn, reduceCtorEq, e1] <;> first | omega | assumption))
          | (with_reducible refine st_and ?_ ?_)
          | (with_reducible exact st_ok)
          | (with_reducible refine st_br (fun hc => ?_) (fun hc => ?_) <;> (simp only [dn, reduceCtorEq, e1] at hc) <;> (try (exfalso; first | contradiction | omega)))
          | (refine st_call (by rfl) (by simp only [dn, reduceCtorEq, e1] <;> rfl) ?_ (by simp only [out_AFits, out_EFits, f1, f2] <;> rfl) (by simp only [dn] <;> rfl) ?_
             focus (first | exact ⟨_, _, _, _, rfl⟩ | exact ⟨_, _, _, _, _, _, _, rfl⟩)))
        | (refine st_lst (by simp only [dn, reduceCtorEq, e1] <;> rfl) ?_)
        | (refine st_held (f := 87) (by rfl) (by simp only [dn, reduceCtorEq, e1] <;> rfl) hs1 hs2 (fun d env' he => ?_)
           rw [← hV] at he
           simp only [List.cons_append, List.nil_append] at he
           subst he)
        | (refine st_loop (by rfl) (by simp only [dn, reduceCtorEq, e1] <;> rfl) (by simp only [dn] <;> rfl) ?_ (fun env' h => bLi P hs env' h)
           exact ⟨t, l, s, g, w, m, ea, ep, ec, tp, c, _, _, _, V, d, [], _, 0, rfl, hV, hA, by omega, by omega, by simp, by simp⟩)
        | fail "no step")
    · have hR : fits13 t l s g w m ea ep ec tp c = 2 := by
        unfold fits13
        rw [if_neg (by omega), if_pos (by rw [e1]; omega)]
      unfold tLFits
      by_cases hz : fits11 t l s g w m c = 0
      all_goals by_cases hy : fits12 ea ep ec c = 0
      all_goals
        repeat' (first
          | (first
            | (with_reducible refine st_need ?_ ?_
               focus (simp only [dn, reduceCtorEq, hz, hy, e1] <;> first | omega | assumption))
            | (with_reducible refine st_and ?_ ?_)
            | (with_reducible exact st_ok)
            | (with_reducible refine st_br (fun hc => ?_) (fun hc => ?_) <;> (simp only [dn, reduceCtorEq, hz, hy, e1] at hc) <;> (try (exfalso; first | contradiction | omega)))
            | (refine st_call (by rfl) (by simp only [dn, reduceCtorEq, hz, hy, e1] <;> rfl) ?_ (by simp only [out_AFits, out_EFits] <;> rfl) (by simp only [dn] <;> rfl) ?_
               focus (first | exact ⟨_, _, _, _, rfl⟩ | exact ⟨_, _, _, _, _, _, _, rfl⟩)))
          | (refine st_ret (by simp only [dn, reduceCtorEq, hz] <;> rfl) ?_
             focus (show [EV.i _] = [EV.i _]; rw [hR]))
          | fail "no step")
  · have hR : fits13 t l s g w m ea ep ec tp c = 3 := by
      unfold fits13
      rw [if_pos (by omega)]
    unfold tLFits
    repeat' (first
      | (first
        | (with_reducible refine st_need ?_ ?_
           focus (simp only [dn, reduceCtorEq, hR] <;> first | omega | assumption))
        | (with_reducible refine st_and ?_ ?_)
        | (with_reducible exact st_ok)
        | (with_reducible refine st_br (fun hc => ?_) (fun hc => ?_) <;> (simp only [dn, reduceCtorEq, hR] at hc) <;> (try (exfalso; first | contradiction | omega)))
        | (refine st_call (by rfl) (by simp only [dn, reduceCtorEq, hR] <;> rfl) ?_ (by rfl <;> rfl) (by simp only [dn] <;> rfl) ?_
           focus (first | rfl)))
      | (refine st_ret (by simp only [dn, reduceCtorEq, hR] <;> rfl) ?_
         focus (show [EV.i _] = [EV.i _]; rw [hR]))
      | fail "no step")
theorem hLFits : cLFits.Holds objs Tryz.prog := runCtr_holds (X := { cxPe0 Tryz.prog with hints := hsLFits }) objsOk mixed hctsPe (callable _ Tryz.func30 (by kernel_rfl) (by kernel_rfl)) (by rintro ins _ ⟨_, _, _, _, _, _, _, _, _, _, _, rfl⟩; rfl) (by rw [rLFits]; exact vLFits _ _)
end Go.Proofs.YtdldcofddfkkbaaGreat
