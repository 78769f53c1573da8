/- Which arenas, limbos and towers may be: the program and the document say the same. -/
import Derived.Test.YtdldcofddfkkbaaGreatVc
namespace Go.Proofs.YtdldcofddfkkbaaGreat
set_option linter.unusedVariables false
set_option linter.unusedSimpArgs false
set_option linter.unusedSectionVars false
open Go Go.RowKit

def isI (x : Int) : Prop := -9223372036854775808 ≤ x ∧ x < 9223372036854775808
theorem runP_perm (a b : Int) : ∀ n, (runP a b n).Perm (runI a n ++ runI b n)
  | 0 => List.Perm.refl _
  | n + 1 => by
    rw [runP, runI, runI]
    have h := runP_perm a b n
    have e1 : (runP a b n ++ [IntKind.i64.wrap (a + n), IntKind.i64.wrap (b + n)]).Perm ((runI a n ++ runI b n) ++ [IntKind.i64.wrap (a + n), IntKind.i64.wrap (b + n)]) := h.append_right _
    refine e1.trans ?_
    rw [List.append_assoc, List.append_assoc]
    refine List.Perm.append_left _ ?_
    have e2 : (runI b n ++ ([IntKind.i64.wrap (a + n)] ++ [IntKind.i64.wrap (b + n)])).Perm ([IntKind.i64.wrap (a + n)] ++ (runI b n ++ [IntKind.i64.wrap (b + n)])) := by
      rw [← List.append_assoc, ← List.append_assoc]
      exact List.perm_append_comm.append_right _
    exact e2
theorem cells_perm (t l s g w : Int) : (cells11D t l s g w).Perm (cells11 t l s g w) := by
  unfold cells11D cells11
  show (t :: w :: runP l g s.toNat).Perm (t :: (runI l s.toNat ++ (runI g s.toNat ++ [w])))
  refine List.Perm.cons _ ?_
  rw [← List.append_assoc]
  exact ((runP_perm l g s.toNat).cons w).trans (List.perm_append_comm (l₁ := [w]))
theorem held_perm (t l s g w ea ep ec tp : Int) : (held13D t l s g w ea ep ec tp).Perm (held13 t l s g w ea ep ec tp) := by
  unfold held13D held13 cells11D
  refine List.Perm.append_right _ ?_
  show (t :: w :: (runP l g s.toNat ++ [ea, tp, IntKind.i64.wrap (tp + 1), IntKind.i64.wrap (tp + 2)])).Perm (t :: w :: ([ea, tp, IntKind.i64.wrap (tp + 1), IntKind.i64.wrap (tp + 2)] ++ runP l g s.toNat))
  exact (List.perm_append_comm.cons w).cons t
theorem memI {a : Int} : ∀ {n i : Nat}, i < n → IntKind.i64.wrap (a + i) ∈ runI a n
  | 0, _, h => absurd h (Nat.not_lt_zero _)
  | n + 1, i, h => by
    rw [runI, List.mem_append]
    by_cases e : i = n
    · subst e; exact .inr (by simp)
    · exact .inl (memI (by omega))
theorem fits11_eq {t l s g w m c : Int} (hg : isI g) : fits11 t l s g w m c = fits11D t l s g w m c := by
  by_cases hc : c < 1 ∨ 4096 < c
  · unfold fits11 fits11D; rw [if_pos hc, if_pos hc]
  · by_cases h0 : fits10 t l s c = 0 ∧ 1 ≤ m ∧ m ≤ 4294967295
    · obtain ⟨h0, h1, h2⟩ := h0
      obtain ⟨f1, f2, f3, f4, f5, f6, f7, f8⟩ := fits10_facts h0
      have e1 : IntKind.i64.wrap (c - s) = c - s := wrap_small (by omega) (by omega)
      have hp := cells_perm t l s g w
      by_cases hb : g < 0 ∨ c - s < g ∨ w < 0 ∨ c ≤ w
      · have hL : fits11 t l s g w m c = 2 := by unfold fits11; rw [if_neg hc, if_pos (by rw [e1]; omega)]
        have hA : apartB (cells11D t l s g w) c = false := by
          refine apart_no (.inl ?_)
          have inP : ∀ i : Nat, i < s.toNat → IntKind.i64.wrap (g + i) ∈ cells11D t l s g w := fun i hi => hp.mem_iff.2 (by
            unfold cells11
            exact List.mem_append_right _ (List.mem_append_right _ (List.mem_append_left _ (memI hi))))
          by_cases b1 : g < 0
          · refine ⟨_, inP 0 (by omega), ?_⟩
            obtain ⟨g1, g2⟩ := hg
            rw [IntKind.wrap_i64]; omega
          · by_cases b2 : c - s < g
            · refine ⟨_, inP (s.toNat - 1) (by omega), ?_⟩
              obtain ⟨g1, g2⟩ := hg
              rw [IntKind.wrap_i64]; omega
            · exact ⟨w, by unfold cells11D; simp, by omega⟩
        rw [hL]
        unfold fits11D
        rw [if_neg hc, hA, if_pos (by simp)]
      · have hf : arFacts t l s g w m c := ⟨f1, f2, f3, f4, f5, f6, by omega, by omega, by omega, by omega, f8, h0, h1, h2⟩
        rw [fits11_of hf]
        have hr : ∀ x ∈ cells11D t l s g w, 0 ≤ x ∧ x < c := fun x hx => by
          have hx := hp.mem_iff.1 hx
          unfold cells11 at hx
          simp only [List.mem_append, List.mem_singleton] at hx
          rcases hx with rfl | hx | hx | rfl
          · omega
          · obtain ⟨i, hi, rfl⟩ := mem_runI hx
            rw [wrap_small (by omega) (by omega)]; omega
          · obtain ⟨i, hi, rfl⟩ := mem_runI hx
            rw [wrap_small (by omega) (by omega)]; omega
          · omega
        unfold fits11D
        rw [if_neg hc]
        by_cases hn : (cells11 t l s g w).Nodup
        · rw [if_pos hn, apart_yes hr (hp.nodup_iff.2 hn), if_neg (by simp; omega)]
        · rw [if_neg hn, apart_no (.inr (fun h => hn (hp.nodup_iff.1 h))), if_pos (by simp)]
    · unfold fits11 fits11D
      rw [if_neg hc, if_neg hc, if_pos (by omega), if_pos (by omega)]
theorem fits13_eq {t l s g w m ea ep ec tp c : Int} (hg : isI g) (ht : isI tp) : fits13 t l s g w m ea ep ec tp c = fits13D t l s g w m ea ep ec tp c := by
  by_cases hc : c < 1 ∨ 4096 < c
  · unfold fits13 fits13D; rw [if_pos hc, if_pos hc]
  · by_cases h0 : fits11 t l s g w m c = 0 ∧ fits12 ea ep ec c = 0
    · obtain ⟨h0, h1⟩ := h0
      have h0' : fits11D t l s g w m c = 0 := by rw [← fits11_eq hg]; exact h0
      have e1 : IntKind.i64.wrap (c - 3) = c - 3 := wrap_small (by omega) (by omega)
      have hp := held_perm t l s g w ea ep ec tp
      by_cases hb : tp < 0 ∨ c - 3 < tp
      · have hL : fits13 t l s g w m ea ep ec tp c = 2 := by unfold fits13; rw [if_neg hc, if_pos (by rw [e1]; omega)]
        have hA : apartB (held13D t l s g w ea ep ec tp) c = false := by
          refine apart_no (.inl ?_)
          by_cases b1 : tp < 0
          · exact ⟨tp, by unfold held13D; simp, by omega⟩
          · refine ⟨IntKind.i64.wrap (tp + 2), by unfold held13D; simp, ?_⟩
            obtain ⟨g1, g2⟩ := ht
            rw [IntKind.wrap_i64]; omega
        rw [hL]
        unfold fits13D
        rw [if_neg hc, hA, if_pos (by simp)]
      · have hf : liFacts t l s g w m ea ep ec tp c := ⟨h0, h1, by omega, by omega, by omega, by omega⟩
        rw [fits13_of hf]
        have hr : ∀ x ∈ held13D t l s g w ea ep ec tp, 0 ≤ x ∧ x < c := fun x hx => held_range hf x (hp.mem_iff.1 hx)
        unfold fits13D
        rw [if_neg hc]
        by_cases hn : (held13 t l s g w ea ep ec tp).Nodup
        · rw [if_pos hn, apart_yes hr (hp.nodup_iff.2 hn), if_neg (by simp [h0', h1])]
        · rw [if_neg hn, apart_no (.inr (fun h => hn (hp.nodup_iff.1 h))), if_pos (by simp)]
    · have h0' : fits11D t l s g w m c ≠ 0 ∨ fits12 ea ep ec c ≠ 0 := by rw [← fits11_eq hg]; omega
      unfold fits13 fits13D
      rw [if_neg hc, if_neg hc, if_pos (by omega), if_pos (by omega)]
end Go.Proofs.YtdldcofddfkkbaaGreat
