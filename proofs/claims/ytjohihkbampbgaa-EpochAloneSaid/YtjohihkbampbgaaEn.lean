/- Epochs: a crew: what a step of a core does, and how many it has left. -/
import Derived.Test.YtjohihkbampbgaaEm
namespace Go.Proofs.Ytjohihkbampbgaa
set_option linter.unusedVariables false
set_option linter.unusedSimpArgs false
set_option linter.unusedSectionVars false
open Go Go.RowKit

theorem upd_self {α : Type} {f : Nat → α} {c : Nat} : upd f c (f c) = f := by
  funext d; unfold upd; split
  · rename_i h; rw [h]
  · rfl
theorem upd_is {α : Type} {f : Nat → α} {c : Nat} {x : α} (h : f c = x) : upd f c x = f := by rw [← h]; exact upd_self
section
variable {M : MemSt} {a : Nat → Int} {o : Nat → CoreE} {n : Int} {c : Nat}
/-- what a step is -/
theorem act_step (I : crewInv M a o n) (hc : c < 3) (hn : n + 1 ≤ 500) :
    crewInv (actO (o c) M (a c)).2.1 (upd a c (actO (o c) M (a c)).2.2.1) (upd o c (actO (o c) M (a c)).1) (n + 1) ∧ (actO (o c) M (a c)).2.2.2.2 = true ∧
    ((actO (o c) M (a c)).2.2.2.1 = true → (actO (o c) M (a c)).2.1.ep = M.ep + 1 ∧ M.ep = a c) ∧ ((actO (o c) M (a c)).2.2.2.1 = false → (actO (o c) M (a c)).2.1.ep = M.ep) ∧ (a c < 0 → (actO (o c) M (a c)).2.2.2.1 = false) := by
  cases ho : o c with
  | none =>
    have e : actO .none M (a c) = (.none, M, a c, false, true) := rfl
    rw [e]
    dsimp only
    rw [upd_self, upd_is ho]
    exact ⟨crew_mono I (by omega) hn, rfl, fun h => Bool.noConfusion h, fun _ => rfl, fun _ => rfl⟩
  | pin P =>
    rcases pin_step I hc ho with ⟨h1, h2, h3, h4⟩ | ⟨h1, h3, h4⟩
    · have e : actO (.pin P) M (a c) = (.none, (stepEP P M).2, M.ep, false, decide ((0 : Int) = 0 ∧ 0 ≤ M.ep)) := by unfold actO; dsimp only; rw [if_pos h1, h2]
      rw [e]
      exact ⟨crew_mono h4 (by omega) hn, decide_eq_true ⟨rfl, I.2.1⟩, fun h => Bool.noConfusion h, fun _ => h3, fun _ => rfl⟩
    · have e : actO (.pin P) M (a c) = (.pin (stepEP P M).1, (stepEP P M).2, a c, false, true) := by unfold actO; dsimp only; rw [if_neg h1]
      rw [e]
      dsimp only
      rw [upd_self]
      exact ⟨crew_mono h4 (by omega) hn, rfl, fun h => Bool.noConfusion h, fun _ => h3, fun _ => rfl⟩
  | unp P =>
    obtain ⟨h1, h2, h3⟩ := unp_step I hc ho
    have e : actO (.unp P) M (a c) = (.none, (stepEU P M).2, a c, false, decide ((0 : Int) = 0)) := by unfold actO; dsimp only; rw [h1]
    rw [e]
    dsimp only
    rw [upd_self]
    exact ⟨crew_mono h3 (by omega) hn, rfl, fun h => Bool.noConfusion h, fun _ => h2, fun _ => rfl⟩
  | adv P =>
    have h0 : 0 ≤ a c := by have h := I.2.2.2.2 c hc; rw [ho] at h; exact h.1
    rcases adv_step I hc ho hn with ⟨h1, h2, h3, h4, h5⟩ | ⟨h1, h2, h3, h4⟩ | ⟨h1, h2, h3⟩
    · have e : actO (.adv P) M (a c) = (.none, (stepEA P M).2, a c, decide ((0 : Int) = 0), decide ((0 : Int) = 0 ∨ (0 : Int) = 14)) := by unfold actO; dsimp only; rw [if_pos h1, h2]
      rw [e]
      dsimp only
      rw [upd_self]
      exact ⟨h5, rfl, fun _ => ⟨h4, h3⟩, fun h => Bool.noConfusion h, fun h => by omega⟩
    · have e : actO (.adv P) M (a c) = (.none, (stepEA P M).2, a c, decide ((14 : Int) = 0), decide ((14 : Int) = 0 ∨ (14 : Int) = 14)) := by unfold actO; dsimp only; rw [if_pos h1, h2]
      rw [e]
      dsimp only
      rw [upd_self]
      exact ⟨crew_mono h4 (by omega) hn, rfl, fun h => Bool.noConfusion h, fun _ => h3, fun _ => rfl⟩
    · have e : actO (.adv P) M (a c) = (.adv (stepEA P M).1, (stepEA P M).2, a c, false, true) := by unfold actO; dsimp only; rw [if_neg h1]
      rw [e]
      dsimp only
      rw [upd_self]
      exact ⟨crew_mono h3 (by omega) hn, rfl, fun h => Bool.noConfusion h, fun _ => h2, fun _ => rfl⟩
theorem ok_core (I : crewInv M a o n) (hc : c < 3) : okE (o c) := by
  cases ho : o c with
  | none => trivial
  | pin P => exact ok_pin I hc ho
  | unp P => exact ok_unp I hc ho
  | adv P => exact ok_adv I hc ho
theorem begin_step {k : Int} (I : crewInv M a o n) (hc : c < 3) (ho : o c = .none) : crewInv M (upd a c (beginO c (a c) k).2) (upd o c (beginO c (a c) k).1) n := by
  unfold beginO
  split
  · dsimp only; rw [upd_self]; exact begin_pin I hc ho (by assumption)
  · split
    · exact begin_unp I hc
    · dsimp only; rw [upd_self]; exact begin_adv I hc (by omega)
/-- how many steps a core has left, alone -/
def remE (c : Int) (ep : Int) : CoreE → Nat
  | .none => 0
  | .pin P => if P.line = 0 then 3 else if P.line = 1 then (if P.now = ep then 2 else 4) else (if P.now = ep then 1 else 3)
  | .unp _ => 1
  | .adv P => if P.line = 0 then 4 else if P.line = 1 then (if P.next ≤ c then (3 - P.next).toNat else (4 - P.next).toNat) else 1
theorem rem_none {c ep : Int} : ∀ {x : CoreE}, remE c ep x = 0 → (∃ P, x = .adv P ∧ 3 ≤ P.next) ∨ x = .none
  | .none, _ => .inr rfl
  | .pin P, h => by simp only [remE] at h; split at h <;> (try split at h) <;> (try split at h) <;> omega
  | .unp _, h => by simp only [remE] at h; omega
  | .adv P, h => by
    simp only [remE] at h
    refine .inl ⟨P, rfl, ?_⟩
    split at h
    · omega
    · split at h
      · split at h <;> omega
      · omega
theorem rem_busy {x : CoreE} (I : crewInv M a o n) (hc : c < 3) (h : remE c M.ep (o c) = 0) : o c = .none := by
  rcases rem_none h with ⟨P, h1, h2⟩ | h1
  · have g := I.2.2.2.2 c hc
    rw [h1] at g
    obtain ⟨_, _, _, _, _, _, _, _, _, g⟩ := g
    rw [h1] at h
    simp only [remE] at h
    rcases g with g | g | g
    · rw [if_pos g.1] at h; omega
    · obtain ⟨g1, _, g2, g3, _⟩ := g
      omega
    · rw [if_neg (by omega), if_neg (by omega)] at h; omega
  · exact h1
theorem rem_le (I : crewInv M a o n) (hc : c < 3) : remE c M.ep (o c) ≤ 4 := by
  have g := I.2.2.2.2 c hc
  cases ho : o c with
  | none => simp only [remE]; omega
  | pin P => simp only [remE]; split <;> (try split) <;> (try split) <;> omega
  | unp P => simp only [remE]; omega
  | adv P =>
    rw [ho] at g
    obtain ⟨_, _, _, _, _, _, _, _, _, g⟩ := g
    simp only [remE]
    rcases g with g | g | g
    · rw [if_pos g.1]; omega
    · rw [if_neg (by omega), if_pos g.1]; split <;> omega
    · rw [if_neg (by omega), if_neg (by omega)]; omega
theorem rem_turn {w f l e : Int} {x y z k : Int} (hc : c < 3) (hf : 0 ≤ f) (hf3 : f ≤ 3) :
    remE c e (.adv (turnA ⟨l, x, 1, 3, c, y, z, k, 0⟩ w f)) ≤ (if f ≤ c then (3 - f).toNat else (4 - f).toNat) := by
  unfold turnA turnTo
  dsimp only
  by_cases h : f = c
  · rw [if_pos h, if_pos (show f ≤ c by omega)]
    split
    · simp only [remE]
      rw [if_neg (by omega), if_pos trivial, if_neg (by omega)]; omega
    · simp only [remE]
      rw [if_neg (by omega), if_neg (by omega)]; omega
  · rw [if_neg h]
    split
    · simp only [remE]
      rw [if_neg (by omega), if_pos trivial]; exact Nat.le_refl _
    · simp only [remE]
      rw [if_neg (by omega), if_neg (by omega)]; split <;> omega
theorem act_rem (I : crewInv M a o n) (hc : c < 3) (ho : o c ≠ .none) : remE c (actO (o c) M (a c)).2.1.ep (actO (o c) M (a c)).1 < remE c M.ep (o c) ∧ (∀ P, (actO (o c) M (a c)).1 ≠ .unp P) := by
  have g := I.2.2.2.2 c hc
  have hl := I.1
  have he := I.2.1
  have he2 : M.ep ≤ 1000 := by have := I.2.2.1; have := I.2.2.2.1; omega
  obtain ⟨w1, w2⟩ := w0 hl
  cases hx : o c with
  | none => exact absurd hx ho
  | pin P =>
    rw [hx] at g
    obtain ⟨ga, h1, h2, h3, h4⟩ := g
    obtain ⟨line, at_, pin, now, err⟩ := P
    dsimp only at h1 h2 h3 h4
    subst h1 h2 h3
    have hu : u32 (M.load 0).n = M.ep := by rw [w2, u32_is he he2]
    rcases h4 with ⟨rfl, rfl⟩ | ⟨rfl, g1, g2⟩ | ⟨rfl, g1, g2, g3⟩
    · have e : actO (.pin ⟨0, 0, 1 + c, 0, 0⟩) M (a c) = (.pin ⟨1, 0, 1 + c, M.ep, 0⟩, M.load 0, a c, false, true) := by
        have e1 : stepEP ⟨0, 0, 1 + c, 0, 0⟩ M = (⟨1, 0, 1 + c, u32 (M.load 0).n, 0⟩, M.load 0) := rfl
        unfold actO; dsimp only; rw [e1, hu, if_neg (show ¬ (1 : Int) = -1 by decide)]
      rw [e]
      refine ⟨?_, fun P h => by cases h⟩
      simp only [remE, ep_W w1]
      simp
    · have hs : (M.store (1 + (c : Int)) (now + 1)).W = M.W.set (1 + c) (now + 1) := st1 hl hc
      have e : actO (.pin ⟨1, 0, 1 + c, now, 0⟩) M (a c) = (.pin ⟨2, 0, 1 + c, now, 0⟩, M.store (1 + c) (now + 1), a c, false, true) := by
        have e1 : stepEP ⟨1, 0, 1 + c, now, 0⟩ M = (⟨2, 0, 1 + c, now, 0⟩, M.store (1 + c) (now + 1)) := rfl
        unfold actO; dsimp only; rw [e1, if_neg (show ¬ (2 : Int) = -1 by decide)]
      rw [e]
      refine ⟨?_, fun P h => by cases h⟩
      simp only [remE, ep_set hs]
      by_cases h : now = M.ep <;> simp [h]
    · have e1 : stepEP ⟨2, 0, 1 + c, now, 0⟩ M = (if u32 (M.load 0).n = now then (⟨-1, 0, 1 + c, now, 0⟩, M.load 0) else (⟨1, 0, 1 + c, u32 (M.load 0).n, 0⟩, M.load 0)) := rfl
      rw [hu] at e1
      by_cases hn : M.ep = now
      · rw [if_pos hn] at e1
        have e : (actO (.pin ⟨2, 0, 1 + c, now, 0⟩) M (a c)).1 = .none := by unfold actO; dsimp only; rw [e1, if_pos rfl]
        rw [e]
        refine ⟨?_, fun P h => by cases h⟩
        simp only [remE]
        by_cases h : now = M.ep <;> simp [h]
      · rw [if_neg hn] at e1
        have e : actO (.pin ⟨2, 0, 1 + c, now, 0⟩) M (a c) = (.pin ⟨1, 0, 1 + c, M.ep, 0⟩, M.load 0, a c, false, true) := by unfold actO; dsimp only; rw [e1, if_neg (show ¬ (1 : Int) = -1 by decide)]
        rw [e]
        refine ⟨?_, fun P h => by cases h⟩
        have h : ¬ now = M.ep := fun h => hn h.symm
        simp only [remE, ep_W w1]
        simp [h]
  | unp P =>
    refine ⟨?_, fun P h => by cases h⟩
    show 0 < 1
    decide
  | adv P =>
    rw [hx] at g
    obtain ⟨h0, hp, hE, h4, h5, h6, h7, h8, h9, h10⟩ := g
    obtain ⟨line, at_, pins, cores, cc, p, w, next, err⟩ := P
    dsimp only at h4 h5 h6 h7 h8 h9 h10
    subst h4 h5 h6 h7 h8 h9
    have key : ∀ P' M', stepEA ⟨line, 0, 1, 3, c, a c, w, next, 0⟩ M = (P', M') → (P'.line ≠ -1 → remE c M'.ep (.adv P') < remE c M.ep (.adv ⟨line, 0, 1, 3, c, a c, w, next, 0⟩)) → 0 < remE c M.ep (.adv ⟨line, 0, 1, 3, c, a c, w, next, 0⟩) →
        remE c (actO (.adv ⟨line, 0, 1, 3, c, a c, w, next, 0⟩) M (a c)).2.1.ep (actO (.adv ⟨line, 0, 1, 3, c, a c, w, next, 0⟩) M (a c)).1 < remE c M.ep (.adv ⟨line, 0, 1, 3, c, a c, w, next, 0⟩) ∧ (∀ P, (actO (.adv ⟨line, 0, 1, 3, c, a c, w, next, 0⟩) M (a c)).1 ≠ .unp P) := by
      intro P' M' e k1 k2
      by_cases hl : P'.line = -1
      · have e2 : (actO (.adv ⟨line, 0, 1, 3, c, a c, w, next, 0⟩) M (a c)).1 = .none := by unfold actO; dsimp only; rw [e, if_pos hl]
        rw [e2]; exact ⟨k2, fun P h => by cases h⟩
      · have e2 : actO (.adv ⟨line, 0, 1, 3, c, a c, w, next, 0⟩) M (a c) = (.adv P', M', a c, false, true) := by unfold actO; dsimp only; rw [e, if_neg hl]
        rw [e2]; exact ⟨k1 hl, fun P h => by cases h⟩
    rcases h10 with ⟨rfl, rfl⟩ | ⟨rfl, hw, g1, g2, g3, g4⟩ | ⟨rfl, hw, g4⟩
    · have e : stepEA ⟨0, 0, 1, 3, c, a c, w, 0, 0⟩ M = (if u32 (M.load 0).n ≠ a c then endA ⟨0, 0, 1, 3, c, a c, w, 0, 0⟩ (M.load 0).n 14 else turnA ⟨0, 0, 1, 3, c, a c, w, 0, 0⟩ (M.load 0).n 0, M.load 0) := rfl
      by_cases hx : u32 (M.load 0).n ≠ a c
      · rw [if_pos hx] at e
        exact key _ _ e (fun h => absurd rfl h) (by show 0 < 4; decide)
      · rw [if_neg hx] at e
        refine key _ _ e (fun h => ?_) (by show 0 < 4; decide)
        refine Nat.lt_of_le_of_lt (rem_turn hc (by decide) (by decide)) ?_
        show _ < 4
        split <;> omega
    · have e : stepEA ⟨1, 0, 1, 3, c, a c, w, next, 0⟩ M = (if (M.load (IntKind.i64.wrap (1 + next))).n ≠ 0 ∧ (M.load (IntKind.i64.wrap (1 + next))).n ≠ a c + 1 then endA ⟨1, 0, 1, 3, c, a c, w, next, 0⟩ w 14 else turnA ⟨1, 0, 1, 3, c, a c, w, next, 0⟩ w (next + 1), M.load (IntKind.i64.wrap (1 + next))) := rfl
      have hr : remE c M.ep (.adv ⟨1, 0, 1, 3, c, a c, w, next, 0⟩) = (if next ≤ c then (3 - next).toNat else (4 - next).toNat) := by
        simp [remE]
      by_cases hx : (M.load (IntKind.i64.wrap (1 + next))).n ≠ 0 ∧ (M.load (IntKind.i64.wrap (1 + next))).n ≠ a c + 1
      · rw [if_pos hx] at e
        exact key _ _ e (fun h => absurd rfl h) (by rw [hr]; split <;> omega)
      · rw [if_neg hx] at e
        refine key _ _ e (fun h => ?_) (by rw [hr]; split <;> omega)
        refine Nat.lt_of_le_of_lt (rem_turn hc (by omega) (by omega)) ?_
        rw [hr]
        split <;> split <;> omega
    · have e : stepEA ⟨2, 0, 1, 3, c, a c, w, next, 0⟩ M = (endA ⟨2, 0, 1, 3, c, a c, w, next, 0⟩ w (if (M.cas 0 w (a c + 1)).h then 0 else 14), M.cas 0 w (a c + 1)) := rfl
      exact key _ _ e (fun h => absurd rfl h) (by show 0 < 1; decide)
end
end Go.Proofs.Ytjohihkbampbgaa
