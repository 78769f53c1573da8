/- Epochs: a crew: a Pin and an Advance alone. -/
import Derived.Test.YtjohihkbampbgaaEn
namespace Go.Proofs.Ytjohihkbampbgaa
set_option linter.unusedVariables false
set_option linter.unusedSimpArgs false
set_option linter.unusedSectionVars false
open Go Go.RowKit

section
variable {M M' : MemSt} {a : Nat → Int} {o : Nat → CoreE} {n : Int} {c : Nat}
/-- may an Advance of a core end OK? -/
def mayE (a : Nat → Int) (e p : Int) : Prop := p = e ∧ ∀ d : Nat, d < 3 → a d < 0 ∨ a d = e
theorem idle_pn (I : crewInv M a o n) (hi : ∀ d, d < 3 → o d = .none) {d : Nat} (hd : d < 3) : (a d < 0 → M.pn d = 0) ∧ (0 ≤ a d → M.pn d = a d + 1) := by
  have h := I.2.2.2.2 d hd
  rw [hi d hd] at h
  exact ⟨h.1, fun h1 => (h.2 h1).1⟩
theorem look_at (I : crewInv M a o n) (hi : ∀ d, d < 3 → o d = .none) (hW : M'.W = M.W) {t : Nat} (ht : t < 3) {p w : Int} (h0 : 0 ≤ p) :
    ∃ M'', M''.W = M.W ∧ stepEA ⟨1, 0, 1, 3, c, p, w, t, 0⟩ M' = (if 0 ≤ a t ∧ a t ≠ p then endA ⟨1, 0, 1, 3, c, p, w, t, 0⟩ w 14 else turnA ⟨1, 0, 1, 3, c, p, w, t, 0⟩ w (t + 1), M'') := by
  have hl : M'.W.length = 4 := by rw [hW]; exact I.1
  have e1 : IntKind.i64.wrap (1 + (t : Int)) = 1 + t := wrap_s (by omega) (by omega)
  have v1 : (M'.load (1 + (t : Int))).W = M'.W := ld_W (by omega) (by omega)
  have v2 : (M'.load (1 + (t : Int))).n = M.pn t := by
    have h := ld_n (M := M') (x := 1 + (t : Int)) (by omega) (by omega)
    rw [h, MemSt.pn, hW, show (1 + (t : Int)).toNat = 1 + t by omega]
  refine ⟨M'.load (1 + (t : Int)), by rw [v1, hW], ?_⟩
  have e : stepEA ⟨1, 0, 1, 3, c, p, w, t, 0⟩ M' = (if (M'.load (IntKind.i64.wrap (1 + (t : Int)))).n ≠ 0 ∧ (M'.load (IntKind.i64.wrap (1 + (t : Int)))).n ≠ p + 1 then endA ⟨1, 0, 1, 3, c, p, w, t, 0⟩ w 14 else turnA ⟨1, 0, 1, 3, c, p, w, t, 0⟩ w (t + 1), M'.load (IntKind.i64.wrap (1 + (t : Int)))) := rfl
  rw [e, e1, v2]
  obtain ⟨g1, g2⟩ := idle_pn I hi ht
  have : (M.pn t ≠ 0 ∧ M.pn t ≠ p + 1) ↔ (0 ≤ a t ∧ a t ≠ p) := by
    constructor
    · rintro ⟨h1, h2⟩
      have h3 : 0 ≤ a t := by
        by_cases h : a t < 0
        · exact absurd (g1 h) h1
        · omega
      exact ⟨h3, by have := g2 h3; omega⟩
    · rintro ⟨h1, h2⟩
      have := g2 h1
      omega
  by_cases h : 0 ≤ a t ∧ a t ≠ p
  · rw [if_pos h, if_pos (this.2 h)]
  · rw [if_neg h, if_neg (fun g => h (this.1 g))]
def nowU (M : MemSt) : Int := u32 (M.at0 0)
theorem nowU_of {e : Int} (hl : M.W.length = 4) (h : M.ep = e) (h0 : 0 ≤ e) (h1 : e ≤ 1001) : nowU M = e := by
  have h2 : M.at0 0 = M.ep := by rw [at0_in (by decide) (by omega)]; rfl
  unfold nowU
  rw [h2, h]; exact wrap_u32 h0 (by omega)
theorem busy_none {x : CoreE} (h : busyE x = false) : x = .none := by cases x <;> first | rfl | cases h
theorem none_busy {x : CoreE} (h : busyE x = true) : x ≠ .none := by intro e; subst e; cases h
/-- what an Advance alone comes to -/
def advA (M : MemSt) (a : Nat → Int) (p : Int) (y0 : EAdvSt) : Prop :=
  y0.ok ∧ ∀ P1 M1, stepEA y0 M = (P1, M1) → P1.ok ∧ (P1.line = -1 → ¬ mayE a M.ep p ∧ errEA P1 = 14 ∧ nowU M1 = M.ep) ∧ (P1.line ≠ -1 → ∀ P2 M2, stepEA P1 M1 = (P2, M2) → P2.ok ∧ (P2.line = -1 → ¬ mayE a M.ep p ∧ errEA P2 = 14 ∧ nowU M2 = M.ep) ∧
    (P2.line ≠ -1 → ∀ P3 M3, stepEA P2 M2 = (P3, M3) → P3.ok ∧ (P3.line = -1 → ¬ mayE a M.ep p ∧ errEA P3 = 14 ∧ nowU M3 = M.ep) ∧ (P3.line ≠ -1 → ∀ P4 M4, stepEA P3 M3 = (P4, M4) → P4.ok ∧ P4.line = -1 ∧ errEA P4 = 0 ∧ mayE a M.ep p ∧ nowU M4 = M.ep + 1)))
theorem okA1 {w : Int} {t : Nat} {p : Int} (ht : t < 3) (hc : c < 3) (hp : 0 ≤ p) (hp2 : p ≤ 1000) (hw : w = p) : (⟨1, 0, 1, 3, c, p, w, t, 0⟩ : EAdvSt).ok := by
  subst hw
  refine ⟨.inr (.inl ⟨.inl rfl, u32_is hp hp2⟩), fun _ => ⟨?_, ?_⟩, fun _ => ⟨rfl, ?_, ?_, ?_⟩⟩
  · show 0 ≤ (t : Int); omega
  · show (t : Int) < 3; omega
  · show 0 ≤ (c : Int); omega
  · show (c : Int) < 3; omega
  · show (3 : Int) ≤ 64; decide
theorem adv_alone_t (I : crewInv M a o n) (hi : ∀ d, d < 3 → o d = .none) (hc : c < 3) (h0 : 0 ≤ a c) {t1 t2 : Nat} (ht1 : turnTo 0 c = t1) (ht2 : turnTo (t1 + 1) c = t2) (h1 : t1 < 3) (h2 : t2 < 3) (h3 : ¬ turnTo (t2 + 1) c < 3)
    (hall : ∀ d : Nat, d < 3 → d = c ∨ d = t1 ∨ d = t2) : advA M a (a c) (newEA 0 1 3 c (a c)) := by
  have hl := I.1
  have he := I.2.1
  have he2 : M.ep ≤ 1000 := by have := I.2.2.1; have := I.2.2.2.1; omega
  obtain ⟨w1, w2⟩ := w0 hl
  have hy : newEA 0 1 3 c (a c) = ⟨0, 0, 1, 3, c, a c, 0, 0, 0⟩ := by unfold newEA; rw [if_neg (by omega)]
  rw [hy]
  refine ⟨⟨.inl ⟨rfl, rfl⟩, fun h => absurd h (show ¬ (0 : Int) = 1 by decide), fun _ => ⟨rfl, ?_, ?_, ?_⟩⟩, fun P1 M1 e => ?_⟩
  · show 0 ≤ (c : Int); omega
  · show (c : Int) < 3; omega
  · show (3 : Int) ≤ 64; decide
  have e0 : stepEA ⟨0, 0, 1, 3, c, a c, 0, 0, 0⟩ M = (if u32 (M.load 0).n ≠ a c then endA ⟨0, 0, 1, 3, c, a c, 0, 0, 0⟩ (M.load 0).n 14 else turnA ⟨0, 0, 1, 3, c, a c, 0, 0, 0⟩ (M.load 0).n 0, M.load 0) := rfl
  rw [e0, w2, u32_is he he2] at e
  by_cases hp : M.ep ≠ a c
  · rw [if_pos hp] at e
    injection e with e1 e2
    subst e1 e2
    exact ⟨ok_ended rfl, fun _ => ⟨fun m => hp m.1.symm, rfl, nowU_of (by rw [w1]; exact hl) (ep_W w1) he (by omega)⟩, fun h => absurd rfl h⟩
  · have hp : M.ep = a c := by omega
    rw [if_neg (by omega)] at e
    have t0 : turnA ⟨0, 0, 1, 3, c, a c, 0, 0, 0⟩ M.ep 0 = ⟨1, 0, 1, 3, c, a c, M.ep, t1, 0⟩ := by
      unfold turnA; dsimp only; rw [ht1, if_pos (by omega)]
    rw [t0] at e
    injection e with e1 e2
    subst e1 e2
    refine ⟨okA1 h1 hc h0 (by omega) hp, fun h => absurd h (show ¬ (1 : Int) = -1 by decide), fun _ P2 M2 e => ?_⟩
    obtain ⟨M2', hW2, e3⟩ := look_at (c := c) (w := M.ep) I hi w1 h1 h0
    rw [e3] at e
    by_cases b1 : 0 ≤ a t1 ∧ a t1 ≠ a c
    · rw [if_pos b1] at e
      injection e with e1 e2
      subst e1 e2
      exact ⟨ok_ended rfl, fun _ => ⟨fun m => by have := m.2 t1 h1; omega, rfl, nowU_of (by rw [hW2]; exact hl) (ep_W hW2) he (by omega)⟩, fun h => absurd rfl h⟩
    · rw [if_neg b1] at e
      have t0' : turnA ⟨1, 0, 1, 3, c, a c, M.ep, t1, 0⟩ M.ep (t1 + 1) = ⟨1, 0, 1, 3, c, a c, M.ep, t2, 0⟩ := by
        unfold turnA; dsimp only; rw [ht2, if_pos (by omega)]
      rw [t0'] at e
      injection e with e1 e2
      subst e1 e2
      refine ⟨okA1 h2 hc h0 (by omega) hp, fun h => absurd h (show ¬ (1 : Int) = -1 by decide), fun _ P3 M3 e => ?_⟩
      obtain ⟨M3', hW3, e3⟩ := look_at (c := c) (w := M.ep) I hi hW2 h2 h0
      rw [e3] at e
      by_cases b2 : 0 ≤ a t2 ∧ a t2 ≠ a c
      · rw [if_pos b2] at e
        injection e with e1 e2
        subst e1 e2
        exact ⟨ok_ended rfl, fun _ => ⟨fun m => by have := m.2 t2 h2; omega, rfl, nowU_of (by rw [hW3]; exact hl) (ep_W hW3) he (by omega)⟩, fun h => absurd rfl h⟩
      · rw [if_neg b2] at e
        have t0'' : turnA ⟨1, 0, 1, 3, c, a c, M.ep, t2, 0⟩ M.ep (t2 + 1) = ⟨2, 0, 1, 3, c, a c, M.ep, 0, 0⟩ := by
          unfold turnA; dsimp only; rw [if_neg h3]
        rw [t0''] at e
        injection e with e1 e2
        subst e1 e2
        refine ⟨⟨.inr (.inl ⟨.inr rfl, by show u32 M.ep = a c; rw [u32_is he he2]; exact hp⟩), fun h => absurd h (show ¬ (2 : Int) = 1 by decide), fun _ => ⟨rfl, ?_, ?_, ?_⟩⟩, fun h => absurd h (show ¬ (2 : Int) = -1 by decide), fun _ P4 M4 e => ?_⟩
        · show 0 ≤ (c : Int); omega
        · show (c : Int) < 3; omega
        · show (3 : Int) ≤ 64; decide
        have e4 : stepEA ⟨2, 0, 1, 3, c, a c, M.ep, 0, 0⟩ M3' = (endA ⟨2, 0, 1, 3, c, a c, M.ep, 0, 0⟩ M.ep (if (M3'.cas 0 M.ep (a c + 1)).h then 0 else 14), M3'.cas 0 M.ep (a c + 1)) := rfl
        obtain ⟨v1, v2⟩ := cas_yes (M := M3') (x := 0) (y := M.ep) (z := a c + 1) (by decide) (by rw [hW3, hl]; decide) (by rw [hW3]; rfl)
        rw [e4, v2] at e
        injection e with e1 e2
        subst e1 e2
        refine ⟨ok_ended rfl, rfl, rfl, ⟨hp.symm, fun d hd => ?_⟩, ?_⟩
        · rcases hall d hd with h | h | h <;> subst h <;> omega
        · exact nowU_of (by rw [v1, List.length_set, hW3]; exact hl) (by rw [ep_set0 v1 (by rw [hW3]; exact hl)]; omega) (by omega) (by omega)
theorem adv_alone (I : crewInv M a o n) (hi : ∀ d, d < 3 → o d = .none) (hc : c < 3) (h0 : 0 ≤ a c) : advA M a (a c) (newEA 0 1 3 c (a c)) := by
  match c, hc with
  | 0, _ => exact adv_alone_t (t1 := 1) (t2 := 2) I hi (by decide) h0 (by decide) (by decide) (by decide) (by decide) (by decide) (fun d hd => by omega)
  | 1, _ => exact adv_alone_t (t1 := 0) (t2 := 2) I hi (by decide) h0 (by decide) (by decide) (by decide) (by decide) (by decide) (fun d hd => by omega)
  | 2, _ => exact adv_alone_t (t1 := 0) (t2 := 1) I hi (by decide) h0 (by decide) (by decide) (by decide) (by decide) (by decide) (fun d hd => by omega)
theorem pin_alone (I : crewInv M a o n) (hc : c < 3) (ha : a c < 0) : ∃ P1 M1 P2 M2 M3, actO (.pin (newEP 0 1 3 c)) M (a c) = (.pin P1, M1, a c, false, true) ∧ actO (.pin P1) M1 (a c) = (.pin P2, M2, a c, false, true) ∧ actO (.pin P2) M2 (a c) = (.none, M3, M.ep, false, true) ∧
    (newEP 0 1 3 c).ok ∧ P1.ok ∧ P2.ok ∧ M3.ep = M.ep ∧ crewInv M3 (upd a c M.ep) (upd o c .none) n := by
  have hl := I.1
  have he := I.2.1
  have he2 : M.ep ≤ 1000 := by have := I.2.2.1; have := I.2.2.2.1; omega
  obtain ⟨w1, w2⟩ := w0 hl
  have hy : newEP 0 1 3 c = ⟨0, 0, 1 + c, 0, 0⟩ := by unfold newEP; rw [if_neg (by omega), wrap_s (by omega) (by omega)]
  have hl1 : (M.load 0).W.length = 4 := by rw [w1]; exact hl
  have hs : ((M.load 0).store (1 + (c : Int)) (M.ep + 1)).W = (M.load 0).W.set (1 + c) (M.ep + 1) := st1 hl1 hc
  have hl2 : ((M.load 0).store (1 + (c : Int)) (M.ep + 1)).W.length = 4 := by rw [hs, List.length_set]; exact hl1
  have ep2 : ((M.load 0).store (1 + (c : Int)) (M.ep + 1)).ep = M.ep := by rw [ep_set hs, ep_W w1]
  obtain ⟨v1, v2⟩ := w0 hl2
  have hu : u32 (M.load 0).n = M.ep := by rw [w2, u32_is he he2]
  have hu2 : u32 (((M.load 0).store (1 + (c : Int)) (M.ep + 1)).load 0).n = M.ep := by rw [v2, ep2, u32_is he he2]
  have s1 : stepEP ⟨0, 0, 1 + c, 0, 0⟩ M = (⟨1, 0, 1 + c, u32 (M.load 0).n, 0⟩, M.load 0) := rfl
  have s2 : stepEP ⟨1, 0, 1 + c, M.ep, 0⟩ (M.load 0) = (⟨2, 0, 1 + c, M.ep, 0⟩, (M.load 0).store (1 + c) (M.ep + 1)) := rfl
  have s3 : stepEP ⟨2, 0, 1 + c, M.ep, 0⟩ ((M.load 0).store (1 + c) (M.ep + 1)) = (if u32 (((M.load 0).store (1 + (c : Int)) (M.ep + 1)).load 0).n = M.ep then (⟨-1, 0, 1 + c, M.ep, 0⟩, ((M.load 0).store (1 + c) (M.ep + 1)).load 0) else (⟨1, 0, 1 + c, u32 (((M.load 0).store (1 + (c : Int)) (M.ep + 1)).load 0).n, 0⟩, ((M.load 0).store (1 + c) (M.ep + 1)).load 0)) := rfl
  rw [hu] at s1
  rw [hu2, if_pos rfl] at s3
  rw [hy]
  refine ⟨⟨1, 0, 1 + c, M.ep, 0⟩, M.load 0, ⟨2, 0, 1 + c, M.ep, 0⟩, (M.load 0).store (1 + c) (M.ep + 1), ((M.load 0).store (1 + c) (M.ep + 1)).load 0, ?_, ?_, ?_, ?_, ?_, ?_, ?_, ?_⟩
  · simp only [actO, s1]; rw [if_neg (show ¬ (1 : Int) = -1 by decide)]
  · simp only [actO, s2]; rw [if_neg (show ¬ (2 : Int) = -1 by decide)]
  · simp only [actO, s3, if_true, atEP]; simp [he]
  · exact ⟨.inl ⟨.inl rfl, rfl⟩, Int.le_refl _, show (0 : Int) < _ by decide⟩
  · exact ⟨.inl ⟨.inr (.inl rfl), rfl⟩, he, by show M.ep < _; omega⟩
  · exact ⟨.inl ⟨.inr (.inr rfl), rfl⟩, he, by show M.ep < _; omega⟩
  · rw [ep_W v1, ep2]
  · have hW : (((M.load 0).store (1 + (c : Int)) (M.ep + 1)).load 0).W = M.W.set (1 + c) (M.ep + 1) := by rw [v1, hs, w1]
    refine inv_upd I (by rw [v1]; exact hl2) (ep_set hW) (fun e h => pn_set hW h) (fun e h => upd_ne h) (fun _ => .inr upd_same) ⟨fun h => ?_, fun _ => ?_⟩
    · rw [upd_same] at h; omega
    · rw [upd_same, pn_is hW hl hc, ep_set hW]; exact ⟨rfl, .inl rfl⟩
/-- may it, as far as was looked -/
def mayD (a : Nat → Int) (e : Int) (c d : Nat) : Prop := a c = e ∧ ∀ f : Nat, f < d → a f < 0 ∨ a f = e
theorem mayD_succ {e : Int} {d : Nat} : mayD a e c (d + 1) ↔ mayD a e c d ∧ (a d < 0 ∨ a d = e) := by
  constructor
  · rintro ⟨h1, h2⟩; exact ⟨⟨h1, fun f hf => h2 f (by omega)⟩, h2 d (by omega)⟩
  · rintro ⟨⟨h1, h2⟩, h3⟩
    refine ⟨h1, fun f hf => ?_⟩
    by_cases h : f = d
    · subst h; exact h3
    · exact h2 f (by omega)
theorem mayD_zero {e : Int} : mayD a e c 0 ↔ a c = e := ⟨fun h => h.1, fun h => ⟨h, fun f hf => by omega⟩⟩
theorem mayD_three {e : Int} : mayD a e c 3 ↔ mayE a e (a c) := Iff.rfl
theorem upd_upd {α : Type} {f : Nat → α} {x y : α} : upd (upd f c x) c y = upd f c y := by
  funext d; unfold upd; split <;> rfl
end
end Go.Proofs.Ytjohihkbampbgaa
