/- Epochs: a crew: what its acts keep. -/
import Derived.Test.YtjohihkbampbgaaEjT
namespace Go.Proofs.Ytjohihkbampbgaa
set_option linter.unusedVariables false
set_option linter.unusedSimpArgs false
set_option linter.unusedSectionVars false
open Go Go.RowKit

/-! ### memories -/
theorem getset {W : List Int} {a : Nat} (h : a < W.length) : W.set a (W[a]?.getD 0) = W := by
  apply List.ext_getElem?
  intro j
  by_cases hj : a = j
  · subst hj
    rw [List.getElem?_set_self h, List.getElem?_eq_getElem h]; rfl
  · rw [List.getElem?_set_ne hj]
section
variable {M : MemSt} {x y z : Int}
theorem is_in (h0 : 0 ≤ x) (h1 : x < M.W.length) : M.is x = true := by simp [MemSt.is]; omega
theorem ld_W (h0 : 0 ≤ x) (h1 : x < M.W.length) : (M.load x).W = M.W := by
  simp only [MemSt.load, MemSt.acc, is_in h0 h1, if_true, MemSt.word, List.getD]
  exact getset (by omega)
theorem ld_n (h0 : 0 ≤ x) (h1 : x < M.W.length) : (M.load x).n = M.W[x.toNat]?.getD 0 := by
  simp only [MemSt.load, MemSt.acc, is_in h0 h1, if_true, MemSt.word, List.getD]
theorem sto_W (h0 : 0 ≤ x) (h1 : x < M.W.length) : (M.store x y).W = M.W.set x.toNat y := by
  simp only [MemSt.store, MemSt.acc, is_in h0 h1, if_true]
theorem cas_yes (h0 : 0 ≤ x) (h1 : x < M.W.length) (h : M.W[x.toNat]?.getD 0 = y) : (M.cas x y z).W = M.W.set x.toNat z ∧ (M.cas x y z).h = true := by
  have : M.word x = y := h
  simp only [MemSt.cas, if_pos this, MemSt.acc, is_in h0 h1, if_true, and_self]
theorem cas_no (h0 : 0 ≤ x) (h1 : x < M.W.length) (h : M.W[x.toNat]?.getD 0 ≠ y) : (M.cas x y z).W = M.W ∧ (M.cas x y z).h = false := by
  have : ¬ M.word x = y := h
  unfold MemSt.cas
  rw [if_neg this]
  simp only [MemSt.acc, is_in h0 h1, if_true, MemSt.word, List.getD, and_true]
  exact getset (by omega)
end
def upd {α : Type} (f : Nat → α) (c : Nat) (x : α) : Nat → α := fun d => if d = c then x else f d
theorem upd_same {α : Type} {f : Nat → α} {c : Nat} {x : α} : upd f c x c = x := if_pos rfl
theorem upd_ne {α : Type} {f : Nat → α} {c d : Nat} {x : α} (h : d ≠ c) : upd f c x d = f d := if_neg h
theorem u32_is {x : Int} (h : 0 ≤ x) (h1 : x ≤ 1000) : u32 x = x := wrap_u32 h (by omega)

/-! ### what acts keep -/
section
variable {M M' : MemSt} {a a' : Nat → Int} {o : Nat → CoreE} {n : Int} {c : Nat}
theorem others {d : Nat} {x : CoreE} (hd : d ≠ c) (he : M'.ep = M.ep) (hp : ∀ e, e ≠ c → M'.pn e = M.pn e) (ha : ∀ e, e ≠ c → a' e = a e) (hac : 0 ≤ a' c → a' c = a c ∨ a' c = M.ep) (h : coInv M a d x) : coInv M' a' d x := by
  have e1 := hp d hd
  have e2 := ha d hd
  have key : ∀ q : Int, (M.ep = q → ∀ e : Nat, e < 3 → e ≠ d → 0 ≤ a e → a e = q) → (M'.ep = q → ∀ e : Nat, e < 3 → e ≠ d → 0 ≤ a' e → a' e = q) := by
    intro q h1 h2 e h3 h4 h5
    by_cases hc : e = c
    · subst hc
      rcases hac h5 with g | g
      · rw [g] at h5 ⊢; exact h1 (by omega) e h3 h4 h5
      · omega
    · rw [ha e hc] at h5 ⊢; exact h1 (by omega) e h3 h4 h5
  have key' : ∀ (q f : Int), (M.ep = q → ∀ e : Nat, e < 3 → e ≠ d → (e : Int) < f → 0 ≤ a e → a e = q) → (M'.ep = q → ∀ e : Nat, e < 3 → e ≠ d → (e : Int) < f → 0 ≤ a' e → a' e = q) := by
    intro q f h1 h2 e h3 h4 h6 h5
    by_cases hc : e = c
    · subst hc
      rcases hac h5 with g | g
      · rw [g] at h5 ⊢; exact h1 (by omega) e h3 h4 h6 h5
      · omega
    · rw [ha e hc] at h5 ⊢; exact h1 (by omega) e h3 h4 h6 h5
  cases x with
  | none => simp only [coInv, e1, e2, he] at h ⊢; exact h
  | pin P => simp only [coInv, e1, e2, he] at h ⊢; exact h
  | unp P => simp only [coInv, e1, e2, he] at h ⊢; exact h
  | adv P =>
    simp only [coInv, e1, e2] at h ⊢
    obtain ⟨h1, h2, h3, h4, h5, h6, h7, h8, h9, h10⟩ := h
    refine ⟨h1, h2, by omega, h4, h5, h6, h7, h8, h9, ?_⟩
    rcases h10 with h | h | h
    · exact .inl h
    · exact .inr (.inl ⟨h.1, h.2.1, h.2.2.1, h.2.2.2.1, h.2.2.2.2.1, key' _ _ h.2.2.2.2.2⟩)
    · exact .inr (.inr ⟨h.1, h.2.1, key _ h.2.2⟩)
theorem inv_upd {x : CoreE} (I : crewInv M a o n) (hl : M'.W.length = 4) (he : M'.ep = M.ep) (hp : ∀ e, e ≠ c → M'.pn e = M.pn e) (ha : ∀ e, e ≠ c → a' e = a e) (hac : 0 ≤ a' c → a' c = a c ∨ a' c = M.ep) (hx : coInv M' a' c x) : crewInv M' a' (upd o c x) n := by
  refine ⟨hl, by rw [he]; exact I.2.1, by rw [he]; exact I.2.2.1, I.2.2.2.1, fun d hd => ?_⟩
  by_cases h : d = c
  · subst h; rw [upd_same]; exact hx
  · rw [upd_ne h]; exact others h he hp ha hac (I.2.2.2.2 d hd)
theorem ep_W (h : M'.W = M.W) : M'.ep = M.ep := by unfold MemSt.ep; rw [h]
theorem pn_W (h : M'.W = M.W) (e : Nat) : M'.pn e = M.pn e := by unfold MemSt.pn; rw [h]
theorem ep_set {x : Int} (h : M'.W = M.W.set (1 + c) x) : M'.ep = M.ep := by unfold MemSt.ep; rw [h, List.getElem?_set_ne (by omega)]
theorem pn_set {x : Int} {e : Nat} (h : M'.W = M.W.set (1 + c) x) (he : e ≠ c) : M'.pn e = M.pn e := by unfold MemSt.pn; rw [h, List.getElem?_set_ne (by omega)]
theorem pn_is {x : Int} (h : M'.W = M.W.set (1 + c) x) (hl : M.W.length = 4) (hc : c < 3) : M'.pn c = x := by unfold MemSt.pn; rw [h, List.getElem?_set_self (by omega)]; rfl
theorem w0 (hl : M.W.length = 4) : (M.load 0).W = M.W ∧ (M.load 0).n = M.ep := ⟨ld_W (by decide) (by omega), ld_n (by decide) (by omega)⟩

theorem st1 {y : Int} (hl : M.W.length = 4) (hc : c < 3) : (M.store (1 + (c : Int)) y).W = M.W.set (1 + c) y := by
  have h := sto_W (M := M) (x := 1 + (c : Int)) (y := y) (by omega) (by omega)
  rw [show (1 + (c : Int)).toNat = 1 + c by omega] at h; exact h
theorem pin_step {P : EPinSt} (I : crewInv M a o n) (hc : c < 3) (ho : o c = .pin P) :
    ((stepEP P M).1.line = -1 ∧ atEP (stepEP P M).1 = (M.ep, 0) ∧ (stepEP P M).2.ep = M.ep ∧ crewInv (stepEP P M).2 (upd a c M.ep) (upd o c .none) n) ∨
    ((stepEP P M).1.line ≠ -1 ∧ (stepEP P M).2.ep = M.ep ∧ crewInv (stepEP P M).2 a (upd o c (.pin (stepEP P M).1)) n) := by
  have h := I.2.2.2.2 c hc
  rw [ho] at h
  have hl := I.1
  have he := I.2.1
  have he2 : M.ep ≤ 1000 := by have := I.2.2.1; have := I.2.2.2.1; omega
  obtain ⟨ha, h1, h2, h3, h4⟩ := h
  obtain ⟨w1, w2⟩ := w0 hl
  obtain ⟨line, at_, pin, now, err⟩ := P
  dsimp only at h1 h2 h3 h4
  subst h1 h2 h3
  rcases h4 with ⟨rfl, rfl⟩ | ⟨rfl, g1, g2⟩ | ⟨rfl, g1, g2, g3⟩
  · refine .inr ⟨by simp [stepEP], ep_W w1, ?_⟩
    simp only [stepEP, if_true]
    rw [w2, u32_is he he2]
    exact inv_upd I (by rw [w1]; exact hl) (ep_W w1) (fun e _ => pn_W w1 e) (fun _ _ => rfl) (fun _ => .inl rfl) ⟨ha, rfl, rfl, rfl, .inr (.inl ⟨rfl, he, by rw [ep_W w1]; exact Int.le_refl _⟩)⟩
  · have hs : (M.store (1 + (c : Int)) (now + 1)).W = M.W.set (1 + c) (now + 1) := st1 hl hc
    have e : stepEP ⟨1, 0, 1 + c, now, 0⟩ M = (⟨2, 0, 1 + c, now, 0⟩, M.store (1 + c) (now + 1)) := rfl
    rw [e]
    refine .inr ⟨by show (2 : Int) ≠ -1; decide, ep_set hs, ?_⟩
    · exact inv_upd I (by rw [hs, List.length_set]; exact hl) (ep_set hs) (fun e h => pn_set hs h) (fun _ _ => rfl) (fun _ => .inl rfl) ⟨ha, rfl, rfl, rfl, .inr (.inr ⟨rfl, g1, by rw [ep_set hs]; exact g2, pn_is hs hl hc⟩)⟩
  · have hu : u32 (M.load 0).n = M.ep := by rw [w2, u32_is he he2]
    have e : stepEP ⟨2, 0, 1 + c, now, 0⟩ M = (if u32 (M.load 0).n = now then (⟨-1, 0, 1 + c, now, 0⟩, M.load 0) else (⟨1, 0, 1 + c, u32 (M.load 0).n, 0⟩, M.load 0)) := rfl
    rw [e, hu]
    by_cases hn : M.ep = now
    · rw [if_pos hn]
      subst hn
      refine .inl ⟨rfl, by simp [atEP], ep_W w1, ?_⟩
      refine inv_upd I (by rw [w1]; exact hl) (ep_W w1) (fun e _ => pn_W w1 e) (fun e h => upd_ne h) (fun _ => .inr upd_same) ⟨fun h => ?_, fun _ => ?_⟩
      · rw [upd_same] at h; omega
      · rw [upd_same, pn_W w1, ep_W w1]; exact ⟨g3, .inl rfl⟩
    · rw [if_neg hn]
      refine .inr ⟨by show (1 : Int) ≠ -1; decide, ep_W w1, ?_⟩
      exact inv_upd I (by rw [w1]; exact hl) (ep_W w1) (fun e _ => pn_W w1 e) (fun _ _ => rfl) (fun _ => .inl rfl) ⟨ha, rfl, rfl, rfl, .inr (.inl ⟨rfl, he, by rw [ep_W w1]; exact Int.le_refl _⟩)⟩
theorem unp_step {P : EUnpSt} (I : crewInv M a o n) (hc : c < 3) (ho : o c = .unp P) :
    errEU (stepEU P M).1 = 0 ∧ (stepEU P M).2.ep = M.ep ∧ crewInv (stepEU P M).2 a (upd o c .none) n := by
  have h := I.2.2.2.2 c hc
  rw [ho] at h
  have hl := I.1
  obtain ⟨ha, rfl⟩ := h
  have hs : (M.store (1 + (c : Int)) 0).W = M.W.set (1 + c) 0 := st1 hl hc
  have e : stepEU ⟨0, 1 + c, 0⟩ M = (⟨-1, 1 + c, 0⟩, M.store (1 + c) 0) := rfl
  rw [e]
  refine ⟨by simp [errEU], ep_set hs, ?_⟩
  exact inv_upd I (by rw [hs, List.length_set]; exact hl) (ep_set hs) (fun e h => pn_set hs h) (fun _ _ => rfl) (fun _ => .inl rfl) ⟨fun _ => pn_is hs hl hc, fun h => by omega⟩
theorem pn_pinned (I : crewInv M a o n) {d : Nat} (hd : d < 3) (h : 0 ≤ a d) : M.pn d = a d + 1 ∧ (M.ep = a d ∨ M.ep = a d + 1) := by
  have g := I.2.2.2.2 d hd
  cases e : o d with
  | none => rw [e] at g; exact g.2 h
  | pin P => rw [e] at g; have := g.1; omega
  | unp P => rw [e] at g; have := g.1; omega
  | adv P => rw [e] at g; exact ⟨g.2.1, g.2.2.1⟩
theorem crew_within (I : crewInv M a o n) : withinOk M a := ⟨I.1, I.2.1, by have := I.2.2.1; have := I.2.2.2.1; omega, fun d hd h => pn_pinned I hd h⟩
theorem ep_set0 {x : Int} (h : M'.W = M.W.set 0 x) (hl : M.W.length = 4) : M'.ep = x := by unfold MemSt.ep; rw [h, List.getElem?_set_self (by omega)]; rfl
theorem pn_set0 {x : Int} (h : M'.W = M.W.set 0 x) (e : Nat) : M'.pn e = M.pn e := by unfold MemSt.pn; rw [h, List.getElem?_set_ne (by omega)]
theorem wrap_s {n : Int} (h1 : -1000 ≤ n) (h2 : n ≤ 1000) : IntKind.i64.wrap n = n := wrap_small (by omega) (by omega)
theorem turn_inv {w f : Int} (I : crewInv M a o n) (hc : c < 3) (hw : M'.W = M.W) (h0 : 0 ≤ a c) (hp : M.pn c = a c + 1) (he : M.ep = a c ∨ M.ep = a c + 1) (hwa : w = a c) (hf : 0 ≤ f) (hf3 : f ≤ 3) (hk : M.ep = a c → ∀ d : Nat, d < 3 → d ≠ c → (d : Int) < f → 0 ≤ a d → a d = a c) {next : Int} {l : Int} {ww : Int} :
    (turnA ⟨l, 0, 1, 3, c, a c, ww, next, 0⟩ w f).line ≠ -1 ∧ crewInv M' a (upd o c (.adv (turnA ⟨l, 0, 1, 3, c, a c, ww, next, 0⟩ w f))) n := by
  unfold turnA
  by_cases h : turnTo f c < 3
  · rw [if_pos h]
    refine ⟨by show (1 : Int) ≠ -1; decide, ?_⟩
    refine inv_upd I (by rw [hw]; exact I.1) (ep_W hw) (fun e _ => pn_W hw e) (fun _ _ => rfl) (fun _ => .inl rfl) ⟨h0, by rw [pn_W hw]; exact hp, by rw [ep_W hw]; exact he, rfl, rfl, rfl, rfl, rfl, rfl, .inr (.inl ⟨rfl, hwa, ?_, h, ?_, ?_⟩)⟩
    · show 0 ≤ turnTo f c; unfold turnTo; split <;> omega
    · show turnTo f c ≠ c; unfold turnTo; split <;> omega
    · rw [ep_W hw]
      intro e1 d hd hdc hlt
      refine hk e1 d hd hdc ?_
      replace hlt : (d : Int) < turnTo f c := hlt
      unfold turnTo at hlt; split at hlt <;> omega
  · rw [if_neg h]
    refine ⟨by show (2 : Int) ≠ -1; decide, ?_⟩
    refine inv_upd I (by rw [hw]; exact I.1) (ep_W hw) (fun e _ => pn_W hw e) (fun _ _ => rfl) (fun _ => .inl rfl) ⟨h0, by rw [pn_W hw]; exact hp, by rw [ep_W hw]; exact he, rfl, rfl, rfl, rfl, rfl, rfl, .inr (.inr ⟨rfl, hwa, ?_⟩)⟩
    rw [ep_W hw]
    intro e1 d hd hdc
    refine hk e1 d hd hdc ?_
    unfold turnTo at h; split at h <;> omega
theorem end_inv (I : crewInv M a o n) (hc : c < 3) (hw : M'.W = M.W) (h0 : 0 ≤ a c) (hp : M.pn c = a c + 1) (he : M.ep = a c ∨ M.ep = a c + 1) : crewInv M' a (upd o c .none) n :=
  inv_upd I (by rw [hw]; exact I.1) (ep_W hw) (fun e _ => pn_W hw e) (fun _ _ => rfl) (fun _ => .inl rfl) ⟨fun h => by omega, fun _ => by rw [pn_W hw, ep_W hw]; exact ⟨hp, he⟩⟩
theorem adv_step {P : EAdvSt} (I : crewInv M a o n) (hc : c < 3) (ho : o c = .adv P) (hn : n + 1 ≤ 500) :
    ((stepEA P M).1.line = -1 ∧ errEA (stepEA P M).1 = 0 ∧ M.ep = a c ∧ (stepEA P M).2.ep = M.ep + 1 ∧ crewInv (stepEA P M).2 a (upd o c .none) (n + 1)) ∨
    ((stepEA P M).1.line = -1 ∧ errEA (stepEA P M).1 = 14 ∧ (stepEA P M).2.ep = M.ep ∧ crewInv (stepEA P M).2 a (upd o c .none) n) ∨
    ((stepEA P M).1.line ≠ -1 ∧ (stepEA P M).2.ep = M.ep ∧ crewInv (stepEA P M).2 a (upd o c (.adv (stepEA P M).1)) n) := by
  have h := I.2.2.2.2 c hc
  rw [ho] at h
  have hl := I.1
  have he := I.2.1
  have he2 : M.ep ≤ 1000 := by have := I.2.2.1; have := I.2.2.2.1; omega
  obtain ⟨h0, hp, hE, h4, h5, h6, h7, h8, h9, h10⟩ := h
  obtain ⟨w1, w2⟩ := w0 hl
  obtain ⟨line, at_, pins, cores, cc, p, w, next, err⟩ := P
  dsimp only at h4 h5 h6 h7 h8 h9 h10
  subst h4 h5 h6 h7 h8 h9
  rcases h10 with ⟨rfl, rfl⟩ | ⟨rfl, hw, g1, g2, g3, g4⟩ | ⟨rfl, hw, g4⟩
  · have e : stepEA ⟨0, 0, 1, 3, c, a c, w, 0, 0⟩ M = (if u32 (M.load 0).n ≠ a c then endA ⟨0, 0, 1, 3, c, a c, w, 0, 0⟩ (M.load 0).n 14 else turnA ⟨0, 0, 1, 3, c, a c, w, 0, 0⟩ (M.load 0).n 0, M.load 0) := rfl
    rw [e, w2, u32_is he he2]
    by_cases hx : M.ep = a c
    · rw [if_neg (by omega)]
      have := turn_inv (M' := M.load 0) (next := 0) (l := 0) (ww := w) I hc w1 h0 hp hE hx (f := 0) (by decide) (by decide) (fun _ d _ _ h => by omega)
      exact .inr (.inr ⟨this.1, ep_W w1, this.2⟩)
    · rw [if_pos hx]
      exact .inr (.inl ⟨rfl, rfl, ep_W w1, end_inv I hc w1 h0 hp hE⟩)
  · have hi : IntKind.i64.wrap (1 + next) = 1 + next := wrap_s (by omega) (by omega)
    have e : stepEA ⟨1, 0, 1, 3, c, a c, w, next, 0⟩ M = (if (M.load (IntKind.i64.wrap (1 + next))).n ≠ 0 ∧ (M.load (IntKind.i64.wrap (1 + next))).n ≠ a c + 1 then endA ⟨1, 0, 1, 3, c, a c, w, next, 0⟩ w 14 else turnA ⟨1, 0, 1, 3, c, a c, w, next, 0⟩ w (next + 1), M.load (IntKind.i64.wrap (1 + next))) := rfl
    have v1 : (M.load (1 + next)).W = M.W := ld_W (by omega) (by omega)
    have v2 : (M.load (1 + next)).n = M.pn next.toNat := by
      have h := ld_n (M := M) (x := 1 + next) (by omega) (by omega)
      rw [h, MemSt.pn, show (1 + next).toNat = 1 + next.toNat by omega]
    rw [e, hi, v2]
    by_cases hx : M.pn next.toNat ≠ 0 ∧ M.pn next.toNat ≠ a c + 1
    · rw [if_pos hx]
      exact .inr (.inl ⟨rfl, rfl, ep_W v1, end_inv I hc v1 h0 hp hE⟩)
    · rw [if_neg hx]
      have := turn_inv (M' := M.load (1 + next)) (next := next) (l := 1) (ww := w) I hc v1 h0 hp hE hw (f := next + 1) (by omega) (by omega) (fun e1 d hd hdc hlt had => by
        by_cases hdn : (d : Int) < next
        · exact g4 e1 d hd hdc hdn had
        · have hd' : next.toNat = d := by omega
          rw [hd'] at hx
          have := (pn_pinned I hd had).1
          omega)
      exact .inr (.inr ⟨this.1, ep_W v1, this.2⟩)
  · have e : stepEA ⟨2, 0, 1, 3, c, a c, w, next, 0⟩ M = (endA ⟨2, 0, 1, 3, c, a c, w, next, 0⟩ w (if (M.cas 0 w (a c + 1)).h then 0 else 14), M.cas 0 w (a c + 1)) := rfl
    rw [e]
    by_cases hx : M.ep = a c
    · obtain ⟨v1, v2⟩ := cas_yes (M := M) (x := 0) (y := w) (z := a c + 1) (by decide) (by omega) (by rw [hw, ← hx]; rfl)
      rw [v2]
      have hl' : (M.cas 0 w (a c + 1)).W.length = 4 := by rw [v1, List.length_set]; exact hl
      have v3 : (M.cas 0 w (a c + 1)).ep = M.ep + 1 := by rw [ep_set0 v1 hl, hx]
      have v4 : ∀ e, (M.cas 0 w (a c + 1)).pn e = M.pn e := pn_set0 v1
      refine .inl ⟨rfl, rfl, hx, v3, ?_⟩
      show crewInv (M.cas 0 w (a c + 1)) a _ (n + 1)
      refine ⟨hl', by omega, by have := I.2.2.1; omega, hn, fun d hd => ?_⟩
      by_cases hdc : d = c
      · subst hdc; rw [upd_same]
        exact ⟨fun h => by omega, fun _ => by rw [v3, v4]; exact ⟨hp, .inr (by omega)⟩⟩
      · rw [upd_ne hdc]
        have g := I.2.2.2.2 d hd
        have g5 := g4 hx d hd hdc
        cases eo : o d with
        | none =>
          rw [eo] at g
          refine ⟨fun h => by rw [v4]; exact g.1 h, fun h => ?_⟩
          rw [v4, v3]; exact ⟨(g.2 h).1, .inr (by have := g5 h; omega)⟩
        | pin P =>
          rw [eo] at g
          refine ⟨g.1, g.2.1, g.2.2.1, g.2.2.2.1, ?_⟩
          rcases g.2.2.2.2 with k | k | k
          · exact .inl k
          · exact .inr (.inl ⟨k.1, k.2.1, by omega⟩)
          · exact .inr (.inr ⟨k.1, k.2.1, by omega, by rw [v4]; exact k.2.2.2⟩)
        | unp P => rw [eo] at g; exact g
        | adv P =>
          rw [eo] at g
          obtain ⟨k0, k1, k2, k3, k4, k5, k6, k7, k8, k9⟩ := g
          have g6 := g5 k0
          refine ⟨k0, by rw [v4]; exact k1, .inr (by omega), k3, k4, k5, k6, k7, k8, ?_⟩
          rcases k9 with k | k | k
          · exact .inl k
          · exact .inr (.inl ⟨k.1, k.2.1, k.2.2.1, k.2.2.2.1, k.2.2.2.2.1, fun h => by omega⟩)
          · exact .inr (.inr ⟨k.1, k.2.1, fun h => by omega⟩)
    · obtain ⟨v1, v2⟩ := cas_no (M := M) (x := 0) (y := w) (z := a c + 1) (by decide) (by omega) (by rw [hw]; exact hx)
      rw [v2]
      exact .inr (.inl ⟨rfl, rfl, ep_W v1, end_inv I hc v1 h0 hp hE⟩)
/-! ### what begins -/
theorem begin_pin (I : crewInv M a o n) (hc : c < 3) (ho : o c = .none) (ha : a c < 0) : crewInv M a (upd o c (.pin (newEP 0 1 3 c))) n := by
  have e : newEP 0 1 3 c = ⟨0, 0, 1 + c, 0, 0⟩ := by unfold newEP; rw [if_neg (by omega), wrap_s (by omega) (by omega)]
  rw [e]
  exact inv_upd I I.1 rfl (fun _ _ => rfl) (fun _ _ => rfl) (fun _ => .inl rfl) ⟨ha, rfl, rfl, rfl, .inl ⟨rfl, rfl⟩⟩
theorem begin_unp (I : crewInv M a o n) (hc : c < 3) : crewInv M (upd a c (-1)) (upd o c (.unp (newEU 1 3 c))) n := by
  have e : newEU 1 3 c = ⟨0, 1 + c, 0⟩ := by unfold newEU; rw [if_neg (by omega), wrap_s (by omega) (by omega)]
  rw [e]
  exact inv_upd I I.1 rfl (fun _ _ => rfl) (fun e h => upd_ne h) (fun h => by rw [upd_same] at h; omega) ⟨by rw [upd_same]; decide, rfl⟩
theorem begin_adv (I : crewInv M a o n) (hc : c < 3) (ha : 0 ≤ a c) : crewInv M a (upd o c (.adv (newEA 0 1 3 c (a c)))) n := by
  have e : newEA 0 1 3 c (a c) = ⟨0, 0, 1, 3, c, a c, 0, 0, 0⟩ := by unfold newEA; rw [if_neg (by omega)]
  rw [e]
  have g := pn_pinned I hc ha
  exact inv_upd I I.1 rfl (fun _ _ => rfl) (fun _ _ => rfl) (fun _ => .inl rfl) ⟨ha, g.1, g.2, rfl, rfl, rfl, rfl, rfl, rfl, .inl ⟨rfl, rfl⟩⟩
theorem crew_mono {n' : Int} (I : crewInv M a o n) (h : n ≤ n') (h' : n' ≤ 500) : crewInv M a o n' := ⟨I.1, I.2.1, by have := I.2.2.1; omega, h', I.2.2.2.2⟩
end
end Go.Proofs.Ytjohihkbampbgaa
