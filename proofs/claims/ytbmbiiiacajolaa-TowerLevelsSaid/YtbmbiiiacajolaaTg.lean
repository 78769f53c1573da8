/- Nodes that are laid at once: the plain law. No program is named here. -/
import Derived.Test.YtbmbiiiacajolaaU
namespace Go.Proofs.Ytbmbiiiacajolaa
set_option linter.unusedVariables false
set_option linter.unusedSimpArgs false
set_option linter.unusedSectionVars false
open Go

/-- the cells of a node of which so many steps are made -/
def nodeL (x y z d : Int) : List Int := [if 0 < d then x else 0, if 1 < d then y else 0, if 2 < d then z else 0, if 3 < d then 2 else 0, 0, 0]
/-- the chapter's memory with its three nodes -/
def laysL (x0 y0 z0 d0 x1 y1 z1 d1 x2 y2 z2 d2 : Int) : List Int :=
  [1, 2, 3, 0, 1, 1, 1, 0, 0, 0, 0, 0, 0, 0, 0, 0] ++ (nodeL x0 y0 z0 d0 ++ (nodeL x1 y1 z1 d1 ++ nodeL x2 y2 z2 d2))
/-- a memory, as it is when so many steps are made -/
def laysM (M : MemSt) (n x0 y0 z0 d0 x1 y1 z1 d1 x2 y2 z2 d2 : Int) : Prop :=
  M.W = laysL x0 y0 z0 d0 x1 y1 z1 d1 x2 y2 z2 d2 ∧ M.N = n + d0 + d1 + d2 ∧ 0 ≤ d0 ∧ d0 ≤ 4 ∧ 0 ≤ d1 ∧ d1 ≤ 4 ∧ 0 ≤ d2 ∧ d2 ≤ 4
theorem len_lays {x0 y0 z0 d0 x1 y1 z1 d1 x2 y2 z2 d2 : Int} : (laysL x0 y0 z0 d0 x1 y1 z1 d1 x2 y2 z2 d2).length = 34 := rfl
theorem store_W {M : MemSt} {a x : Int} {L : List Int} (hl : M.W.length = 34) (h : 0 ≤ a) (h' : a < 34) (e : M.W.set a.toNat x = L) : (M.store a x).W = L := by
  have e1 : M.is a = true := by simp [MemSt.is]; omega
  simp only [MemSt.store, MemSt.acc, e1, if_true]
  exact e
theorem store_N {M : MemSt} {a x : Int} (hl : M.W.length = 34) (h : 0 ≤ a) (h' : a < 34) (hN : IntKind.i64.wrap (M.N + 1) = M.N + 1) : (M.store a x).N = M.N + 1 := by
  have e1 : M.is a = true := by simp [MemSt.is]; omega
  simp only [MemSt.store, MemSt.acc, e1, if_true]
  exact hN
section
variable {M : MemSt} {n x0 y0 z0 d0 x1 y1 z1 d1 x2 y2 z2 d2 : Int}
theorem lays_N (h : laysM M n x0 y0 z0 d0 x1 y1 z1 d1 x2 y2 z2 d2) (hn : 0 ≤ n) (hn' : n ≤ 1000) : IntKind.i64.wrap (M.N + 1) = M.N + 1 := by
  obtain ⟨_, hN, h0, h1, h2, h3, h4, h5⟩ := h
  rw [IntKind.wrap_i64]; omega
theorem lays0 (h : laysM M n x0 y0 z0 d0 x1 y1 z1 d1 x2 y2 z2 d2) (hn : 0 ≤ n) (hn' : n ≤ 1000) :
    (d0 = 0 → laysM (M.store 16 x0) n x0 y0 z0 (d0 + 1) x1 y1 z1 d1 x2 y2 z2 d2) ∧ (d0 = 1 → laysM (M.store 17 y0) n x0 y0 z0 (d0 + 1) x1 y1 z1 d1 x2 y2 z2 d2) ∧ (d0 = 2 → laysM (M.store 18 z0) n x0 y0 z0 (d0 + 1) x1 y1 z1 d1 x2 y2 z2 d2) ∧ (d0 = 3 → laysM (M.store 19 2) n x0 y0 z0 (d0 + 1) x1 y1 z1 d1 x2 y2 z2 d2) := by
  have hN := lays_N h hn hn'
  have hl : M.W.length = 34 := by rw [h.1]; rfl
  obtain ⟨hW, hN', h0, h1, h2, h3, h4, h5⟩ := h
  refine ⟨fun e => ?_, fun e => ?_, fun e => ?_, fun e => ?_⟩ <;> (subst e; exact ⟨store_W hl (by decide) (by decide) (by rw [hW]; simp [laysL, nodeL]), (store_N hl (by decide) (by decide) hN).trans (by rw [hN']; omega), by omega, by omega, h2, h3, h4, h5⟩)
theorem lays1 (h : laysM M n x0 y0 z0 d0 x1 y1 z1 d1 x2 y2 z2 d2) (hn : 0 ≤ n) (hn' : n ≤ 1000) :
    (d1 = 0 → laysM (M.store 22 x1) n x0 y0 z0 d0 x1 y1 z1 (d1 + 1) x2 y2 z2 d2) ∧ (d1 = 1 → laysM (M.store 23 y1) n x0 y0 z0 d0 x1 y1 z1 (d1 + 1) x2 y2 z2 d2) ∧ (d1 = 2 → laysM (M.store 24 z1) n x0 y0 z0 d0 x1 y1 z1 (d1 + 1) x2 y2 z2 d2) ∧ (d1 = 3 → laysM (M.store 25 2) n x0 y0 z0 d0 x1 y1 z1 (d1 + 1) x2 y2 z2 d2) := by
  have hN := lays_N h hn hn'
  have hl : M.W.length = 34 := by rw [h.1]; rfl
  obtain ⟨hW, hN', h0, h1, h2, h3, h4, h5⟩ := h
  refine ⟨fun e => ?_, fun e => ?_, fun e => ?_, fun e => ?_⟩ <;> (subst e; exact ⟨store_W hl (by decide) (by decide) (by rw [hW]; simp [laysL, nodeL]), (store_N hl (by decide) (by decide) hN).trans (by rw [hN']; omega), h0, h1, by omega, by omega, h4, h5⟩)
theorem lays2 (h : laysM M n x0 y0 z0 d0 x1 y1 z1 d1 x2 y2 z2 d2) (hn : 0 ≤ n) (hn' : n ≤ 1000) :
    (d2 = 0 → laysM (M.store 28 x2) n x0 y0 z0 d0 x1 y1 z1 d1 x2 y2 z2 (d2 + 1)) ∧ (d2 = 1 → laysM (M.store 29 y2) n x0 y0 z0 d0 x1 y1 z1 d1 x2 y2 z2 (d2 + 1)) ∧ (d2 = 2 → laysM (M.store 30 z2) n x0 y0 z0 d0 x1 y1 z1 d1 x2 y2 z2 (d2 + 1)) ∧ (d2 = 3 → laysM (M.store 31 2) n x0 y0 z0 d0 x1 y1 z1 d1 x2 y2 z2 (d2 + 1)) := by
  have hN := lays_N h hn hn'
  have hl : M.W.length = 34 := by rw [h.1]; rfl
  obtain ⟨hW, hN', h0, h1, h2, h3, h4, h5⟩ := h
  refine ⟨fun e => ?_, fun e => ?_, fun e => ?_, fun e => ?_⟩ <;> (subst e; exact ⟨store_W hl (by decide) (by decide) (by rw [hW]; simp [laysL, nodeL]), (store_N hl (by decide) (by decide) hN).trans (by rw [hN']; omega), h0, h1, h2, h3, by omega, by omega⟩)
end
end Go.Proofs.Ytbmbiiiacajolaa
