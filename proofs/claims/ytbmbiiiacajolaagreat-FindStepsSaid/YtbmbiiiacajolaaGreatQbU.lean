/- A step of a Find, in plain words (printed by gen_qb.py). -/
import Derived.Test.YtbmbiiiacajolaaGreatQaW
namespace Go.Proofs.YtbmbiiiacajolaaGreat
set_option linter.unusedVariables false
set_option linter.unusedSimpArgs false
set_option linter.unusedSectionVars false
open Go Go.RowKit

theorem wm {w : Int} (h : isW w) : isW (w % 9223372036854775808) := ⟨by have := h.1; omega, by have := h.1; have := h.2; omega⟩
theorem top_t {n : Int} (h : isW n) (e : n / 9223372036854775808 = 1) : 9223372036854775808 ≤ n := by have := h.1; have := h.2; omega
theorem top_f {n : Int} (h : isW n) (e : ¬ n / 9223372036854775808 = 1) : ¬ 9223372036854775808 ≤ n := by have := h.1; have := h.2; omega
section
variable {a0 a1 a2 a3 a4 a5 a6 a7 a8 a9 a10 a11 a12 key l pred ref cur w r : Int} {P S K : List Int} {M : MemSt}
theorem step_1m (h : 9223372036854775808 ≤ (M.load (nextT a0 a1 a2 a5 pred l)).n) : (FindSt.norm ⟨[a0, a1, a2, a3, a4, a5, a6, a7, a8, a9, a10, a11, a12], key, 1, l, pred, ref, cur, w, P, S, K, r⟩).step M = (⟨[a0, a1, a2, a3, a4, a5, a6, a7, a8, a9, a10, a11, a12], key, 1, a2 - 1, -1, 0, 0, 0, P, S, K, ref⟩, M.load (nextT a0 a1 a2 a5 pred l)) := by
  show (if 9223372036854775808 ≤ (M.load (nextT a0 a1 a2 a5 pred l)).n then _ else _, _) = _
  rw [if_pos h]; rfl
theorem step_1n (h : ¬ 9223372036854775808 ≤ (M.load (nextT a0 a1 a2 a5 pred l)).n) : (FindSt.norm ⟨[a0, a1, a2, a3, a4, a5, a6, a7, a8, a9, a10, a11, a12], key, 1, l, pred, ref, cur, w, P, S, K, r⟩).step M = (FindSt.looks ⟨[a0, a1, a2, a3, a4, a5, a6, a7, a8, a9, a10, a11, a12], key, 1, l, pred, ref, (M.load (nextT a0 a1 a2 a5 pred l)).n, 0, P, S, K, 0⟩ ref, M.load (nextT a0 a1 a2 a5 pred l)) := by
  show (if 9223372036854775808 ≤ (M.load (nextT a0 a1 a2 a5 pred l)).n then _ else _, _) = _
  rw [if_neg h]; rfl
theorem step_2m (h : 9223372036854775808 ≤ (M.load (nextT a0 a1 a2 a5 (idxW a5 cur) l)).n) : (FindSt.norm ⟨[a0, a1, a2, a3, a4, a5, a6, a7, a8, a9, a10, a11, a12], key, 2, l, pred, ref, cur, w, P, S, K, r⟩).step M = (⟨[a0, a1, a2, a3, a4, a5, a6, a7, a8, a9, a10, a11, a12], key, 3, l, pred, ref, cur, (M.load (nextT a0 a1 a2 a5 (idxW a5 cur) l)).n, P, S, K, cur⟩, M.load (nextT a0 a1 a2 a5 (idxW a5 cur) l)) := by
  show (FindSt.mk _ _ (if 9223372036854775808 ≤ (M.load (nextT a0 a1 a2 a5 (idxW a5 cur) l)).n then 3 else 4) _ _ _ _ _ _ _ _ _, _) = _
  rw [if_pos h]; rfl
theorem step_2n (h : ¬ 9223372036854775808 ≤ (M.load (nextT a0 a1 a2 a5 (idxW a5 cur) l)).n) : (FindSt.norm ⟨[a0, a1, a2, a3, a4, a5, a6, a7, a8, a9, a10, a11, a12], key, 2, l, pred, ref, cur, w, P, S, K, r⟩).step M = (⟨[a0, a1, a2, a3, a4, a5, a6, a7, a8, a9, a10, a11, a12], key, 4, l, pred, ref, cur, (M.load (nextT a0 a1 a2 a5 (idxW a5 cur) l)).n, P, S, K, cur⟩, M.load (nextT a0 a1 a2 a5 (idxW a5 cur) l)) := by
  show (FindSt.mk _ _ (if 9223372036854775808 ≤ (M.load (nextT a0 a1 a2 a5 (idxW a5 cur) l)).n then 3 else 4) _ _ _ _ _ _ _ _ _, _) = _
  rw [if_neg h]; rfl
theorem step_3y (h : (M.cas (nextT a0 a1 a2 a5 pred l) cur (w % 9223372036854775808)).h = true) : (FindSt.norm ⟨[a0, a1, a2, a3, a4, a5, a6, a7, a8, a9, a10, a11, a12], key, 3, l, pred, ref, cur, w, P, S, K, r⟩).step M = (FindSt.looks ⟨[a0, a1, a2, a3, a4, a5, a6, a7, a8, a9, a10, a11, a12], key, 1, l, pred, ref, w % 9223372036854775808, 0, P, S, K, 0⟩ ref, M.cas (nextT a0 a1 a2 a5 pred l) cur (w % 9223372036854775808)) := by
  show (if (M.cas (nextT a0 a1 a2 a5 pred l) cur (w % 9223372036854775808)).h = true then _ else _, _) = _
  rw [if_pos h]; rfl
theorem step_3n (h : (M.cas (nextT a0 a1 a2 a5 pred l) cur (w % 9223372036854775808)).h = false) : (FindSt.norm ⟨[a0, a1, a2, a3, a4, a5, a6, a7, a8, a9, a10, a11, a12], key, 3, l, pred, ref, cur, w, P, S, K, r⟩).step M = (⟨[a0, a1, a2, a3, a4, a5, a6, a7, a8, a9, a10, a11, a12], key, 1, a2 - 1, -1, 0, 0, 0, P, S, K, ref⟩, M.cas (nextT a0 a1 a2 a5 pred l) cur (w % 9223372036854775808)) := by
  show (if (M.cas (nextT a0 a1 a2 a5 pred l) cur (w % 9223372036854775808)).h = true then _ else _, _) = _
  rw [if_neg (by rw [h]; decide)]; rfl
theorem step_4y (h : (M.load (atT a0 a1 a2 a5 (idxW a5 cur) 0)).n < key) : (FindSt.norm ⟨[a0, a1, a2, a3, a4, a5, a6, a7, a8, a9, a10, a11, a12], key, 4, l, pred, ref, cur, w, P, S, K, r⟩).step M = (FindSt.looks ⟨[a0, a1, a2, a3, a4, a5, a6, a7, a8, a9, a10, a11, a12], key, 1, l, (idxW a5 cur), cur, w, 0, P, S, K, 0⟩ cur, M.load (atT a0 a1 a2 a5 (idxW a5 cur) 0)) := by
  show (if (M.load (atT a0 a1 a2 a5 (idxW a5 cur) 0)).n < key then _ else _, _) = _
  rw [if_pos h]; rfl
theorem step_4n (h : key ≤ (M.load (atT a0 a1 a2 a5 (idxW a5 cur) 0)).n) : (FindSt.norm ⟨[a0, a1, a2, a3, a4, a5, a6, a7, a8, a9, a10, a11, a12], key, 4, l, pred, ref, cur, w, P, S, K, r⟩).step M = (FindSt.done ⟨[a0, a1, a2, a3, a4, a5, a6, a7, a8, a9, a10, a11, a12], key, 4, l, pred, ref, cur, w, P, S, K, r⟩ cur, M.load (atT a0 a1 a2 a5 (idxW a5 cur) 0)) := by
  show (if (M.load (atT a0 a1 a2 a5 (idxW a5 cur) 0)).n < key then _ else _, _) = _
  rw [if_neg (by omega)]; rfl
theorem step_9 : (FindSt.norm ⟨[a0, a1, a2, a3, a4, a5, a6, a7, a8, a9, a10, a11, a12], key, 9, l, pred, ref, cur, w, P, S, K, r⟩).step M = ((FindSt.norm ⟨[a0, a1, a2, a3, a4, a5, a6, a7, a8, a9, a10, a11, a12], key, 9, l, pred, ref, cur, w, P, S, K, r⟩), M) := rfl
theorem lk_d {r' : Int} (h : idxW a5 cur < 0) : FindSt.looks ⟨[a0, a1, a2, a3, a4, a5, a6, a7, a8, a9, a10, a11, a12], key, 1, l, pred, ref, cur, 0, P, S, K, 0⟩ r' = FindSt.done ⟨[a0, a1, a2, a3, a4, a5, a6, a7, a8, a9, a10, a11, a12], key, 1, l, pred, ref, cur, 0, P, S, K, 0⟩ r' := by
  show (if idxW a5 cur < 0 then _ else _) = _
  rw [if_pos h]
theorem lk_2 {r' : Int} (h : 0 ≤ idxW a5 cur) : FindSt.looks ⟨[a0, a1, a2, a3, a4, a5, a6, a7, a8, a9, a10, a11, a12], key, 1, l, pred, ref, cur, 0, P, S, K, 0⟩ r' = ⟨[a0, a1, a2, a3, a4, a5, a6, a7, a8, a9, a10, a11, a12], key, 2, l, pred, ref, cur, 0, P, S, K, r'⟩ := by
  show (if idxW a5 cur < 0 then _ else _) = _
  rw [if_neg (by omega)]
theorem dn_0 {n r' w' : Int} (h : l = 0) : FindSt.done ⟨[a0, a1, a2, a3, a4, a5, a6, a7, a8, a9, a10, a11, a12], key, n, l, pred, ref, cur, w', P, S, K, r⟩ r' = ⟨[a0, a1, a2, a3, a4, a5, a6, a7, a8, a9, a10, a11, a12], key, 9, 0, 0, 0, 0, 0, P.set l.toNat pred, S.set l.toNat cur, K.set l.toNat ref, r'⟩ := by
  show (if l = 0 then _ else _) = _
  rw [if_pos h]
theorem dn_1 {n r' w' : Int} (h : ¬ l = 0) : FindSt.done ⟨[a0, a1, a2, a3, a4, a5, a6, a7, a8, a9, a10, a11, a12], key, n, l, pred, ref, cur, w', P, S, K, r⟩ r' = ⟨[a0, a1, a2, a3, a4, a5, a6, a7, a8, a9, a10, a11, a12], key, 1, l - 1, pred, ref, 0, 0, P.set l.toNat pred, S.set l.toNat cur, K.set l.toNat ref, r'⟩ := by
  show (if l = 0 then _ else _) = _
  rw [if_neg h]
end
theorem out_fidx1 (x0 x1 x2 x3 x4 x5 x6 x7 x8 x9 x10 x11 x12 x13 x14 x15 x16 x17 x18 x19 x20 x21 x22 x24 x25 x26 x27 x28 x29 : Int) (x23 : Bool) : cFIdx1.out [.i x0, .i x1, .i x2, .i x3, .i x4, .i x5, .i x6, .i x7, .i x8, .i x9, .i x10, .i x11, .i x12, .i x13, .i x14, .i x15, .i x16, .i x17, .i x18, .i x19, .i x20, .i x21, .i x22, .b x23, .i x24, .i x25, .i x26, .i x27, .i x28, .i x29] = [.i (idxW x5 x25)] := rfl
theorem out_fidx2 (x0 x1 x2 x3 x4 x5 x6 x7 x8 x9 x10 x11 x12 x13 x14 x15 x16 x17 x18 x19 x20 x21 x22 x24 x25 x26 x27 x28 x29 x30 x31 x32 x33 : Int) (x23 : Bool) : cFIdx2.out [.i x0, .i x1, .i x2, .i x3, .i x4, .i x5, .i x6, .i x7, .i x8, .i x9, .i x10, .i x11, .i x12, .i x13, .i x14, .i x15, .i x16, .i x17, .i x18, .i x19, .i x20, .i x21, .i x22, .b x23, .i x24, .i x25, .i x26, .i x27, .i x28, .i x29, .i x30, .i x31, .i x32, .i x33] = [.i (idxW x5 x25)] := rfl
theorem out_fidx3 (x0 x1 x2 x3 x4 x5 x6 x7 x8 x9 x10 x11 x12 x13 x14 x15 x16 x17 x18 x19 x20 x21 x22 x24 x25 x26 x27 x28 x29 x30 x31 x32 x33 x34 x35 x36 x37 : Int) (x23 : Bool) : cFIdx3.out [.i x0, .i x1, .i x2, .i x3, .i x4, .i x5, .i x6, .i x7, .i x8, .i x9, .i x10, .i x11, .i x12, .i x13, .i x14, .i x15, .i x16, .i x17, .i x18, .i x19, .i x20, .i x21, .i x22, .b x23, .i x24, .i x25, .i x26, .i x27, .i x28, .i x29, .i x30, .i x31, .i x32, .i x33, .i x34, .i x35, .i x36, .i x37] = [.i (idxW x5 x25)] := rfl
theorem out_fidx4 (x0 x1 x2 x3 x4 x5 x6 x7 x8 x9 x10 x11 x12 x13 x14 x15 x16 x17 x18 x19 x20 x21 x22 x24 x25 x26 x27 x28 x29 x30 x31 x32 x33 x34 x35 x36 x37 x38 x39 x40 x41 : Int) (x23 : Bool) : cFIdx4.out [.i x0, .i x1, .i x2, .i x3, .i x4, .i x5, .i x6, .i x7, .i x8, .i x9, .i x10, .i x11, .i x12, .i x13, .i x14, .i x15, .i x16, .i x17, .i x18, .i x19, .i x20, .i x21, .i x22, .b x23, .i x24, .i x25, .i x26, .i x27, .i x28, .i x29, .i x30, .i x31, .i x32, .i x33, .i x34, .i x35, .i x36, .i x37, .i x38, .i x39, .i x40, .i x41] = [.i (idxW x5 x25)] := rfl
theorem pre_idxq {a0 a1 a2 a3 a4 a5 a6 a7 a8 a9 a10 a11 a12 w : Int} (h : isW w) : cIdxQ.pre [.i a0, .i a1, .i a2, .i a3, .i a4, .i a5, .i a6, .i a7, .i a8, .i a9, .i a10, .i a11, .i a12, .i w] := ⟨_, _, _, _, _, _, _, _, _, _, _, _, _, _, rfl, h⟩
theorem out_cas' (M : MemSt) (x y z : Int) : cCAS.out [.u (.mem M), .i x, .i y, .i z] = [.u (.mem (M.cas x y z)), .b (M.cas x y z).h] := rfl
theorem high_of : ∀ (t : Nat) (T : ObjT U), objs[t]? = some T → ∀ ps, T.ok ps → ∀ F, U.find F = T.obj ps → F.a 2 = [0, 0, 0, 0, 0, 1, 2, 2, 3, 3, 3, 4, 4, 4, 4].getD t 0 := by
  refine objs_all ?_ ?_ ?_ ?_ ?_ ?_ ?_ ?_ ?_ ?_ ?_ ?_ ?_ ?_ ?_ ?_ ?_ ?_
  all_goals first
    | (rintro ps ⟨l, s, k, a, o, n, h, N, rfl, _⟩ F e; cases e; done)
    | (rintro ps ⟨_, _, _, _, _, _, _, _, _, _, _, _, _, _, _, _, _, _, _, _, _, _, _, rfl, _⟩ F e; injection e with e; subst e; rfl)
    | (rintro ps ⟨_, _, _, _, _, _, _, _, _, _, _, _, _, _, _, _, _, _, _, _, _, _, _, _, _, _, _, rfl, _⟩ F e; injection e with e; subst e; rfl)
    | (rintro ps ⟨_, _, _, _, _, _, _, _, _, _, _, _, _, _, _, _, _, _, _, _, _, _, _, _, _, _, _, _, _, _, _, rfl, _⟩ F e; injection e with e; subst e; rfl)
    | (rintro ps ⟨_, _, _, _, _, _, _, _, _, _, _, _, _, _, _, _, _, _, _, _, _, _, _, _, _, _, _, _, _, _, _, _, _, _, _, rfl, _⟩ F e; injection e with e; subst e; rfl)
    | (rintro ps ⟨_, _, _, _, _, _, _, _, _, _, _, _, _, _, _, _, _, _, _, _, _, _, _, _, rfl, _⟩ F e; cases e; done)
    | (rintro ps rfl F e; cases e; done)
theorem nomore_high {F : FindSt} {ts : List Nat} (h : ∀ t, 5 ≤ t → t < 15 → t ∉ ts → ¬ F.a 2 = [0, 0, 0, 0, 0, 1, 2, 2, 3, 3, 3, 4, 4, 4, 4].getD t 0) : ∀ (t : Nat) (T : ObjT U) (ps : List (EV U)), objs[t]? = some T → t ∉ ts → ps.length = T.nv → T.ok ps → some (EV.u (U.find F)) ≠ some (EV.u (T.obj ps)) := by
  intro t T ps ht hn hl hok e
  by_cases hm : t ∈ [5, 6, 7, 8, 9, 10, 11, 12, 13, 14]
  · have hm' : 5 ≤ t ∧ t < 15 := by simp at hm; omega
    injection e with e; injection e with e
    exact h t hm'.1 hm'.2 hn (high_of t T ht ps hok F e)
  · exact nomore_find t T ps ht hm hl hok e
end Go.Proofs.YtbmbiiiacajolaaGreat
