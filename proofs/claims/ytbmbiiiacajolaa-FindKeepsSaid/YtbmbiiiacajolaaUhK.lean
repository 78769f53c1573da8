/- Texts of this proof. -/
import Derived.Test.YtbmbiiiacajolaaUgK
import Derived.Test.YtbmbiiiacajolaaUgTK
import Derived.Test.YtbmbiiiacajolaaUfK
namespace Go.Proofs.Ytbmbiiiacajolaa
set_option linter.unusedVariables false
set_option linter.unusedSimpArgs false
set_option linter.unusedSectionVars false
open Go Go.RowKit
theorem fineFillK {M : MemSt} (h : M.fine) (t l s : Int) : ∀ k, k ≤ 4096 → (fillK M t l s k).fine
 | 0, _ => fine_store h ⟨by decide, by decide⟩
 | k + 1, hk => fine_store (fineFillK h t l s k (by omega)) (by split <;> exact ⟨by omega, by omega⟩)
theorem fineFillR {M : MemSt} (h : M.fine) (a : Int) {x : Int} (hx : isW x) : ∀ k, (fillR M a x k).fine
 | 0 => h
 | k + 1 => fine_store (fineFillR h a hx k) hx
theorem fineFill15 {M : MemSt} (h : M.fine) (n hh a t l s g w ea ep ec tp : Int) : (fill15 M n hh a t l s g w ea ep ec tp).fine := by
 have h10 : (fill10 M t l s).fine := by
  unfold fill10
  split
  · exact fineFillK h _ _ _ _ (by omega)
  · exact h
 have h11 : (fill11 M t l s g w).fine := by
  unfold fill11
  split
  · exact fineFillR (fine_store h10 isW0) _ ⟨by decide, by decide⟩ _
  · exact h
 have h12 : (fill12 (fill11 M t l s g w) ea ep ec).fine := by
  unfold fill12
  split
  · exact fineFillR (fine_store h11 isW0) _ isW0 _
  · exact h11
 unfold fill15
 split
 · exact fineFillR (fineFillR h12 _ isW0 _) _ isW0 _
 · exact h
theorem sto_word {M : MemSt} {x w y : Int} (y0 : 0 ≤ y) : (M.store x w).word y = if y = x ∧ x < M.W.length then w else M.word y := by
 by_cases h : 0 ≤ x ∧ x < M.W.length
 · rw [KL.store_word h.1 h.2 y0]
   by_cases e : y = x
   · rw [if_pos e, if_pos ⟨e, h.2⟩]
   · rw [if_neg e, if_neg (fun q => e q.1)]
 · have e : (M.store x w).W = M.W := by
    unfold MemSt.store MemSt.acc
    rw [if_neg (by unfold MemSt.is; rw [decide_eq_false h]; decide)]
   rw [if_neg (by omega)]
   show (M.store x w).W.getD y.toNat 0 = M.W.getD y.toNat 0
   rw [e]
theorem fillR_z {M : MemSt} {a y : Int} (y0 : 0 ≤ y) (h : M.word y = 0) : ∀ k, (fillR M a 0 k).word y = 0
 | 0 => h
 | k + 1 => by
   show ((fillR M a 0 k).store _ 0).word y = 0
   rw [sto_word y0, fillR_z y0 h k]; split <;> rfl
theorem fillR_k {M : MemSt} {a x y : Int} (y0 : 0 ≤ y) : ∀ k : Nat, (∀ j : Nat, j < k → IntKind.i64.wrap (a + j) ≠ y) → (fillR M a x k).word y = M.word y
 | 0, _ => rfl
 | k + 1, h => by
   show ((fillR M a x k).store _ x).word y = _
   rw [sto_word y0, if_neg (fun q => h k (by omega) q.1.symm), fillR_k y0 k (fun j hj => h j (by omega))]
theorem fillK_k {M : MemSt} {t l s y : Int} (y0 : 0 ≤ y) (ht : y ≠ t) : ∀ k : Nat, (∀ j : Nat, j < k → IntKind.i64.wrap (l + j) ≠ y) → (fillK M t l s k).word y = M.word y
 | 0, _ => by
   show (M.store t 1).word y = _
   rw [sto_word y0, if_neg (fun q => ht q.1)]
 | k + 1, h => by
   show ((fillK M t l s k).store _ _).word y = _
   rw [sto_word y0, if_neg (fun q => h k (by omega) q.1.symm), fillK_k y0 ht k (fun j hj => h j (by omega))]
theorem new_word (n y : Int) : (MemSt.new n).word y = 0 := by
 show (List.replicate n.toNat (0 : Int)).getD y.toNat 0 = 0
 rw [List.getD, List.getElem?_replicate]; split <;> rfl
theorem fill_zero {n hh a s m ea ep tp y : Int} {M : MemSt} (hs : 1 ≤ s ∧ s ≤ 9) (hy : 9 + 2 * s ≤ y) (hm : M.word y = 0) : (fill15 M n hh a 0 1 s (1 + s) (1 + 2 * s) ea ep 3 tp).word y = 0 := by
 have y0 : 0 ≤ y := by omega
 have h10 : (fill10 M 0 1 s).word y = 0 := by
  unfold fill10
  rw [if_pos (by omega), fillK_k y0 (by omega) _ (fun j hj => by rw [wrap_small (by omega) (by omega)]; omega)]; exact hm
 have h11 : (fill11 M 0 1 s (1 + s) (1 + 2 * s)).word y = 0 := by
  unfold fill11
  rw [if_pos (by omega), fillR_k y0 _ (fun j hj => by rw [wrap_small (by omega) (by omega)]; omega), sto_word y0]
  split
  · rfl
  · exact h10
 have h12 : (fill12 (fill11 M 0 1 s (1 + s) (1 + 2 * s)) ea ep 3).word y = 0 := by
  unfold fill12
  rw [if_pos (by decide)]
  refine fillR_z y0 ?_ _
  rw [sto_word y0]; split
  · rfl
  · exact h11
 unfold fill15
 split
 · exact fillR_z y0 (fillR_z y0 h12 _) _
 · exact hm
theorem app_nth {xs r : List Int} {i x j : Int} (i0 : 0 ≤ i) (hi : i ≤ xs.length) (j0 : 0 ≤ j) (hj : j ≤ i) : nthL (xs.take i.toNat ++ x :: r) j = if j = i then x else nthL xs j := by
 unfold nthL
 have hl : (xs.take i.toNat).length = i.toNat := by rw [List.length_take]; omega
 by_cases e : j = i
 · rw [if_pos e, e, List.getElem?_append_right (by omega), hl, Nat.sub_self]; rfl
 · rw [if_neg e, List.getElem?_append_left (by omega), List.getElem?_take, if_pos (by omega)]
theorem lse_inj {E E' : LsE} {l l' : Int} (h : E.env ++ [.i l] = E'.env ++ [.i l']) : E = E' ∧ l = l' := by
 obtain ⟨s, H, n, ck, ch, ci, cl, M, ks, hs, is, ls⟩ := E
 obtain ⟨s', H', n', ck', ch', ci', cl', M', ks', hs', is', ls'⟩ := E'
 simp only [LsE.env, List.cons_append, List.nil_append, List.cons.injEq, EV.i.injEq, EV.l.injEq, EV.u.injEq, U.mem.injEq, and_true, true_and] at h
 obtain ⟨h1, h2, h3, h4, h5, h6, h7, h8, h9, h10, h11, h12, h13, h14, h15, h16, h17, h18, h19, h20⟩ := h
 simp_all
set_option maxRecDepth 10000
set_option maxHeartbeats 8000000
theorem bMaB (P : Program) (hs' : List (Nat × Nat × List Nat)) : ∀ env, lmbInv env → tLMadeL0.sat { cxUa P [lMaA, lMaB] with hints := hs' } (ctrR cLMade) env := by
 rintro env ⟨E, g, k, c, x4, x5, x6, key, M0, l, rfl, hE, hnk, l0, l1, hL, hlo⟩
 obtain ⟨s, H, n, ck, ch, ci, cl, M, ks, hs, is, ls⟩ := E
 obtain ⟨hX, hs0, hk, hh, hi, hl, hM, hkw⟩ := id hE
 have hX : (KL.mk' n H ks hs is).ok := hX
 have n0 : 0 ≤ n := hX.n0
 have n9 : n ≤ 9 := hX.n9
 have H1 : 1 ≤ H := hX.H1
 have H4 : H ≤ 4 := hX.H4
 have hs1 : s = if n < 1 then 1 else n := hs0
 have hs2 : 1 ≤ s ∧ s ≤ 9 ∧ n ≤ s := by split at hs1 <;> omega
 have hk : n ≤ ks.length := hk
 have hh : n ≤ hs.length := hh
 have hi : n ≤ is.length := hi
 have hl : n ≤ ls.length := hl
 have l1 : l ≤ H := l1
 unfold tLMadeL0
 repeat' (first
  | (refine st_callm (by rfl) (by simp only [dn, reduceCtorEq, va_map] <;> rfl) ?_ (fun o env' hm he => ?_)
     focus exact ⟨⟨s, H, n, ck, ch, ci, cl, M, ks, hs, is, ls⟩, l, rfl, hE, l0, by show l < H; omega, hL⟩
     obtain ⟨E2, l2, M2, e1, rfl, e3, e4⟩ := hm
     obtain ⟨rfl, rfl⟩ := lse_inj (E := ⟨s, H, n, ck, ch, ci, cl, M, ks, hs, is, ls⟩) e1
     simp only [List.cons_append, List.nil_append] at he
     subst he)
  | (first
    | (with_reducible refine st_need ?_ ?_
       focus (simp only [dn, reduceCtorEq, va_map] <;> first | omega | assumption))
    | (with_reducible refine st_and ?_ ?_)
    | (with_reducible exact st_ok)
    | (with_reducible refine st_br (fun hc => ?_) (fun hc => ?_) <;> (simp only [dn, reduceCtorEq, va_map] at hc) <;> (try (exfalso; first | contradiction | omega)))
    | (refine st_call (by rfl) (by simp only [dn, reduceCtorEq, va_map] <;> rfl) ?_ (by rfl <;> rfl) (by simp only [dn] <;> rfl) ?_
       focus (first | rfl)))
  | (refine st_back (by rfl) (by simp only [dn, reduceCtorEq, va_map] <;> rfl) (by simp only [dn] <;> rfl) (by rfl) ?_ ?_
     focus (rw [wrap_small (n := l + 1) (by omega) (by omega)]
            exact ⟨⟨s, H, n, ck, ch, ci, cl, M2, ks, hs, is, ls⟩, g, k, c, x4, x5, x6, key, M0, l + 1, rfl, ⟨hX, hs0, hk, hh, hi, hl, e4, hkw⟩, hnk, by omega, by show l + 1 ≤ H; omega, e3, hlo⟩)
     focus (rw [wrap_small (n := l + 1) (by omega) (by omega)]; show (H - (l + 1)).toNat < (H - l).toNat; omega))
  | (refine st_ret (by simp only [dn, reduceCtorEq, va_map] <;> rfl) ?_
     exact ⟨⟨s, H, n, ck, ch, ci, cl, M, ks, hs, is, ls⟩, g, k, c, rfl, rfl, hnk, ⟨hE, KL.inv0 hlo, KL.lay_rep (l := l) (by show l = H; omega) hL⟩⟩)
  | fail "no step")
theorem bMaA (P : Program) (hs' : List (Nat × Nat × List Nat)) : ∀ env, lmaInv env → tLMadeL1.sat { cxUa P [lMaA, lMaB] with hints := hs' } (ctrR cLMade) env := by
 rintro env ⟨H, g, k, c, x4, x5, x6, s, i, key, M, ks, ck, hs, ch, is, ci, ls, cl, rfl, H1, H4, k9, hs1, ik, hL, hM, rfl, rfl, rfl, rfl, u1, u2, u3, u4, hkw⟩
 have i0 : 0 ≤ i := hL.k0
 have hs2 : 1 ≤ s ∧ s ≤ 9 ∧ (k : Int) ≤ s := by split at hs1 <;> omega
 have hky := hL.key0
 have hlen := hL.len
 by_cases hik : i < k
 · obtain ⟨p0, r0⟩ : ∃ p, (g i.toNat 0).emod 9 = p := ⟨_, rfl⟩
   have p0b : 0 ≤ p0 ∧ p0 < 9 := by rw [← r0]; exact ⟨Int.emod_nonneg _ (by decide), Int.emod_lt_of_pos _ (by decide)⟩
   obtain ⟨p1, r1⟩ : ∃ p, (g i.toNat 1).emod H = p := ⟨_, rfl⟩
   have p1b : 0 ≤ p1 ∧ p1 < H := by rw [← r1]; exact ⟨Int.emod_nonneg _ (by omega), Int.emod_lt_of_pos _ (by omega)⟩
   obtain ⟨p2, r2⟩ : ∃ p, (g i.toNat 2).emod (1 + p1) = p := ⟨_, rfl⟩
   have p2b : 0 ≤ p2 ∧ p2 < 1 + p1 := by rw [← r2]; exact ⟨Int.emod_nonneg _ (by omega), Int.emod_lt_of_pos _ (by omega)⟩
   obtain ⟨p3, r3⟩ : ∃ p, (g i.toNat 3).emod (1 + p1 + 1) = p := ⟨_, rfl⟩
   have p3b : 0 ≤ p3 ∧ p3 < 1 + p1 + 1 := by rw [← r3]; exact ⟨Int.emod_nonneg _ (by omega), Int.emod_lt_of_pos _ (by omega)⟩
   have w1 : IntKind.i64.wrap (1 + p1) = 1 + p1 := wrap_small (by omega) (by omega)
   have w2 : IntKind.i64.wrap (1 + p1 + 1) = 1 + p1 + 1 := wrap_small (by omega) (by omega)
   have w3 : IntKind.i64.wrap (1 + p2) = 1 + p2 := wrap_small (by omega) (by omega)
   have w4 : IntKind.i64.wrap (1 + p1 - p3) = 1 + p1 - p3 := wrap_small (by omega) (by omega)
   have w5 : IntKind.u64.wrap (key + 1) = key + 1 := wrap_u64' (by omega) (by omega)
   have w6 : IntKind.u64.wrap p0 = p0 := wrap_u64' (by omega) (by omega)
   have w7 : IntKind.u64.wrap (key + 1 + p0) = key + 1 + p0 := wrap_u64' (by omega) (by omega)
   have w8 : IntKind.u64.wrap (1 + p1) = 1 + p1 := wrap_u64' (by omega) (by omega)
   have wi : IntKind.i64.wrap (i + 1) = i + 1 := wrap_small (by omega) (by omega)
   have ra := KL.key_rng (s := s) (H := H) (i := i) hs2.1 hs2.2.1 H1 H4 i0 (by omega)
   have rb := KL.c2_rng (s := s) (H := H) (i := i) hs2.1 hs2.2.1 H1 H4 i0 (by omega)
   have hM2 : ((M.store (cellK s H i) (key + 1 + p0)).store (cell2 s H i) (1 + p1)).fine := fine_store (fine_store hM ⟨by omega, by omega⟩) ⟨by omega, by omega⟩
   have hl2 : ((M.store (cellK s H i) (key + 1 + p0)).store (cell2 s H i) (1 + p1)).W.length = M.W.length := by rw [len_store, len_store]
   have hst : ∀ q1 q2 q3 q4 : List Int, KL.L1 s H (i + 1) (ks.take i.toNat ++ (key + 1 + p0) :: q1) (hs.take i.toNat ++ (1 + p1) :: q2) (is.take i.toNat ++ (1 + p2) :: q3) (ls.take i.toNat ++ (1 + p1 - p3) :: q4) (key + 1 + p0) ((M.store (cellK s H i) (key + 1 + p0)).store (cell2 s H i) (1 + p1)) := fun q1 q2 q3 q4 =>
    KL.l1_step hL hs2.2.1 H1 H4 (by omega) (by omega) (by omega) (fun j j0 j1 => app_nth i0 u1 j0 j1) (fun j j0 j1 => app_nth i0 u2 j0 j1) (fun j j0 j1 => app_nth i0 u3 j0 j1) (fun j j0 j1 => app_nth i0 u4 j0 j1) hl2 (fun y y0 => by
     rw [KL.store_word rb.1 (by rw [len_store, hlen]; exact rb.2) y0, KL.store_word ra.1 (by rw [hlen]; exact ra.2) y0])
   have hkw2 : ∀ q1 : List Int, ∀ j, 0 ≤ j → j < i + 1 → isW (nthL (ks.take i.toNat ++ (key + 1 + p0) :: q1) j) := fun q1 j j0 j1 => by
    rw [app_nth i0 u1 j0 (by omega)]
    split
    · exact ⟨by omega, by omega⟩
    · exact hkw j j0 (by omega)
   unfold tLMadeL1
   repeat' (first
    | (first
      | (with_reducible refine st_need ?_ ?_
         focus (simp only [dn, reduceCtorEq, va_map, r0, r1, r2, r3, w1, w2, w3, w4, w5, w6, w7, w8] <;> first | omega | assumption))
      | (with_reducible refine st_and ?_ ?_)
      | (with_reducible exact st_ok)
      | (with_reducible refine st_br (fun hc => ?_) (fun hc => ?_) <;> (simp only [dn, reduceCtorEq, va_map, r0, r1, r2, r3, w1, w2, w3, w4, w5, w6, w7, w8] at hc) <;> (try (exfalso; first | contradiction | omega)))
      | (refine st_call (by rfl) (by simp only [dn, reduceCtorEq, va_map, r0, r1, r2, r3, w1, w2, w3, w4, w5, w6, w7, w8] <;> rfl) ?_ (by simp only [out_pick, r0, r1, r2, r3, out_atP, out_store] <;> rfl) (by simp only [dn] <;> rfl) ?_
         focus (first | exact pre_pick (by omega) (by omega) | exact ⟨_, _, _, _, _, _, _, _, _, _, _, _, _, _, _, rfl⟩ | exact ⟨_, _, _, rfl⟩)))
    | (refine st_app (by rfl) (by simp only [dn, reduceCtorEq, va_map, r0, w1, w2, w3, w4, w5, w6, w7] <;> rfl) (by simp only [dn, reduceCtorEq, va_map, r0, w1, w2, w3, w4, w5, w6, w7] <;> rfl) (fun rr env' he => ?_)
       simp only [List.cons_append, List.nil_append] at he
       subst he)
    | (refine st_back (by rfl) (by simp only [dn, reduceCtorEq, va_map, r0, w1, w2, w3, w4, w5, w6, w7, wi] <;> rfl) (by simp only [dn] <;> rfl) (by rfl) ?_ ?_
       focus (refine ⟨H, g, k, c, _, _, _, s, i + 1, key + 1 + p0, _, _, _, _, _, _, _, _, _, rfl, H1, H4, k9, hs1, by omega, hst _ _ _ _, hM2, ?_, ?_, ?_, ?_, by omega, by omega, by omega, by omega, hkw2 _⟩
              all_goals (rw [len_app (by omega)]))
       focus (show ((k : Int) - (i + 1)).toNat < ((k : Int) - i).toNat; omega))
    | fail "no step")
 · have hik' : i = k := by omega
   obtain ⟨hX, hLay, hlo⟩ := KL.l1_ok hL (by omega) H1 H4 (by rw [hik']; exact hs1)
   unfold tLMadeL1
   repeat' (first
    | (first
      | (with_reducible refine st_need ?_ ?_
         focus (simp only [dn, reduceCtorEq, va_map] <;> first | omega | assumption))
      | (with_reducible refine st_and ?_ ?_)
      | (with_reducible exact st_ok)
      | (with_reducible refine st_br (fun hc => ?_) (fun hc => ?_) <;> (simp only [dn, reduceCtorEq, va_map] at hc) <;> (try (exfalso; first | contradiction | omega)))
      | (refine st_call (by rfl) (by simp only [dn, reduceCtorEq, va_map] <;> rfl) ?_ (by rfl <;> rfl) (by simp only [dn] <;> rfl) ?_
         focus (first | rfl)))
    | (refine st_loop (by rfl) (by simp only [dn, reduceCtorEq, va_map] <;> rfl) (by simp only [dn] <;> rfl) ?_ (fun env' h => bMaB P hs' env' h)
       exact ⟨⟨s, H, i, _, _, _, _, M, ks, hs, is, ls⟩, g, k, c, _, _, _, key, M, 0, rfl, ⟨hX, by rw [hik']; exact hs1, u1, u2, u3, u4, hM, hkw⟩, hik', by omega, by show (0 : Int) ≤ H; omega, hLay, hlo⟩)
    | fail "no step")
theorem vLMade (P : Program) (hs' : List (Nat × Nat × List Nat)) : ∀ ins, ins.length = cLMade.nin → cLMade.pre ins → tLMade.sat { cxUa P [lMaA, lMaB] with hints := hs' } (ctrR cLMade) ins := by
 rintro ins _ ⟨H, g, k, c, rfl, H1, H4, k9⟩
 obtain ⟨s, hs1⟩ : ∃ s : Int, s = if (k : Int) < 1 then 1 else (k : Int) := ⟨_, rfl⟩
 have hs2 : 1 ≤ s ∧ s ≤ 9 ∧ (k : Int) ≤ s := by split at hs1 <;> omega
 have hmx : binDen .add .i64 (k : Int) (binDen .shr .i64 1 (k : Int)) = s := by
  rw [hs1]
  by_cases h : (k : Int) < 1
  · have : (k : Int) = 0 := by omega
    rw [if_pos h, this]; rfl
  · have hk : k = 1 ∨ k = 2 ∨ k = 3 ∨ k = 4 ∨ k = 5 ∨ k = 6 ∨ k = 7 ∨ k = 8 ∨ k = 9 := by omega
    rw [if_neg h]
    rcases hk with rfl | rfl | rfl | rfl | rfl | rfl | rfl | rfl | rfl <;> rfl
 simp only [dn] at hmx
 have hsH : 5 ≤ s * (4 + H) ∧ s * (4 + H) ≤ 72 := by
  rcases KL.h4 H1 H4 with rfl | rfl | rfl | rfl <;> omega
 have w1 : IntKind.i64.wrap (2 * s) = 2 * s := wrap_small (by omega) (by omega)
 have w2 : IntKind.i64.wrap (6 + 2 * s) = 6 + 2 * s := wrap_small (by omega) (by omega)
 have w3 : IntKind.i64.wrap (6 + 2 * s + 3) = 9 + 2 * s := by rw [wrap_small (by omega) (by omega)]; omega
 have w4 : IntKind.i64.wrap (9 + 2 * s + H) = 9 + 2 * s + H := wrap_small (by omega) (by omega)
 have w5 : IntKind.i64.wrap (4 + H) = 4 + H := wrap_small (by omega) (by omega)
 have w6 : IntKind.i64.wrap (s * (4 + H)) = s * (4 + H) := wrap_small (by omega) (by omega)
 have w7 : IntKind.i64.wrap (9 + 2 * s + H + s * (4 + H)) = 9 + 2 * s + H + s * (4 + H) := wrap_small (by omega) (by omega)
 have w8 : IntKind.i64.wrap (1 + s) = 1 + s := wrap_small (by omega) (by omega)
 have w9 : IntKind.i64.wrap (1 + 2 * s) = 1 + 2 * s := wrap_small (by omega) (by omega)
 have w10 : IntKind.i64.wrap (2 + 2 * s) = 2 + 2 * s := wrap_small (by omega) (by omega)
 have w11 : IntKind.i64.wrap (3 + 2 * s) = 3 + 2 * s := wrap_small (by omega) (by omega)
 have w12 : IntKind.i64.wrap (3 + 2 * s + 3) = 6 + 2 * s := by rw [wrap_small (by omega) (by omega)]; omega
 have hz : 1 ≤ 9 + 2 * s + H + s * (4 + H) ∧ 9 + 2 * s + H + s * (4 + H) ≤ 4096 := by omega
 have e1 := out_new hz.1 hz.2
 have e3 : ((MemSt.new (9 + 2 * s + H + s * (4 + H))).W.length : Int) = 9 + 2 * s + H + s * (4 + H) := by
  show ((List.replicate (9 + 2 * s + H + s * (4 + H)).toNat (0 : Int)).length : Int) = _
  rw [List.length_replicate]; omega
 unfold tLMade
 repeat' (first
  | (first
    | (with_reducible refine st_need ?_ ?_
       focus (simp only [dn, reduceCtorEq, va_map, hmx, w1, w2, w3, w4, w5, w6, w7, w8, w9, w10, w11, w12] <;> first | omega | assumption))
    | (with_reducible refine st_and ?_ ?_)
    | (with_reducible exact st_ok)
    | (with_reducible refine st_br (fun hc => ?_) (fun hc => ?_) <;> (simp only [dn, reduceCtorEq, va_map, hmx, w1, w2, w3, w4, w5, w6, w7, w8, w9, w10, w11, w12] at hc) <;> (try (exfalso; first | contradiction | omega)))
    | (refine st_call (by rfl) (by simp only [dn, reduceCtorEq, va_map, hmx, w1, w2, w3, w4, w5, w6, w7, w8, w9, w10, w11, w12] <;> rfl) ?_ (by simp only [e1, out_TFill] <;> rfl) (by simp only [dn] <;> rfl) ?_
       focus (first | exact ⟨_, rfl⟩ | exact ⟨_, _, _, _, _, _, _, _, _, _, _, _, _, _, rfl, by omega⟩)))
  | (refine st_lst (by simp only [dn] <;> rfl) ?_)
  | (refine st_loop (by rfl) (by simp only [dn, reduceCtorEq, va_map, hmx, w1, w2, w3, w4, w5, w6, w7, w8, w9, w10, w11, w12] <;> rfl) (by simp only [dn] <;> rfl) ?_ (fun env' h => bMaA P hs' env' h)
     refine ⟨H, g, k, c, _, _, _, s, 0, 0, fill15 (MemSt.new (9 + 2 * s + H + s * (4 + H))) (9 + 2 * s + H) (9 + 2 * s) H 0 1 s (1 + s) (1 + 2 * s) (2 + 2 * s) (3 + 2 * s) 3 (6 + 2 * s), [], 0, [], 0, [], 0, [], 0, rfl, H1, H4, k9, hs1, by omega, ?_, fineFill15 (fine_new hz.2) _ _ _ _ _ _ _ _ _ _ _ _, rfl, rfl, rfl, rfl, by omega, by omega, by omega, by omega, fun j j0 j1 => by omega⟩
     exact ⟨by omega, by omega, by rw [len_fill15, e3], fun i l i0 i1 l0 l1 => by
      have hr := KL.cell_eq (s := s) (H := H) (i := i) (l := l) hs2.1 hs2.2.1 H1 H4 i0 i1 l0 l1
      refine fill_zero (m := 99) ⟨hs2.1, hs2.2.1⟩ ?_ (new_word _ _)
      rw [hr]
      rcases KL.h4 H1 H4 with rfl | rfl | rfl | rfl <;> split <;> omega, fun i i0 i1 => by omega, fun i i0 i1 => by omega, fun i j i0 ij j1 => by omega, fun i i0 i1 => by omega, by omega⟩)
  | fail "no step")
theorem hctsUa : ∀ (ci : Nat) (c : Ctr U), ctsUa[ci]? = some c → c.Holds objs Try.prog := by
 intro ci c h
 match ci, h with
 | 0, h => cases h; exact hNew
 | 1, h => cases h; exact hTFill
 | 2, h => cases h; exact hPick
 | 3, h => cases h; exact hAt
 | 4, h => cases h; exact hStore
 | 5, h => cases h; exact hLLinks
 | n + 6, h => cases h
theorem hLMade : cLMade.Holds objs Try.prog := runCtr_holdsm (X := { cxUa Try.prog [lMaA, lMaB] with hints := hsLMade }) objsOk mixed hctsUa (callable _ Try.func47 (by kernel_rfl) (by kernel_rfl)) (by rintro ins outs _ ⟨H, g, k, c, rfl, _⟩ ⟨E, g', k', c', _, rfl, _⟩; rfl) (by rw [rLMade]; exact vLMade _ _)
end Go.Proofs.Ytbmbiiiacajolaa
