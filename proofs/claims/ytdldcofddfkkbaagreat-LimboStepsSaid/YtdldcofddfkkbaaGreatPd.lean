/- Which arenas may be: the contract holds. -/
import Derived.Test.YtdldcofddfkkbaaGreatPcV
namespace Go.Proofs.YtdldcofddfkkbaaGreat
set_option linter.unusedVariables false
set_option linter.unusedSimpArgs false
set_option linter.unusedSectionVars false
open Go Go.RowKit

theorem fits11_of {t l s g w m c : Int} (h : arFacts t l s g w m c) : fits11 t l s g w m c = if (cells11 t l s g w).Nodup then 0 else 2 := by
  obtain ⟨h1, h1', h2, h3, h4, h5, h6, h7, h8, h9, h10, h11, h12, h13⟩ := h
  have e : IntKind.i64.wrap (c - s) = c - s := wrap_small (by omega) (by omega)
  unfold fits11
  rw [if_neg (by omega), if_neg (by rw [e]; omega)]
theorem runI_one {w : Int} (h : 0 ≤ w) (h' : w ≤ 4096) : runI w 1 = [w] := by
  show [] ++ [IntKind.i64.wrap (w + (0 : Nat))] = [w]
  rw [wrap_small (by omega) (by omega)]; simp
theorem runI_step {F : Int} {k : Nat} (h : 0 ≤ F) (h' : F + k ≤ 4096) : runI F (k + 1) = runI F k ++ [F + k] := by rw [runI, wrap_small (by omega) (by omega)]
/-- what is seen is twice there -/
theorem ar_twice {A B M : List Int} {F : Int} {k K : Nat} (h0 : 0 ≤ F) (h1 : F + K ≤ 4096) (hk : k < K) (hm : F + k ∈ A ++ runI F k) (hM : ∃ d, M = A ++ runI F K ++ d) : ¬ M.Nodup := by
  obtain ⟨d, rfl⟩ := hM
  obtain ⟨d', hd⟩ := runI_pre F (m := k + 1) (n := K) (by omega)
  refine not_nodup hm ⟨d' ++ d, ?_⟩
  rw [hd, runI_step h0 (by omega)]
  simp only [List.append_assoc]
set_option maxHeartbeats 8000000 in
theorem bAr2 (P : Program) (hs : List (Nat × Nat × List Nat)) : ∀ env, arInv2 env → tAFitsL0.sat { cxPar P with hints := hs } (ctrR cAFits) env := by
  rintro env ⟨t, l, s, g, w, m, c, x7, x8, x9, x10, x11, x12, x13, x14, x15, sn, at_, n, rfl, hf, k, hk, hsn, hN, ha, hn⟩
  obtain ⟨h1, h1', h2, h3, h4, h5, h6, h7, h8, h9, h10, h11, h12, h13⟩ := id hf
  have hsl : sn.length = c.toNat := by rw [hsn, seen_len]
  by_cases hkK : k < 1
  · rw [if_pos hkK] at ha hn
    subst ha hn
    have hfk : 0 ≤ w + (k : Int) ∧ w + (k : Int) < c := by omega
    have hg := seen_get (L := ([t] ++ runI l s.toNat ++ runI g s.toNat) ++ runI w k) hfk.1 hfk.2
    have hset := seen_set (L := ([t] ++ runI l s.toNat ++ runI g s.toNat) ++ runI w k) hfk.1 hfk.2
    have hap : (([t] ++ runI l s.toNat ++ runI g s.toNat) ++ runI w k) ++ [w + (k : Int)] = ([t] ++ runI l s.toNat ++ runI g s.toNat) ++ runI w (k + 1) := by rw [runI_step (by omega) (by omega), List.append_assoc]
    rw [hap, ← hsn] at hset
    rw [← hsn] at hg
    obtain ⟨S, hS⟩ : ∃ S, sn.set _ 1 = S := ⟨_, hset⟩
    rw [hS] at hset
    have hwk : IntKind.i64.wrap ((k : Int) + 1 + 1) = (k : Int) + 1 + 1 := wrap_small (by omega) (by omega)
    have hwa : IntKind.i64.wrap (w + ((k : Int) + 1 + 1)) = w + ((k : Int) + 1 + 1) := wrap_small (by omega) (by omega)
    have hwb : IntKind.i64.wrap (w + ((k : Int) + 1 + 1) - 1) = w + ((k + 1 : Nat) : Int) := by rw [wrap_small (by omega) (by omega)]; omega
    have hR : w + (k : Int) ∈ ([t] ++ runI l s.toNat ++ runI g s.toNat) ++ runI w k → fits11 t l s g w m c = 2 := fun hm => by
      rw [fits11_of hf, if_neg (ar_twice (K := 1) (B := []) (by omega) (by omega) hkK hm ⟨[], by rw [runI_one h8 (by omega)]; simp [cells11]⟩)]
    by_cases hm : w + (k : Int) ∈ ([t] ++ runI l s.toNat ++ runI g s.toNat) ++ runI w k
    · have hR' := hR hm
      rw [if_pos hm] at hg
      unfold tAFitsL0
      repeat' (first
        | (first
          | (with_reducible refine st_need ?_ ?_
             focus (simp only [dn, reduceCtorEq, hsl, hg, Int.reduceEq] <;> first | omega | assumption))
          | (with_reducible refine st_and ?_ ?_)
          | (with_reducible exact st_ok)
          | (with_reducible refine st_br (fun hc => ?_) (fun hc => ?_) <;> (simp only [dn, reduceCtorEq, hsl, hg, Int.reduceEq] at hc) <;> (try (exfalso; first | contradiction | omega)))
          | (refine st_call (by rfl) (by simp only [dn, reduceCtorEq, hsl, hg, Int.reduceEq] <;> rfl) ?_ (by rfl <;> rfl) (by simp only [dn] <;> rfl) ?_
             focus (first | rfl)))
        | (refine st_ret (by simp only [dn, reduceCtorEq, hsl] <;> rfl) ?_
           focus (show [EV.i _] = [EV.i _]; rw [hR']))
        | fail "no step")
    · rw [if_neg hm] at hg
      have hN' : (([t] ++ runI l s.toNat ++ runI g s.toNat) ++ runI w (k + 1)).Nodup := hap ▸ nodup_put hN hm
      unfold tAFitsL0
      repeat' (first
        | (first
          | (with_reducible refine st_need ?_ ?_
             focus (simp only [dn, reduceCtorEq, hsl, hg] <;> first | omega | assumption))
          | (with_reducible refine st_and ?_ ?_)
          | (with_reducible exact st_ok)
          | (with_reducible refine st_br (fun hc => ?_) (fun hc => ?_) <;> (simp only [dn, reduceCtorEq, hsl, hg] at hc) <;> (try (exfalso; first | contradiction | omega)))
          | (refine st_call (by rfl) (by simp only [dn, reduceCtorEq, hsl, hg] <;> rfl) ?_ (by rfl <;> rfl) (by simp only [dn] <;> rfl) ?_
             focus (first | rfl)))
        | (refine st_setl (by simp only [dn, reduceCtorEq, hS] <;> rfl) ?_)
        | (refine st_back (by rfl) (by simp only [dn, reduceCtorEq, hwk, hwa, hwb] <;> rfl) (by simp only [dn] <;> rfl) (by rfl) ?_ ?_
           focus first
             | exact ⟨t, l, s, g, w, m, c, x7, x8, x9, x10, x11, x12, x13, x14, x15, _, _, _, rfl, hf, k + 1, by omega, hset, hN', by rw [if_pos (by omega)], by rw [if_pos (by omega)]; omega⟩
             | exact ⟨t, l, s, g, w, m, c, x7, x8, x9, x10, x11, x12, x13, x14, x15, _, _, _, rfl, hf, k + 1, by omega, hset, hN', by rw [if_neg (by omega)], by rw [if_neg (by omega)]; omega⟩
           focus first
             | (show 2 * 1 + 2 - ((k : Int) + 1).toNat - (if (-1 : Int) < 0 then 1 else 0) < 2 * 1 + 2 - ((k : Int) + 1).toNat - (if w + (k : Int) < 0 then 1 else 0)
                rw [if_pos (by decide), if_neg (by omega)]; omega)
             | (show 2 * 1 + 2 - ((k : Int) + 1 + 1).toNat - (if w + ((k + 1 : Nat) : Int) < 0 then 1 else 0) < 2 * 1 + 2 - ((k : Int) + 1).toNat - (if w + (k : Int) < 0 then 1 else 0)
                rw [if_neg (by omega), if_neg (by omega)]; omega))
        | fail "no step")
  · obtain rfl : k = 1 := by omega
    rw [if_neg hkK] at ha hn
    subst ha hn
    have hh : True := trivial
    unfold tAFitsL0
    repeat' (first
      | (first
        | (with_reducible refine st_need ?_ ?_
           focus (simp only [dn, reduceCtorEq, hh] <;> first | omega | assumption))
        | (with_reducible refine st_and ?_ ?_)
        | (with_reducible exact st_ok)
        | (with_reducible refine st_br (fun hc => ?_) (fun hc => ?_) <;> (simp only [dn, reduceCtorEq, hh] at hc) <;> (try (exfalso; first | contradiction | omega)))
        | (refine st_call (by rfl) (by simp only [dn, reduceCtorEq, hh] <;> rfl) ?_ (by rfl <;> rfl) (by simp only [dn] <;> rfl) ?_
           focus (first | rfl)))
      | (refine st_ret (by simp only [dn, reduceCtorEq, hh] <;> rfl) ?_
         focus (show [EV.i _] = [EV.i _]; rw [fits11_of hf, if_pos (by rw [runI_one h8 (by omega)] at hN; simpa [cells11] using hN)]))
      | fail "no step")
set_option maxHeartbeats 8000000 in
theorem bAr1 (P : Program) (hs : List (Nat × Nat × List Nat)) : ∀ env, arInv1 env → tAFitsL1.sat { cxPar P with hints := hs } (ctrR cAFits) env := by
  rintro env ⟨t, l, s, g, w, m, c, x7, x8, x9, x10, x11, x12, sn, at_, n, rfl, hf, k, hk, hsn, hN, ha, hn⟩
  obtain ⟨h1, h1', h2, h3, h4, h5, h6, h7, h8, h9, h10, h11, h12, h13⟩ := id hf
  have hsl : sn.length = c.toNat := by rw [hsn, seen_len]
  by_cases hkK : k < s.toNat
  · rw [if_pos hkK] at ha hn
    subst ha hn
    have hfk : 0 ≤ g + (k : Int) ∧ g + (k : Int) < c := by omega
    have hg := seen_get (L := ([t] ++ runI l s.toNat) ++ runI g k) hfk.1 hfk.2
    have hset := seen_set (L := ([t] ++ runI l s.toNat) ++ runI g k) hfk.1 hfk.2
    have hap : (([t] ++ runI l s.toNat) ++ runI g k) ++ [g + (k : Int)] = ([t] ++ runI l s.toNat) ++ runI g (k + 1) := by rw [runI_step (by omega) (by omega), List.append_assoc]
    rw [hap, ← hsn] at hset
    rw [← hsn] at hg
    obtain ⟨S, hS⟩ : ∃ S, sn.set _ 1 = S := ⟨_, hset⟩
    rw [hS] at hset
    have hwk : IntKind.i64.wrap ((k : Int) + 1 + 1) = (k : Int) + 1 + 1 := wrap_small (by omega) (by omega)
    have hwa : IntKind.i64.wrap (g + ((k : Int) + 1 + 1)) = g + ((k : Int) + 1 + 1) := wrap_small (by omega) (by omega)
    have hwb : IntKind.i64.wrap (g + ((k : Int) + 1 + 1) - 1) = g + ((k + 1 : Nat) : Int) := by rw [wrap_small (by omega) (by omega)]; omega
    have hR : g + (k : Int) ∈ ([t] ++ runI l s.toNat) ++ runI g k → fits11 t l s g w m c = 2 := fun hm => by
      rw [fits11_of hf, if_neg (ar_twice (K := s.toNat) (B := []) (by omega) (by omega) hkK hm ⟨[w], by simp [cells11]⟩)]
    by_cases hm : g + (k : Int) ∈ ([t] ++ runI l s.toNat) ++ runI g k
    · have hR' := hR hm
      rw [if_pos hm] at hg
      unfold tAFitsL1
      repeat' (first
        | (first
          | (with_reducible refine st_need ?_ ?_
             focus (simp only [dn, reduceCtorEq, hsl, hg, Int.reduceEq] <;> first | omega | assumption))
          | (with_reducible refine st_and ?_ ?_)
          | (with_reducible exact st_ok)
          | (with_reducible refine st_br (fun hc => ?_) (fun hc => ?_) <;> (simp only [dn, reduceCtorEq, hsl, hg, Int.reduceEq] at hc) <;> (try (exfalso; first | contradiction | omega)))
          | (refine st_call (by rfl) (by simp only [dn, reduceCtorEq, hsl, hg, Int.reduceEq] <;> rfl) ?_ (by rfl <;> rfl) (by simp only [dn] <;> rfl) ?_
             focus (first | rfl)))
        | (refine st_ret (by simp only [dn, reduceCtorEq, hsl] <;> rfl) ?_
           focus (show [EV.i _] = [EV.i _]; rw [hR']))
        | fail "no step")
    · rw [if_neg hm] at hg
      have hN' : (([t] ++ runI l s.toNat) ++ runI g (k + 1)).Nodup := hap ▸ nodup_put hN hm
      unfold tAFitsL1
      repeat' (first
        | (first
          | (with_reducible refine st_need ?_ ?_
             focus (simp only [dn, reduceCtorEq, hsl, hg] <;> first | omega | assumption))
          | (with_reducible refine st_and ?_ ?_)
          | (with_reducible exact st_ok)
          | (with_reducible refine st_br (fun hc => ?_) (fun hc => ?_) <;> (simp only [dn, reduceCtorEq, hsl, hg] at hc) <;> (try (exfalso; first | contradiction | omega)))
          | (refine st_call (by rfl) (by simp only [dn, reduceCtorEq, hsl, hg] <;> rfl) ?_ (by rfl <;> rfl) (by simp only [dn] <;> rfl) ?_
             focus (first | rfl)))
        | (refine st_setl (by simp only [dn, reduceCtorEq, hS] <;> rfl) ?_)
        | (refine st_back (by rfl) (by simp only [dn, reduceCtorEq, hwk, hwa, hwb] <;> rfl) (by simp only [dn] <;> rfl) (by rfl) ?_ ?_
           focus first
             | exact ⟨t, l, s, g, w, m, c, x7, x8, x9, x10, x11, x12, _, _, _, rfl, hf, k + 1, by omega, hset, hN', by rw [if_pos (by omega)], by rw [if_pos (by omega)]; omega⟩
             | exact ⟨t, l, s, g, w, m, c, x7, x8, x9, x10, x11, x12, _, _, _, rfl, hf, k + 1, by omega, hset, hN', by rw [if_neg (by omega)], by rw [if_neg (by omega)]; omega⟩
           focus first
             | (show 2 * s.toNat + 2 - ((k : Int) + 1).toNat - (if (-1 : Int) < 0 then 1 else 0) < 2 * s.toNat + 2 - ((k : Int) + 1).toNat - (if g + (k : Int) < 0 then 1 else 0)
                rw [if_pos (by decide), if_neg (by omega)]; omega)
             | (show 2 * s.toNat + 2 - ((k : Int) + 1 + 1).toNat - (if g + ((k + 1 : Nat) : Int) < 0 then 1 else 0) < 2 * s.toNat + 2 - ((k : Int) + 1).toNat - (if g + (k : Int) < 0 then 1 else 0)
                rw [if_neg (by omega), if_neg (by omega)]; omega))
        | fail "no step")
  · obtain rfl : k = s.toNat := by omega
    rw [if_neg hkK] at ha hn
    subst ha hn
    have hh : True := trivial
    unfold tAFitsL1
    repeat' (first
      | (first
        | (with_reducible refine st_need ?_ ?_
           focus (simp only [dn, reduceCtorEq, hh] <;> first | omega | assumption))
        | (with_reducible refine st_and ?_ ?_)
        | (with_reducible exact st_ok)
        | (with_reducible refine st_br (fun hc => ?_) (fun hc => ?_) <;> (simp only [dn, reduceCtorEq, hh] at hc) <;> (try (exfalso; first | contradiction | omega)))
        | (refine st_call (by rfl) (by simp only [dn, reduceCtorEq, hh] <;> rfl) ?_ (by rfl <;> rfl) (by simp only [dn] <;> rfl) ?_
           focus (first | rfl)))
      | (refine st_loop (by rfl) (by simp only [dn, reduceCtorEq, hh] <;> rfl) (by simp only [dn] <;> rfl) ?_ (fun env' h => bAr2 P hs env' h)
         exact ⟨t, l, s, g, w, m, c, _, _, _, _, _, _, _, _, _, _, _, _, rfl, hf, 0, Nat.zero_le _, by rw [runI, List.append_nil]; exact hsn, by rw [runI, List.append_nil]; exact hN, by rw [if_pos (by omega)]; first | rfl | (rw [wrap_small (by omega) (by omega)]; omega) | (rw [wrap_small (n := IntKind.i64.wrap (_ + 1) - 1) (by rw [wrap_small (by omega) (by omega)]; omega) (by rw [wrap_small (by omega) (by omega)]; omega), wrap_small (by omega) (by omega)]; simp), by rw [if_pos (by omega)]; rfl⟩)
      | fail "no step")
set_option maxHeartbeats 8000000 in
theorem bAr0 (P : Program) (hs : List (Nat × Nat × List Nat)) : ∀ env, arInv0 env → tAFitsL2.sat { cxPar P with hints := hs } (ctrR cAFits) env := by
  rintro env ⟨t, l, s, g, w, m, c, x7, x8, x9, sn, at_, n, rfl, hf, k, hk, hsn, hN, ha, hn⟩
  obtain ⟨h1, h1', h2, h3, h4, h5, h6, h7, h8, h9, h10, h11, h12, h13⟩ := id hf
  have hsl : sn.length = c.toNat := by rw [hsn, seen_len]
  by_cases hkK : k < s.toNat
  · rw [if_pos hkK] at ha hn
    subst ha hn
    have hfk : 0 ≤ l + (k : Int) ∧ l + (k : Int) < c := by omega
    have hg := seen_get (L := [t] ++ runI l k) hfk.1 hfk.2
    have hset := seen_set (L := [t] ++ runI l k) hfk.1 hfk.2
    have hap : ([t] ++ runI l k) ++ [l + (k : Int)] = [t] ++ runI l (k + 1) := by rw [runI_step (by omega) (by omega), List.append_assoc]
    rw [hap, ← hsn] at hset
    rw [← hsn] at hg
    obtain ⟨S, hS⟩ : ∃ S, sn.set _ 1 = S := ⟨_, hset⟩
    rw [hS] at hset
    have hwk : IntKind.i64.wrap ((k : Int) + 1 + 1) = (k : Int) + 1 + 1 := wrap_small (by omega) (by omega)
    have hwa : IntKind.i64.wrap (l + ((k : Int) + 1 + 1)) = l + ((k : Int) + 1 + 1) := wrap_small (by omega) (by omega)
    have hwb : IntKind.i64.wrap (l + ((k : Int) + 1 + 1) - 1) = l + ((k + 1 : Nat) : Int) := by rw [wrap_small (by omega) (by omega)]; omega
    have hR : l + (k : Int) ∈ [t] ++ runI l k → fits11 t l s g w m c = 2 := fun hm => by
      rw [fits11_of hf, if_neg (ar_twice (K := s.toNat) (B := []) (by omega) (by omega) hkK hm ⟨runI g s.toNat ++ [w], by simp [cells11]⟩)]
    by_cases hm : l + (k : Int) ∈ [t] ++ runI l k
    · have hR' := hR hm
      rw [if_pos hm] at hg
      unfold tAFitsL2
      repeat' (first
        | (first
          | (with_reducible refine st_need ?_ ?_
             focus (simp only [dn, reduceCtorEq, hsl, hg, Int.reduceEq] <;> first | omega | assumption))
          | (with_reducible refine st_and ?_ ?_)
          | (with_reducible exact st_ok)
          | (with_reducible refine st_br (fun hc => ?_) (fun hc => ?_) <;> (simp only [dn, reduceCtorEq, hsl, hg, Int.reduceEq] at hc) <;> (try (exfalso; first | contradiction | omega)))
          | (refine st_call (by rfl) (by simp only [dn, reduceCtorEq, hsl, hg, Int.reduceEq] <;> rfl) ?_ (by rfl <;> rfl) (by simp only [dn] <;> rfl) ?_
             focus (first | rfl)))
        | (refine st_ret (by simp only [dn, reduceCtorEq, hsl] <;> rfl) ?_
           focus (show [EV.i _] = [EV.i _]; rw [hR']))
        | fail "no step")
    · rw [if_neg hm] at hg
      have hN' : ([t] ++ runI l (k + 1)).Nodup := hap ▸ nodup_put hN hm
      unfold tAFitsL2
      repeat' (first
        | (first
          | (with_reducible refine st_need ?_ ?_
             focus (simp only [dn, reduceCtorEq, hsl, hg] <;> first | omega | assumption))
          | (with_reducible refine st_and ?_ ?_)
          | (with_reducible exact st_ok)
          | (with_reducible refine st_br (fun hc => ?_) (fun hc => ?_) <;> (simp only [dn, reduceCtorEq, hsl, hg] at hc) <;> (try (exfalso; first | contradiction | omega)))
          | (refine st_call (by rfl) (by simp only [dn, reduceCtorEq, hsl, hg] <;> rfl) ?_ (by rfl <;> rfl) (by simp only [dn] <;> rfl) ?_
             focus (first | rfl)))
        | (refine st_setl (by simp only [dn, reduceCtorEq, hS] <;> rfl) ?_)
        | (refine st_back (by rfl) (by simp only [dn, reduceCtorEq, hwk, hwa, hwb] <;> rfl) (by simp only [dn] <;> rfl) (by rfl) ?_ ?_
           focus first
             | exact ⟨t, l, s, g, w, m, c, x7, x8, x9, _, _, _, rfl, hf, k + 1, by omega, hset, hN', by rw [if_pos (by omega)], by rw [if_pos (by omega)]; omega⟩
             | exact ⟨t, l, s, g, w, m, c, x7, x8, x9, _, _, _, rfl, hf, k + 1, by omega, hset, hN', by rw [if_neg (by omega)], by rw [if_neg (by omega)]; omega⟩
           focus first
             | (show 2 * s.toNat + 2 - ((k : Int) + 1).toNat - (if (-1 : Int) < 0 then 1 else 0) < 2 * s.toNat + 2 - ((k : Int) + 1).toNat - (if l + (k : Int) < 0 then 1 else 0)
                rw [if_pos (by decide), if_neg (by omega)]; omega)
             | (show 2 * s.toNat + 2 - ((k : Int) + 1 + 1).toNat - (if l + ((k + 1 : Nat) : Int) < 0 then 1 else 0) < 2 * s.toNat + 2 - ((k : Int) + 1).toNat - (if l + (k : Int) < 0 then 1 else 0)
                rw [if_neg (by omega), if_neg (by omega)]; omega))
        | fail "no step")
  · obtain rfl : k = s.toNat := by omega
    rw [if_neg hkK] at ha hn
    subst ha hn
    have hh : True := trivial
    unfold tAFitsL2
    repeat' (first
      | (first
        | (with_reducible refine st_need ?_ ?_
           focus (simp only [dn, reduceCtorEq, hh] <;> first | omega | assumption))
        | (with_reducible refine st_and ?_ ?_)
        | (with_reducible exact st_ok)
        | (with_reducible refine st_br (fun hc => ?_) (fun hc => ?_) <;> (simp only [dn, reduceCtorEq, hh] at hc) <;> (try (exfalso; first | contradiction | omega)))
        | (refine st_call (by rfl) (by simp only [dn, reduceCtorEq, hh] <;> rfl) ?_ (by rfl <;> rfl) (by simp only [dn] <;> rfl) ?_
           focus (first | rfl)))
      | (refine st_loop (by rfl) (by simp only [dn, reduceCtorEq, hh] <;> rfl) (by simp only [dn] <;> rfl) ?_ (fun env' h => bAr1 P hs env' h)
         exact ⟨t, l, s, g, w, m, c, _, _, _, _, _, _, _, _, _, rfl, hf, 0, Nat.zero_le _, by rw [runI, List.append_nil]; exact hsn, by rw [runI, List.append_nil]; exact hN, by rw [if_pos (by omega)]; first | rfl | (rw [wrap_small (by omega) (by omega)]; omega) | (rw [wrap_small (n := IntKind.i64.wrap (_ + 1) - 1) (by rw [wrap_small (by omega) (by omega)]; omega) (by rw [wrap_small (by omega) (by omega)]; omega), wrap_small (by omega) (by omega)]; simp), by rw [if_pos (by omega)]; rfl⟩)
      | fail "no step")
set_option maxHeartbeats 8000000 in
theorem vAFits (P : Program) (hs : List (Nat × Nat × List Nat)) : ∀ ins, ins.length = cAFits.nin → cAFits.pre ins → tAFits.sat { cxPar P with hints := hs } (ctrR cAFits) ins := by
  rintro ins _ ⟨t, l, s, g, w, m, c, rfl⟩
  by_cases hc : 1 ≤ c ∧ c ≤ 4096
  · by_cases hf : fits10 t l s c = 0 ∧ 1 ≤ m ∧ m ≤ 4294967295 ∧ 0 ≤ g ∧ g ≤ IntKind.i64.wrap (c - s) ∧ 0 ≤ w ∧ w < c
    · have hA : arFacts t l s g w m c := by
        obtain ⟨f1, f2, f3, f4, f5, f6, f7⟩ := hf
        have f1' := f1
        unfold fits10 at f1
        rw [if_neg (by omega)] at f1
        have q := fun h => (if_pos h).symm.trans f1
        have e0 : ¬ (s < 1 ∨ 4096 < s) := fun h => by rw [if_pos (by omega)] at f1; omega
        have e1 : IntKind.i64.wrap (c - s) = c - s := wrap_small (by omega) (by omega)
        rw [e1] at f1 f5
        have e2 : ¬ (t < 0 ∨ c ≤ t ∨ l < 0 ∨ c - s < l) := fun h => by rw [if_pos (by omega)] at f1; omega
        exact ⟨by omega, by omega, by omega, by omega, by omega, by omega, by omega, by omega, by omega, by omega, by omega, f1', f2, f3⟩
      obtain ⟨h1, h1', h2, h3, h4, h5, h6, h7, h8, h9, h10, h11, h12, h13⟩ := id hA
      have e1 : IntKind.i64.wrap (c - s) = c - s := wrap_small (by omega) (by omega)
      have hl0 : (List.replicate c.toNat (0 : Int)).length = c.toNat := List.length_replicate
      have hset : (List.replicate c.toNat (0 : Int)).set t.toNat 1 = seenL [t] c := by rw [seen_nil, seen_set h2 h3]; rfl
      have hwl : IntKind.i64.wrap (IntKind.i64.wrap (l + 1) - 1) = l := by rw [wrap_small (n := l + 1) (by omega) (by omega), wrap_small (by omega) (by omega)]; omega
      unfold tAFits
      repeat' (first
        | (first
          | (with_reducible refine st_need ?_ ?_
             focus (simp only [dn, reduceCtorEq, hl0, e1] <;> first | omega | assumption))
          | (with_reducible refine st_and ?_ ?_)
          | (with_reducible exact st_ok)
          | (with_reducible refine st_br (fun hc => ?_) (fun hc => ?_) <;> (simp only [dn, reduceCtorEq, hl0, e1] at hc) <;> (try (exfalso; first | contradiction | omega)))
          | (refine st_call (by rfl) (by simp only [dn, reduceCtorEq, hl0, e1] <;> rfl) ?_ (by simp only [out_SFits, h11] <;> rfl) (by simp only [dn] <;> rfl) ?_
             focus (first | exact ⟨_, _, _, _, rfl⟩)))
        | (refine st_repl (by simp only [dn, reduceCtorEq, hl0] <;> rfl) ?_)
        | (refine st_setl (by simp only [dn, reduceCtorEq, hset] <;> rfl) ?_)
        | (refine st_loop (by rfl) (by simp only [dn, reduceCtorEq, hwl] <;> rfl) (by simp only [dn] <;> rfl) ?_ (fun env' h => bAr0 P hs env' h)
           exact ⟨t, l, s, g, w, m, c, _, _, _, _, _, _, rfl, hA, 0, Nat.zero_le _, by rw [runI, List.append_nil], by simp [runI], by rw [if_pos (by omega)]; simp, by rw [if_pos (by omega)]; rfl⟩)
        | fail "no step")
    · have hR : fits11 t l s g w m c = 2 := by
        unfold fits11
        rw [if_neg (by omega), if_pos (by omega)]
      unfold tAFits
      by_cases hz : fits10 t l s c = 0
      all_goals
        repeat' (first
          | (first
            | (with_reducible refine st_need ?_ ?_
               focus (simp only [dn, reduceCtorEq, hz] <;> first | omega | assumption))
            | (with_reducible refine st_and ?_ ?_)
            | (with_reducible exact st_ok)
            | (with_reducible refine st_br (fun hc => ?_) (fun hc => ?_) <;> (simp only [dn, reduceCtorEq, hz] at hc) <;> (try (exfalso; first | contradiction | omega)))
            | (refine st_call (by rfl) (by simp only [dn, reduceCtorEq, hz] <;> rfl) ?_ (by simp only [out_SFits] <;> rfl) (by simp only [dn] <;> rfl) ?_
               focus (first | exact ⟨_, _, _, _, rfl⟩)))
          | (refine st_ret (by simp only [dn, reduceCtorEq, hz] <;> rfl) ?_
             focus (show [EV.i _] = [EV.i _]; rw [hR]))
          | fail "no step")
  · have hR : fits11 t l s g w m c = 3 := by
      unfold fits11
      rw [if_pos (by omega)]
    unfold tAFits
    repeat' (first
      | (first
        | (with_reducible refine st_need ?_ ?_
           focus (simp only [dn, reduceCtorEq, hR] <;> first | omega | assumption))
        | (with_reducible refine st_and ?_ ?_)
        | (with_reducible exact st_ok)
        | (with_reducible refine st_br (fun hc => ?_) (fun hc => ?_) <;> (simp only [dn, reduceCtorEq, hR] at hc) <;> (try (exfalso; first | contradiction | omega)))
        | (refine st_call (by rfl) (by simp only [dn, reduceCtorEq, hR] <;> rfl) ?_ (by rfl <;> rfl) (by simp only [dn] <;> rfl) ?_
           focus (first | rfl)))
      | (refine st_ret (by simp only [dn, reduceCtorEq, hR] <;> rfl) ?_
         focus (show [EV.i _] = [EV.i _]; rw [hR]))
      | fail "no step")
theorem hAFits : cAFits.Holds objs Tryz.prog := runCtr_holds (X := { cxPar Tryz.prog with hints := hsAFits }) objsOk mixed hctsPa (callable _ Tryz.func85 (by kernel_rfl) (by kernel_rfl)) (by rintro ins _ ⟨_, _, _, _, _, _, _, rfl⟩; rfl) (by rw [rAFits]; exact vAFits _ _)
end Go.Proofs.YtdldcofddfkkbaaGreat
