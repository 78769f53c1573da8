/- Which towers may be: the contract holds. -/
import Derived.Test.YtbmbiiiacajolaaGreatPf
namespace Go.Proofs.YtbmbiiiacajolaaGreat
set_option linter.unusedVariables false
set_option linter.unusedSimpArgs false
set_option linter.unusedSectionVars false
open Go Go.RowKit

theorem okT_facts {n h w s : Int} (hk : okT n h w s = true) : 1 ≤ w ∧ w ≤ 4 ∧ 1 ≤ s ∧ s ≤ 128 ∧ 0 ≤ n ∧ n < 4096 ∧ 0 ≤ h ∧ h < 4096 := of_decide_eq_true hk
theorem mul_le {s a : Int} (h : 1 ≤ a ∧ a ≤ 4 ∧ 1 ≤ s ∧ s ≤ 128) : 0 ≤ s * (4 + a) ∧ s * (4 + a) ≤ 1024 := by
  obtain ⟨h1, h2, h3, h4⟩ := h
  have : a = 1 ∨ a = 2 ∨ a = 3 ∨ a = 4 := by omega
  rcases this with rfl | rfl | rfl | rfl <;> omega
theorem fits15_of {n h a t l s g w m ea ep ec tp c : Int} (hf : toFacts n h a t l s g w m ea ep ec tp c) : fits15 n h a t l s g w m ea ep ec tp c = if (all15 n h a t l s g w ea ep ec tp).Nodup ∧ ∀ x ∈ all15 n h a t l s g w ea ep ec tp, x < c then 0 else 2 := by
  obtain ⟨h1, h2, h3, h4⟩ := hf
  unfold fits15
  rw [if_neg (by omega), if_neg (by rw [h1, h2]; simp)]
theorem fits15_facts {n h a t l s g w m ea ep ec tp c : Int} (hf : fits15 n h a t l s g w m ea ep ec tp c = 0) : toFacts n h a t l s g w m ea ep ec tp c ∧ (all15 n h a t l s g w ea ep ec tp).Nodup ∧ ∀ x ∈ all15 n h a t l s g w ea ep ec tp, x < c := by
  have h' := hf
  unfold fits15 at hf
  by_cases h1 : c < 1 ∨ 4096 < c
  · rw [if_pos h1] at hf; omega
  · rw [if_neg h1] at hf
    by_cases h2 : okT n h a s = false ∨ fits13 t l s g w m ea ep ec tp c ≠ 0
    · rw [if_pos h2] at hf; omega
    · have hA : toFacts n h a t l s g w m ea ep ec tp c := ⟨by cases e : okT n h a s <;> simp_all, by omega, by omega, by omega⟩
      refine ⟨hA, ?_⟩
      rw [fits15_of hA] at h'
      by_cases hn : (all15 n h a t l s g w ea ep ec tp).Nodup ∧ ∀ x ∈ all15 n h a t l s g w ea ep ec tp, x < c
      · exact hn
      · rw [if_neg hn] at h'; omega
theorem all15_len {n h a t l s g w m ea ep ec tp c : Int} (hf : toFacts n h a t l s g w m ea ep ec tp c) : (all15 n h a t l s g w ea ep ec tp).length ≤ 9400 := by
  obtain ⟨h1, h2, h3, h4⟩ := hf
  have hk := okT_facts h1
  have hm := @mul_le s a ⟨hk.1, hk.2.1, hk.2.2.1, hk.2.2.2.1⟩
  have hl := fits13_facts h2
  have := @held_len t l s g w ea ep ec tp (fits11_facts hl.1.1).1.2.1 (fits12_facts hl.1.2.1).2.1
  unfold all15
  rw [List.length_append, List.length_append, runI_len, runI_len]
  omega
theorem all15_lo {n h a t l s g w m ea ep ec tp c : Int} (hf : toFacts n h a t l s g w m ea ep ec tp c) : ∀ x ∈ all15 n h a t l s g w ea ep ec tp, 0 ≤ x := by
  obtain ⟨h1, h2, h3, h4⟩ := hf
  have hk := okT_facts h1
  have hm := @mul_le s a ⟨hk.1, hk.2.1, hk.2.2.1, hk.2.2.2.1⟩
  have hl := fits13_facts h2
  intro x hx
  unfold all15 at hx
  rw [List.mem_append, List.mem_append] at hx
  rcases hx with (hx | hx) | hx
  · exact (held_range hl.1 x hx).1
  · obtain ⟨i, hi, hx⟩ := mem_runI hx
    rw [wrap_small (n := n + i) (by omega) (by omega)] at hx
    omega
  · obtain ⟨i, hi, hx⟩ := mem_runI hx
    rw [wrap_small (n := h + i) (by omega) (by omega)] at hx
    omega
set_option maxHeartbeats 4000000 in
theorem bTo3 (P : Program) (hs : List (Nat × Nat × List Nat)) : ∀ env, toInv3 env → tTFitsL0.sat { cxPe1 P with hints := hs } (ctrR cTFits) env := by
  rintro env ⟨n, h, a, t, l, s, g, w, m, ea, ep, ec, tp, c, x14, x15, x16, x17, x18, x19, x20, x21, x22, x23, x27, V, d, sn, cap, k, rfl, hf, hV, h0, h1, hsn, hN, hr⟩
  have hfo := fits15_of hf
  have hvl := all15_len hf
  have hlo := all15_lo hf
  rw [← hV] at hfo hvl hlo
  have hc := hf.2.2
  have hla : (V ++ d).length = V.length + d.length := List.length_append
  have hsl : sn.length = c.toNat := by rw [hsn, seen_len]
  by_cases hk : k = V.length
  · have ht : V.take k.toNat = V := List.take_of_length_le (by omega)
    rw [ht] at hN hr
    rw [if_pos ⟨hN, fun x hx => (hr x hx).2⟩] at hfo
    unfold tTFitsL0
    repeat' (first
      | (first
        | (with_reducible refine st_need ?_ ?_
           focus (simp only [dn, reduceCtorEq, hla] <;> first | omega | assumption))
        | (with_reducible refine st_and ?_ ?_)
        | (with_reducible exact st_ok)
        | (with_reducible refine st_br (fun hc => ?_) (fun hc => ?_) <;> (simp only [dn, reduceCtorEq, hla] at hc) <;> (try (exfalso; first | contradiction | omega)))
        | (refine st_call (by rfl) (by simp only [dn, reduceCtorEq, hla] <;> rfl) ?_ (by rfl <;> rfl) (by simp only [dn] <;> rfl) ?_
           focus (first | rfl)))
      | (refine st_ret (by simp only [dn, reduceCtorEq, hla] <;> rfl) ?_
         focus (show [EV.i _] = [EV.i _]; rw [hfo]))
      | fail "no step")
  · have hkl : k < V.length := by omega
    have hg := getD_app (d := d) h0 hkl
    have hga := get_at h0 hkl
    have htw := twice_at h0 hkl
    obtain ⟨x, hx⟩ : ∃ x, V[k.toNat]?.getD 0 = x := ⟨_, rfl⟩
    rw [hx] at hg hga htw
    have hx0 := hlo x hga.1
    have hwk : IntKind.i64.wrap (k + 1) = k + 1 := wrap_small (by omega) (by omega)
    by_cases hxc : x < c
    · have hsg := seen_get (L := V.take k.toNat) hx0 hxc
      have hset := seen_set (L := V.take k.toNat) hx0 hxc
      rw [← hsn] at hsg hset
      rw [← hga.2] at hset
      by_cases hm : x ∈ V.take k.toNat
      · rw [if_neg (fun e => htw hm e.1)] at hfo
        rw [if_pos hm] at hsg
        unfold tTFitsL0
        repeat' (first
          | (first
            | (with_reducible refine st_need ?_ ?_
               focus (simp only [dn, reduceCtorEq, hla, hg, hsl, hsg, Int.reduceEq] <;> first | omega | assumption))
            | (with_reducible refine st_and ?_ ?_)
            | (with_reducible exact st_ok)
            | (with_reducible refine st_br (fun hc => ?_) (fun hc => ?_) <;> (simp only [dn, reduceCtorEq, hla, hg, hsl, hsg, Int.reduceEq] at hc) <;> (try (exfalso; first | contradiction | omega)))
            | (refine st_call (by rfl) (by simp only [dn, reduceCtorEq, hla, hg, hsl, hsg, Int.reduceEq] <;> rfl) ?_ (by rfl <;> rfl) (by simp only [dn] <;> rfl) ?_
               focus (first | rfl)))
          | (refine st_ret (by simp only [dn, reduceCtorEq, hla] <;> rfl) ?_
             focus (show [EV.i _] = [EV.i _]; rw [hfo]))
          | fail "no step")
      · rw [if_neg hm] at hsg
        unfold tTFitsL0
        obtain ⟨S, hS⟩ : ∃ S, sn.set x.toNat 1 = S := ⟨_, rfl⟩
        rw [hS] at hset
        repeat' (first
          | (first
            | (with_reducible refine st_need ?_ ?_
               focus (simp only [dn, reduceCtorEq, hla, hg, hsl, hsg] <;> first | omega | assumption))
            | (with_reducible refine st_and ?_ ?_)
            | (with_reducible exact st_ok)
            | (with_reducible refine st_br (fun hc => ?_) (fun hc => ?_) <;> (simp only [dn, reduceCtorEq, hla, hg, hsl, hsg] at hc) <;> (try (exfalso; first | contradiction | omega)))
            | (refine st_call (by rfl) (by simp only [dn, reduceCtorEq, hla, hg, hsl, hsg] <;> rfl) ?_ (by rfl <;> rfl) (by simp only [dn] <;> rfl) ?_
               focus (first | rfl)))
          | (refine st_setl (by simp only [dn, reduceCtorEq, hg, hS] <;> rfl) ?_)
          | (refine st_back (by rfl) (by simp only [dn, reduceCtorEq, hwk, hg] <;> rfl) (by simp only [dn] <;> rfl) (by rfl) ?_ ?_
             focus exact ⟨n, h, a, t, l, s, g, w, m, ea, ep, ec, tp, c, x14, x15, x16, x17, x18, x19, x20, x21, x22, x23, x27, V, d, S, cap, k + 1, rfl, hf, hV, by omega, by omega, hset, by rw [hga.2]; exact nodup_put hN hm, by rw [hga.2]; intro z hz; rcases List.mem_append.1 hz with hz | hz; exact hr z hz; rw [List.mem_singleton.1 hz]; exact ⟨hx0, hxc⟩⟩
             focus (show ((V.length : Int) - (k + 1)).toNat < ((V.length : Int) - k).toNat; omega))
          | fail "no step")
    · rw [if_neg (fun e => hxc (e.2 x hga.1))] at hfo
      unfold tTFitsL0
      repeat' (first
        | (first
          | (with_reducible refine st_need ?_ ?_
             focus (simp only [dn, reduceCtorEq, hla, hg] <;> first | omega | assumption))
          | (with_reducible refine st_and ?_ ?_)
          | (with_reducible exact st_ok)
          | (with_reducible refine st_br (fun hc => ?_) (fun hc => ?_) <;> (simp only [dn, reduceCtorEq, hla, hg] at hc) <;> (try (exfalso; first | contradiction | omega)))
          | (refine st_call (by rfl) (by simp only [dn, reduceCtorEq, hla, hg] <;> rfl) ?_ (by rfl <;> rfl) (by simp only [dn] <;> rfl) ?_
             focus (first | rfl)))
        | (refine st_ret (by simp only [dn, reduceCtorEq, hla] <;> rfl) ?_
           focus (show [EV.i _] = [EV.i _]; rw [hfo]))
        | fail "no step")
theorem to_step {W : List Int} {a : Int} {k : Nat} : W ++ runI a (k + 1) = (W ++ runI a k) ++ [IntKind.i64.wrap (a + k)] := by rw [runI, List.append_assoc]
set_option maxHeartbeats 4000000 in
theorem bTo2 (P : Program) (hs : List (Nat × Nat × List Nat)) : ∀ env, toInv2 env → tTFitsL1.sat { cxPe1 P with hints := hs } (ctrR cTFits) env := by
  rintro env ⟨n, h, a, t, l, s, g, w, m, ea, ep, ec, tp, c, x14, x15, x16, x17, x18, x19, x20, x21, x22, k, V, d, rfl, hf, hk, hV⟩
  have hk' := okT_facts hf.1
  have hc := hf.2.2
  have hm := @mul_le s a ⟨hk'.1, hk'.2.1, hk'.2.2.1, hk'.2.2.2.1⟩
  have hl := fits13_facts hf.2.1
  have hhl := @held_len t l s g w ea ep ec tp (fits11_facts hl.1.1).1.2.1 (fits12_facts hl.1.2.1).2.1
  have hvl : V.length ≤ 9400 := by rw [hV, List.length_append, List.length_append, runI_len, runI_len]; omega
  have hwk : IntKind.i64.wrap ((k : Int) + 1) = ((k + 1 : Nat) : Int) := by rw [wrap_small (by omega) (by omega)]; rfl
  have hla : (V ++ d).length = V.length + d.length := List.length_append
  have hw1 : IntKind.i64.wrap ((V.length : Int) + 1) = ((V ++ [IntKind.i64.wrap (h + k)]).length : Int) := by rw [wrap_small (by omega) (by omega), List.length_append]; rfl
  by_cases hka : (k : Int) < a
  all_goals
    unfold tTFitsL1
    repeat' (first
      | (first
        | (with_reducible refine st_need ?_ ?_
           focus (simp only [dn, reduceCtorEq, hw1, hla, hwk] <;> first | omega | assumption))
        | (with_reducible refine st_and ?_ ?_)
        | (with_reducible exact st_ok)
        | (with_reducible refine st_br (fun hc => ?_) (fun hc => ?_) <;> (simp only [dn, reduceCtorEq, hw1, hla, hwk] at hc) <;> (try (exfalso; first | contradiction | omega)))
        | (refine st_call (by rfl) (by simp only [dn, reduceCtorEq, hw1, hla, hwk] <;> rfl) ?_ (by rfl <;> rfl) (by simp only [dn] <;> rfl) ?_
           focus (first | rfl)))
      | (refine st_rowP (V := V) (by rfl) (by rfl) (by rfl) (fun rr env' he => ?_)
         simp only [List.cons_append, List.nil_append] at he
         subst he)
      | (refine st_repl (by simp only [dn, reduceCtorEq, hw1] <;> rfl) ?_)
      | (refine st_back (by rfl) (by simp only [dn, reduceCtorEq, hw1, hwk] <;> rfl) (by simp only [dn] <;> rfl) (by rfl) ?_ ?_
         focus exact ⟨n, h, a, t, l, s, g, w, m, ea, ep, ec, tp, c, x14, x15, x16, x17, x18, x19, x20, x21, x22, k + 1, V ++ [IntKind.i64.wrap (h + k)], rr, rfl, hf, by omega, by rw [to_step, hV]⟩
         focus (show (a - ((k + 1 : Nat) : Int)).toNat < (a - (k : Int)).toNat; omega))
      | (refine st_loop (by rfl) (by simp only [dn, reduceCtorEq, hw1] <;> rfl) (by simp only [dn] <;> rfl) ?_ (fun env' h => bTo3 P hs env' h)
         exact ⟨n, h, a, t, l, s, g, w, m, ea, ep, ec, tp, c, x14, x15, x16, x17, x18, x19, x20, x21, x22, _, _, V, d, _, _, 0, rfl, hf, by rw [hV, show k = a.toNat by omega]; rfl, by omega, by omega, by rw [show (0 : Int).toNat = 0 from rfl, List.take_zero, seen_nil], by simp, by simp⟩)
      | fail "no step")
set_option maxHeartbeats 4000000 in
theorem bTo1 (P : Program) (hs : List (Nat × Nat × List Nat)) : ∀ env, toInv1 env → tTFitsL2.sat { cxPe1 P with hints := hs } (ctrR cTFits) env := by
  rintro env ⟨n, h, a, t, l, s, g, w, m, ea, ep, ec, tp, c, x14, x15, x16, x17, x18, k, V, d, rfl, hf, hk, hV⟩
  have hk' := okT_facts hf.1
  have hc := hf.2.2
  have hm := @mul_le s a ⟨hk'.1, hk'.2.1, hk'.2.2.1, hk'.2.2.2.1⟩
  have hl := fits13_facts hf.2.1
  have hhl := @held_len t l s g w ea ep ec tp (fits11_facts hl.1.1).1.2.1 (fits12_facts hl.1.2.1).2.1
  have hvl : V.length ≤ 9400 := by rw [hV, List.length_append, runI_len]; omega
  have hwk : IntKind.i64.wrap ((k : Int) + 1) = ((k + 1 : Nat) : Int) := by rw [wrap_small (by omega) (by omega)]; rfl
  have hwa : IntKind.i64.wrap (4 + a) = 4 + a := wrap_small (by omega) (by omega)
  have hws : IntKind.i64.wrap (s * (4 + a)) = s * (4 + a) := wrap_small (by omega) (by omega)
  have hla : (V ++ d).length = V.length + d.length := List.length_append
  have hw1 : IntKind.i64.wrap ((V.length : Int) + 1) = ((V ++ [IntKind.i64.wrap (n + k)]).length : Int) := by rw [wrap_small (by omega) (by omega), List.length_append]; rfl
  obtain ⟨q, hq⟩ : ∃ q, s * (4 + a) = q := ⟨_, rfl⟩
  rw [hq] at hm hk hws
  by_cases hka : (k : Int) < q
  all_goals
    unfold tTFitsL2
    repeat' (first
      | (first
        | (with_reducible refine st_need ?_ ?_
           focus (simp only [dn, reduceCtorEq, hw1, hla, hwk, hwa, hq, hws] <;> first | omega | assumption))
        | (with_reducible refine st_and ?_ ?_)
        | (with_reducible exact st_ok)
        | (with_reducible refine st_br (fun hc => ?_) (fun hc => ?_) <;> (simp only [dn, reduceCtorEq, hw1, hla, hwk, hwa, hq, hws] at hc) <;> (try (exfalso; first | contradiction | omega)))
        | (refine st_call (by rfl) (by simp only [dn, reduceCtorEq, hw1, hla, hwk, hwa, hq, hws] <;> rfl) ?_ (by rfl <;> rfl) (by simp only [dn] <;> rfl) ?_
           focus (first | rfl)))
      | (refine st_rowP (V := V) (by rfl) (by rfl) (by rfl) (fun rr env' he => ?_)
         simp only [List.cons_append, List.nil_append] at he
         subst he)
      | (refine st_back (by rfl) (by simp only [dn, reduceCtorEq, hw1, hwk] <;> rfl) (by simp only [dn] <;> rfl) (by rfl) ?_ ?_
         focus exact ⟨n, h, a, t, l, s, g, w, m, ea, ep, ec, tp, c, x14, x15, x16, x17, x18, k + 1, V ++ [IntKind.i64.wrap (n + k)], rr, rfl, hf, by rw [hq]; omega, by rw [to_step, hV]⟩
         focus (show (s * (4 + a) - ((k + 1 : Nat) : Int)).toNat < (s * (4 + a) - (k : Int)).toNat; rw [hq]; omega))
      | (refine st_loop (by rfl) (by simp only [dn, reduceCtorEq, hw1] <;> rfl) (by simp only [dn] <;> rfl) ?_ (fun env' h => bTo2 P hs env' h)
         exact ⟨n, h, a, t, l, s, g, w, m, ea, ep, ec, tp, c, x14, x15, x16, x17, x18, _, _, _, _, 0, V, d, rfl, hf, Nat.zero_le _, by rw [hV, hq, show k = q.toNat by omega]; simp [runI]⟩)
      | fail "no step")
theorem hctsPe1 : ∀ (ci : Nat) (c : Ctr U), (ctsPe ++ [cLFits])[ci]? = some c → c.Holds objs Tryz.prog := by
  intro ci c h
  by_cases hlt : ci < 6
  · exact hctsPe ci c (by rw [← h, List.getElem?_append_left (by exact hlt)])
  · rw [List.getElem?_append_right (by show 6 ≤ ci; omega)] at h
    match e : ci - ctsPe.length, h with
    | 0, h => cases h; exact hLFits
    | n + 1, h => cases h
set_option maxHeartbeats 4000000 in
theorem vTFits (P : Program) (hs : List (Nat × Nat × List Nat)) : ∀ ins, ins.length = cTFits.nin → cTFits.pre ins → tTFits.sat { cxPe1 P with hints := hs } (ctrR cTFits) ins := by
  rintro ins _ ⟨n, h, a, t, l, s, g, w, m, ea, ep, ec, tp, c, rfl⟩
  by_cases hc : 1 ≤ c ∧ c ≤ 4096
  · by_cases hf : okT n h a s = true ∧ fits13 t l s g w m ea ep ec tp c = 0
    · have hA : toFacts n h a t l s g w m ea ep ec tp c := ⟨hf.1, hf.2, hc.1, hc.2⟩
      obtain ⟨f1, f2⟩ := hf
      have hl := fits13_facts f2
      have hs1 := (fits11_facts hl.1.1).1.2.1
      have hs2 := (fits12_facts hl.1.2.1).2.1
      obtain ⟨V, hV⟩ : ∃ V, V = held13 t l s g w ea ep ec tp := ⟨_, rfl⟩
      unfold tTFits
      repeat' (first
        | (first
          | (with_reducible refine st_need ?_ ?_
             focus (simp only [dn, reduceCtorEq, f1, f2] <;> first | omega | assumption))
          | (with_reducible refine st_and ?_ ?_)
          | (with_reducible exact st_ok)
          | (with_reducible refine st_br (fun hc => ?_) (fun hc => ?_) <;> (simp only [dn, reduceCtorEq, f1, f2] at hc) <;> (try (exfalso; first | contradiction | omega)))
          | (refine st_call (by rfl) (by simp only [dn, reduceCtorEq, f1, f2] <;> rfl) ?_ (by simp only [out_Snd15, out_LFits, f1, f2] <;> rfl) (by simp only [dn] <;> rfl) ?_
             focus (first | exact ⟨_, _, _, _, _, _, _, _, _, _, _, _, _, rfl⟩ | exact ⟨_, _, _, _, _, _, _, _, _, _, _, rfl⟩)))
        | (refine st_held (f := 84) (by rfl) (by simp only [dn, reduceCtorEq, f1] <;> rfl) hs1 hs2 (fun d env' he => ?_)
           rw [← hV] at he
           simp only [List.cons_append, List.nil_append] at he
           subst he)
        | (refine st_loop (by rfl) (by simp only [dn, reduceCtorEq, f1] <;> rfl) (by simp only [dn] <;> rfl) ?_ (fun env' h => bTo1 P hs env' h)
           exact ⟨n, h, a, t, l, s, g, w, m, ea, ep, ec, tp, c, _, _, _, _, _, 0, V, d, rfl, hA, Nat.zero_le _, by rw [hV]; simp [runI]⟩)
        | fail "no step")
    · have hR : fits15 n h a t l s g w m ea ep ec tp c = 2 := by
        unfold fits15
        rw [if_neg (by omega), if_pos (by cases e : okT n h a s <;> simp_all)]
      unfold tTFits
      by_cases hz : fits13 t l s g w m ea ep ec tp c = 0
      all_goals cases hy : okT n h a s
      all_goals
        repeat' (first
          | (first
            | (with_reducible refine st_need ?_ ?_
               focus (simp only [dn, reduceCtorEq, hz, hy] <;> first | omega | assumption))
            | (with_reducible refine st_and ?_ ?_)
            | (with_reducible exact st_ok)
            | (with_reducible refine st_br (fun hc => ?_) (fun hc => ?_) <;> (simp only [dn, reduceCtorEq, hz, hy] at hc) <;> (try (exfalso; first | contradiction | omega)))
            | (refine st_call (by rfl) (by simp only [dn, reduceCtorEq, hz, hy] <;> rfl) ?_ (by simp only [out_Snd15, out_LFits, hy] <;> rfl) (by simp only [dn] <;> rfl) ?_
               focus (first | exact ⟨_, _, _, _, _, _, _, _, _, _, _, _, _, rfl⟩ | exact ⟨_, _, _, _, _, _, _, _, _, _, _, rfl⟩)))
          | (refine st_ret (by simp only [dn, reduceCtorEq, hz] <;> rfl) ?_
             focus (show [EV.i _] = [EV.i _]; rw [hR]))
          | (exact absurd ⟨hy, hz⟩ hf)
          | fail "no step")
  · have hR : fits15 n h a t l s g w m ea ep ec tp c = 3 := by
      unfold fits15
      rw [if_pos (by omega)]
    unfold tTFits
    repeat' (first
      | (first
        | (with_reducible refine st_need ?_ ?_
           focus (simp only [dn, reduceCtorEq, hR] <;> first | omega | assumption))
        | (with_reducible refine st_and ?_ ?_)
        | (with_reducible exact st_ok)
        | (with_reducible refine st_br (fun hc => ?_) (fun hc => ?_) <;> (simp only [dn, reduceCtorEq, hR] at hc) <;> (try (exfalso; first | contradiction | omega)))
        | (refine st_call (by rfl) (by simp only [dn, reduceCtorEq, hR] <;> rfl) ?_ (by rfl <;> rfl) (by simp only [dn] <;> rfl) ?_
           focus (first | rfl)))
      | (refine st_ret (by simp only [dn, reduceCtorEq, hR] <;> rfl) ?_
         focus (show [EV.i _] = [EV.i _]; rw [hR]))
      | fail "no step")
theorem hTFits : cTFits.Holds objs Tryz.prog := runCtr_holds (X := { cxPe1 Tryz.prog with hints := hsTFits }) objsOk mixed hctsPe1 (callable _ Tryz.func23 (by kernel_rfl) (by kernel_rfl)) (by rintro ins _ ⟨_, _, _, _, _, _, _, _, _, _, _, _, _, _, rfl⟩; rfl) (by rw [rTFits]; exact vTFits _ _)
end Go.Proofs.YtbmbiiiacajolaaGreat
