/- Texts of this proof. -/
import Derived.Test.YtbmbiiiacajolaaUcK
namespace Go.Proofs.Ytbmbiiiacajolaa
set_option linter.unusedVariables false
set_option linter.unusedSimpArgs false
set_option linter.unusedSectionVars false
open Go Go.RowKit
theorem ref_e {m : Int} (h0 : 0 ≤ m) (h1 : m < 9) : binDen .or .u64 (IntKind.u64.wrap (IntKind.i64.wrap (m + 1))) (binDen .shl .u64 (IntKind.u64.wrap (IntKind.i64.wrap (5 + m))) 16) = rfN m := by
 rw [wrap_small (n := m + 1) (by omega) (by omega), wrap_small (n := 5 + m) (by omega) (by omega), wrap_u64' (n := m + 1) (by omega) (by omega), wrap_u64' (n := 5 + m) (by omega) (by omega), shl_16 (by omega) (by omega)]
 show bits .or .u64 (m + 1) ((5 + m) * 65536) = _
 rw [or_16 (by omega) (by omega) (by omega) (by omega)]
 unfold rfN
 rw [if_neg (by omega)]; omega
theorem or_mark {w r : Int} (hw : w = 0 ∨ w = 9223372036854775808) (h0 : 0 ≤ r) (h1 : r < 9223372036854775808) : bits .or .u64 w r = w + r := by
 rcases hw with rfl | rfl
 · have := or_add' 63 r 0 h0 (by omega) (by omega) (by omega) (by omega)
   rw [Int.mul_zero] at this; exact this
 · have := or_add' 63 r 1 h0 (by omega) (by omega) (by omega) (by omega)
   rw [Int.mul_one] at this; exact this
theorem mark_or {w : Int} (h0 : 0 ≤ w) (h1 : w < 9223372036854775808) : bits .or .u64 w 9223372036854775808 = w + 9223372036854775808 := by
 have := or_add 63 w 1 h0 (by omega) (by omega) (by omega) (by omega)
 rw [Int.mul_one] at this; exact this
theorem two_sto {M : MemSt} {a b v x : Int} (a0 : 0 ≤ a) (a1 : a < M.W.length) (b0 : 0 ≤ b) (b1 : b < M.W.length) : (((M.load a).store a v).store b x).W.length = M.W.length ∧ ∀ y, 0 ≤ y → (((M.load a).store a v).store b x).word y = if y = b then x else if y = a then v else M.word y := by
 have e1 : (M.load a).W.length = M.W.length := len_load _ _
 refine ⟨by rw [len_store, len_store, e1], fun y y0 => ?_⟩
 rw [KL.store_word b0 (by rw [len_store, e1]; exact b1) y0, KL.store_word a0 (by rw [e1]; exact a1) y0, load_word a0 a1 y0]
theorem isW_mk {c : Prop} [Decidable c] : isW (if c then 9223372036854775808 else 0) := by split <;> exact ⟨by decide, by decide⟩
set_option maxRecDepth 10000
set_option maxHeartbeats 8000000
theorem bLkB (P : Program) (hs' : List (Nat × Nat × List Nat)) : ∀ env, lkbInv env → tLLinksL0.sat { cxUk P [lLkA, lLkB] with hints := hs' } (ctrR cLLinks) env := by
 rintro env ⟨E, l, R, c, at0, x1, x2, x3, M', i, rfl, hE, l0, l1, i0, i1, hB, hM'⟩
 obtain ⟨s, H, n, ck, ch, ci, cl, M, ks, hs, is, ls⟩ := E
 obtain ⟨hX, hs0, hk, hh, hi, hl, hM, hkw⟩ := id hE
 have hX : (KL.mk' n H ks hs is).ok := hX
 have n0 : 0 ≤ n := hX.n0
 have n9 : n ≤ 9 := hX.n9
 have H1 : 1 ≤ H := hX.H1
 have H4 : H ≤ 4 := hX.H4
 have hs1 : s = if n < 1 then 1 else n := hs0
 have hs2 : 1 ≤ s ∧ s ≤ 9 ∧ n ≤ s := by split at hs1 <;> omega
 have hk : n ≤ ks.length := hk
 have hh : n ≤ hs.length := hh
 have hi : n ≤ is.length := hi
 have hl : n ≤ ls.length := hl
 have l1 : l < H := l1
 have i1 : i ≤ n := i1
 have hB : (KL.mk' n H ks hs is).LB (nthL ls) l i M' := hB
 have hz : (KL.mk' n H ks hs is).sz = s := hs1.symm
 have hlen : (M'.W.length : Int) = 9 + 2 * s + H + s * (4 + H) := by have := hB.len; rw [hz] at this; exact this
 simp only [lkEnv, LsE.env, List.cons_append, List.nil_append]
 unfold tLLinksL0
 repeat' (first
  | (first
    | (with_reducible refine st_need ?_ ?_
       focus (simp only [dn, reduceCtorEq, va_map] <;> first | omega | assumption))
    | (with_reducible refine st_and ?_ ?_)
    | (with_reducible exact st_ok)
    | (with_reducible refine st_br (fun hc => ?_) (fun hc => ?_) <;> (simp only [dn, reduceCtorEq, va_map] at hc) <;> (try (exfalso; first | contradiction | omega)))
    | (refine st_call (by rfl) (by simp only [dn, reduceCtorEq, va_map] <;> rfl) ?_ (by simp only [out_nextP, out_store] <;> rfl) (by simp only [dn] <;> rfl) ?_
       focus (first | exact ⟨_, _, _, _, _, _, _, _, _, _, _, _, _, _, _, rfl⟩ | exact ⟨_, _, _, rfl⟩)))
  | (refine st_back (by rfl) (by simp only [dn, reduceCtorEq, va_map] <;> rfl) (by simp only [dn] <;> rfl) (by rfl) ?_ ?_
     focus (rw [wrap_small (n := i + 1) (by omega) (by omega)]
            first
             | (have hr := KL.cell_rng (s := s) (H := H) (i := i) (l := l) (by omega) (by omega) H1 H4 (by omega) (by omega) l0 l1
                refine ⟨⟨s, H, n, ck, ch, ci, cl, M, ks, hs, is, ls⟩, l, R, c, at0, x1, x2, x3, _, _, rfl, hE, l0, l1, by omega, by show i + 1 ≤ n; omega, KL.lb_step hX l0 l1 i0 (by show i < n; omega) hB ⟨?_, i0, ?_, ?_⟩ (len_store _ _ _) (fun y y0 => ?_), fine_store hM' ⟨by decide, by decide⟩⟩
                focus (show ¬ l < is[i.toNat]?.getD 0; omega)
                focus (show ls[i.toNat]?.getD 0 ≤ l; omega)
                focus (show l < hs[i.toNat]?.getD 0; omega)
                focus (show (M'.store (cellN s H i l) 9223372036854775808).word y = if y = cellN (KL.mk' n H ks hs is).sz H i l then _ else _
                       rw [hz]; exact KL.store_word hr.1 (by rw [hlen]; exact hr.2) y0))
             | exact ⟨⟨s, H, n, ck, ch, ci, cl, M, ks, hs, is, ls⟩, l, R, c, at0, x1, x2, x3, _, _, rfl, hE, l0, l1, by omega, by show i + 1 ≤ n; omega, KL.lb_skip i0 (by show i < n; omega) hB (fun q => by
                have q1 : ¬ l < is[i.toNat]?.getD 0 := q.1
                have q2 : ls[i.toNat]?.getD 0 ≤ l := q.2.2.1
                have q3 : l < hs[i.toNat]?.getD 0 := q.2.2.2
                omega), hM'⟩)
     focus (rw [wrap_small (n := i + 1) (by omega) (by omega)]; show (n - (i + 1)).toNat < (n - i).toNat; omega))
  | (refine st_ret (by simp only [dn, reduceCtorEq, va_map] <;> rfl) ?_
     exact ⟨⟨s, H, n, ck, ch, ci, cl, M, ks, hs, is, ls⟩, l, _, rfl, rfl, KL.lb_end (k := i) (by show i = n; omega) hB, hM'⟩)
  | fail "no step")
theorem bLkA (P : Program) (hs' : List (Nat × Nat × List Nat)) : ∀ env, lkaInv env → tLLinksL1.sat { cxUk P [lLkA, lLkB] with hints := hs' } (ctrR cLLinks) env := by
 rintro env ⟨E, l, R, c, at0, M', k, at_, p, rfl, hE, l0, l1, k0, k1, k9, hat, hA, hM', hR⟩
 obtain ⟨s, H, n, ck, ch, ci, cl, M, ks, hs, is, ls⟩ := E
 obtain ⟨hX, hs0, hk, hh, hi, hl, hM, hkw⟩ := id hE
 have hX : (KL.mk' n H ks hs is).ok := hX
 have n0 : 0 ≤ n := hX.n0
 have n9 : n ≤ 9 := hX.n9
 have H1 : 1 ≤ H := hX.H1
 have H4 : H ≤ 4 := hX.H4
 have hs1 : s = if n < 1 then 1 else n := hs0
 have hs2 : 1 ≤ s ∧ s ≤ 9 ∧ n ≤ s := by split at hs1 <;> omega
 have hk : n ≤ ks.length := hk
 have hh : n ≤ hs.length := hh
 have hi : n ≤ is.length := hi
 have hl : n ≤ ls.length := hl
 have l1 : l < H := l1
 have hat : at_ = cellN s H p l := hat
 subst hat
 have hA : (KL.mk' n H ks hs is).LA (nthL ls) l p M' := hA
 have hR : R.drop k.toNat = (KL.mk' n H ks hs is).behind p l := hR
 have hz : (KL.mk' n H ks hs is).sz = s := hs1.symm
 have hlen : (M'.W.length : Int) = 9 + 2 * s + H + s * (4 + H) := by have := hA.len; rw [hz] at this; exact this
 have p0 : -1 ≤ p := hA.p0
 have p1 : p < n := hA.p1
 have ra := KL.cell_rng (s := s) (H := H) (i := p) (l := l) (by omega) (by omega) H1 H4 p0 (by omega) l0 l1
 by_cases hk' : k < R.length
 · have hd : (KL.mk' n H ks hs is).behind p l = R[k.toNat]?.getD 0 :: R.drop (k.toNat + 1) := by rw [← hR]; exact drop_step (by omega)
   obtain ⟨m, hm⟩ : ∃ m, m = R[k.toNat]?.getD 0 := ⟨_, rfl⟩
   rw [← hm] at hd
   have hK : (R ++ c)[k.toNat]?.getD 0 = m := by rw [hm, List.getElem?_append_left (by omega)]
   obtain ⟨b1, b2, b3, b4, b5⟩ := KL.behind_cons hA.p0 hd
   have b2 : m < n := b2
   have rb := KL.cell_rng (s := s) (H := H) (i := m) (l := l) (by omega) (by omega) H1 H4 (by omega) (by omega) l0 l1
   have hr := ref_e (m := m) (by omega) (by omega)
   have hrr := KL.rf_rng (d := m) (by omega)
   have hwn : (M'.load (cellN s H p l)).n = M'.word (cellN s H p l) := (acc_in ra.1 (by rw [hlen]; exact ra.2)).2.2.2.1
   have hw0 : M'.word (cellN s H p l) = 0 ∨ M'.word (cellN s H p l) = 9223372036854775808 := by
    have := hA.at_; rw [hz] at this
    rw [show M'.word (cellN s H p l) = _ from this]; split
    · exact .inr rfl
    · exact .inl rfl
   have hor : bits .or .u64 (M'.load (cellN s H p l)).n (rfN m) = (M'.load (cellN s H p l)).n + rfN m := or_mark (by rw [hwn]; exact hw0) hrr.1 hrr.2
   have la : ∀ x, x = (if (KL.mk' n H ks hs is).mrk (nthL ls) m l then 9223372036854775808 else 0) → (KL.mk' n H ks hs is).LA (nthL ls) l m (((M'.load (cellN s H p l)).store (cellN s H p l) ((M'.load (cellN s H p l)).n + rfN m)).store (cellN s H m l) x) ∧ R.drop (k.toNat + 1) = (KL.mk' n H ks hs is).behind m l ∧ (((M'.load (cellN s H p l)).store (cellN s H p l) ((M'.load (cellN s H p l)).n + rfN m)).store (cellN s H m l) x).fine := by
    intro x hx
    have h2 := two_sto (M := M') (v := (M'.load (cellN s H p l)).n + rfN m) (x := x) ra.1 (by rw [hlen]; exact ra.2) rb.1 (by rw [hlen]; exact rb.2)
    have h3 := KL.la_step hX l0 l1 hA hd h2.1 (fun y y0 => by
     rw [hz]
     show _ = if y = cellN s H m l then _ else if y = cellN s H p l then M'.word (cellN s H p l) + rfN m else M'.word y
     rw [h2.2 y y0, hx, hwn])
    refine ⟨h3.1, h3.2, fine_store (fine_store (fine_load hM' _) ?_) (by rw [hx]; exact isW_mk)⟩
    rw [hwn]; rcases hw0 with e | e <;> rw [e] <;> exact ⟨by omega, by omega⟩
   simp only [dn] at hr
   simp only [lkEnv, LsE.env, List.cons_append, List.nil_append]
   unfold tLLinksL1
   have hks := (List.length_append : (R ++ c).length = _)
   repeat' (first
    | (first
      | (with_reducible refine st_need ?_ ?_
         focus (simp only [dn, reduceCtorEq, hK, hr, hor, va_map, hks, ↓reduceIte] <;> first | omega | assumption))
      | (with_reducible refine st_and ?_ ?_)
      | (with_reducible exact st_ok)
      | (with_reducible refine st_br (fun hc => ?_) (fun hc => ?_) <;> (simp only [dn, reduceCtorEq, hK, hr, hor, va_map, hks, ↓reduceIte] at hc) <;> (try (exfalso; first | contradiction | omega)))
      | (refine st_call (by rfl) (by simp only [dn, reduceCtorEq, hK, hr, hor, va_map, hks, ↓reduceIte] <;> rfl) ?_ (by simp only [out_nextP, out_load, out_store] <;> rfl) (by simp only [dn] <;> rfl) ?_
         focus (first | exact ⟨_, _, _, _, _, _, _, _, _, _, _, _, _, _, _, rfl⟩ | exact ⟨_, _, rfl⟩ | exact ⟨_, _, _, rfl⟩)))
    | (refine st_back (by rfl) (by simp only [dn, reduceCtorEq, hK, hr, hor, va_map] <;> rfl) (by simp only [dn] <;> rfl) (by rfl) ?_ ?_
       focus (rw [wrap_small (n := k + 1) (by omega) (by omega)]
              first
               | (have h9 := la 9223372036854775808 (by
                   rw [if_pos ⟨by omega, (by show ls[m.toNat]?.getD 0 ≤ l; omega), (by show l < hs[m.toNat]?.getD 0; omega)⟩])
                  exact ⟨⟨s, H, n, ck, ch, ci, cl, M, ks, hs, is, ls⟩, l, R, c, at0, _, _, _, m, rfl, hE, l0, l1, by omega, by omega, k9, rfl, h9.1, h9.2.2, by rw [toNat_succ k0]; exact h9.2.1⟩)
               | (have h9 := la 0 (by
                   rw [if_neg (fun q => by
                    have q2 : ls[m.toNat]?.getD 0 ≤ l := q.2.1
                    have q3 : l < hs[m.toNat]?.getD 0 := q.2.2
                    omega)])
                  exact ⟨⟨s, H, n, ck, ch, ci, cl, M, ks, hs, is, ls⟩, l, R, c, at0, _, _, _, m, rfl, hE, l0, l1, by omega, by omega, k9, rfl, h9.1, h9.2.2, by rw [toNat_succ k0]; exact h9.2.1⟩))
       focus (rw [wrap_small (n := k + 1) (by omega) (by omega)]; show ((R.length : Int) - (k + 1)).toNat < ((R.length : Int) - k).toNat; omega))
    | fail "no step")
 · have hnil : (KL.mk' n H ks hs is).behind p l = [] := by rw [← hR]; exact List.drop_eq_nil_of_le (by omega)
   simp only [lkEnv, LsE.env, List.cons_append, List.nil_append]
   unfold tLLinksL1
   repeat' (first
    | (first
      | (with_reducible refine st_need ?_ ?_
         focus (simp only [dn, reduceCtorEq, va_map] <;> first | omega | assumption))
      | (with_reducible refine st_and ?_ ?_)
      | (with_reducible exact st_ok)
      | (with_reducible refine st_br (fun hc => ?_) (fun hc => ?_) <;> (simp only [dn, reduceCtorEq, va_map] at hc) <;> (try (exfalso; first | contradiction | omega)))
      | (refine st_call (by rfl) (by simp only [dn, reduceCtorEq, va_map] <;> rfl) ?_ (by simp only [out_nextP] <;> rfl) (by simp only [dn] <;> rfl) ?_
         focus (first | exact ⟨_, _, _, _, _, _, _, _, _, _, _, _, _, _, _, rfl⟩)))
    | (refine st_loop (by rfl) (by simp only [dn, reduceCtorEq, va_map] <;> rfl) (by simp only [dn] <;> rfl) ?_ (fun env' h => bLkB P hs' env' h)
       exact ⟨⟨s, H, n, ck, ch, ci, cl, M, ks, hs, is, ls⟩, l, R, c, at0, _, _, _, M', 0, rfl, hE, l0, l1, by omega, n0, KL.la_end hX l0 l1 hA hnil, hM'⟩)
    | fail "no step")
theorem vLLinks (P : Program) (hs' : List (Nat × Nat × List Nat)) : ∀ ins, ins.length = cLLinks.nin → cLLinks.pre ins → tLLinks.sat { cxUk P [lLkA, lLkB] with hints := hs' } (ctrR cLLinks) ins := by
 rintro ins _ ⟨E, l, rfl, hE, l0, l1, hL⟩
 obtain ⟨s, H, n, ck, ch, ci, cl, M, ks, hs, is, ls⟩ := E
 obtain ⟨hX, hs0, hk, hh, hi, hl, hM, hkw⟩ := id hE
 have hX : (KL.mk' n H ks hs is).ok := hX
 have n0 : 0 ≤ n := hX.n0
 have n9 : n ≤ 9 := hX.n9
 have H1 : 1 ≤ H := hX.H1
 have H4 : H ≤ 4 := hX.H4
 have hs1 : s = if n < 1 then 1 else n := hs0
 have hs2 : 1 ≤ s ∧ s ≤ 9 ∧ n ≤ s := by split at hs1 <;> omega
 have hk : n ≤ ks.length := hk
 have hh : n ≤ hs.length := hh
 have hi : n ≤ is.length := hi
 have hl : n ≤ ls.length := hl
 have l1 : l < H := l1
 have hL : (KL.mk' n H ks hs is).Lay (nthL ls) l M := hL
 have hR9 : (rowL n is l 0).length ≤ 9 := Nat.le_trans rowL_len (by omega)
 simp only [LsE.env, List.cons_append, List.nil_append]
 unfold tLLinks
 repeat' (first
  | (refine st_callm (by rfl) (by simp only [dn, reduceCtorEq, va_map] <;> rfl) ?_ (fun o env' hm he => ?_)
     focus exact ⟨⟨s, H, n, ck, ch, ci, cl, M, ks, hs, is, ls⟩, l, rfl, hE, l0, l1⟩
     obtain ⟨cc, rfl⟩ := hm
     have he := (congrArg (fun z => _ ++ z) (row_e (s := s) (H := H) (n := n) (ck := ck) (ch := ch) (ci := ci) (cl := cl) (l := l) (M := M) (ks := ks) (hs := hs) (is := is) (ls := ls) cc).symm).trans he
     simp only [List.cons_append, List.nil_append] at he
     subst he)
  | (first
    | (with_reducible refine st_need ?_ ?_
       focus (simp only [dn, reduceCtorEq, va_map] <;> first | omega | assumption))
    | (with_reducible refine st_and ?_ ?_)
    | (with_reducible exact st_ok)
    | (with_reducible refine st_br (fun hc => ?_) (fun hc => ?_) <;> (simp only [dn, reduceCtorEq, va_map] at hc) <;> (try (exfalso; first | contradiction | omega)))
    | (refine st_call (by rfl) (by simp only [dn, reduceCtorEq, va_map] <;> rfl) ?_ (by simp only [out_nextP] <;> rfl) (by simp only [dn] <;> rfl) ?_
       focus (first | exact ⟨_, _, _, _, _, _, _, _, _, _, _, _, _, _, _, rfl⟩)))
  | (refine st_loop (by rfl) (by simp only [dn, reduceCtorEq, va_map] <;> rfl) (by simp only [dn] <;> rfl) ?_ (fun env' h => bLkA P hs' env' h)
     exact ⟨⟨s, H, n, ck, ch, ci, cl, M, ks, hs, is, ls⟩, l, rowL n is l 0, _, _, M, 0, _, -1, rfl, hE, l0, l1, by omega, by omega, by omega, rfl, KL.la_init hX l0 l1 hL, hM, rowL_behind⟩)
  | fail "no step")
theorem hctsUk : ∀ (ci : Nat) (c : Ctr U), ctsUk[ci]? = some c → c.Holds objs Try.prog := by
 intro ci c h
 match ci, h with
 | 0, h => cases h; exact hLRow
 | 1, h => cases h; exact hNextP
 | 2, h => cases h; exact hLoad
 | 3, h => cases h; exact hStore
 | n + 4, h => cases h
theorem hLLinks : cLLinks.Holds objs Try.prog := runCtr_holdsm (X := { cxUk Try.prog [lLkA, lLkB] with hints := hsLLinks }) objsOk mixed hctsUk (callable _ Try.func89 (by kernel_rfl) (by kernel_rfl)) (by rintro ins outs _ ⟨E, l, rfl, _⟩ ⟨E', l', M', _, rfl, _⟩; rfl) (by rw [rLLinks]; exact vLLinks _ _)
end Go.Proofs.Ytbmbiiiacajolaa
