/- Texts of this proof. -/
import Derived.Test.YtbmbiiiacajolaaUdK
import Derived.Test.YtbmbiiiacajolaaB7K
import Derived.Test.YtbmbiiiacajolaaB8K
import Derived.Test.YtbmbiiiacajolaaQb4K
namespace Go.Proofs.Ytbmbiiiacajolaa
set_option linter.unusedVariables false
set_option linter.unusedSimpArgs false
set_option linter.unusedSectionVars false
open Go Go.RowKit
theorem marks_no {E : LsE} {k : Int} (h : E.n < 1 ∨ nthL E.ls (marksI E k) ≤ 0) : marksM E k = E.M ∧ marksL E k = E.ls := ⟨if_pos h, if_pos h⟩
theorem marks_yes {E : LsE} {k : Int} (h : ¬ (E.n < 1 ∨ nthL E.ls (marksI E k) ≤ 0)) : marksM E k = (E.M.load (marksAt E k)).store (marksAt E k) (bits .or .u64 (E.M.load (marksAt E k)).n 9223372036854775808) ∧ marksL E k = E.ls.set (marksI E k).toNat (nthL E.ls (marksI E k) - 1) := ⟨if_neg h, if_neg h⟩
theorem hFStep : cFStep.Holds objs Try.prog := by
 refine ⟨hFStep1.1, ?_, ?_⟩
 · rintro ins outs _ ⟨F, M, rfl, _⟩ h3
   have h3' : outs = _ := h3
   rw [h3']; rfl
 · rintro ins ρ w vals F hl ⟨G, M, rfl, hM⟩ ha hs
   by_cases h1 : G.a 2 = 1
   · exact hFStep1.2.2 _ ρ w vals F hl ⟨G, M, rfl, hM, h1⟩ ha hs
   · by_cases h2 : G.a 2 = 2
     · exact hFStep2.2.2 _ ρ w vals F hl ⟨G, M, rfl, hM, h2⟩ ha hs
     · by_cases h3 : G.a 2 = 3
       · exact hFStep3.2.2 _ ρ w vals F hl ⟨G, M, rfl, hM, h3⟩ ha hs
       · exact hFStep4.2.2 _ ρ w vals F hl ⟨G, M, rfl, hM, h1, h2, h3⟩ ha hs
theorem step_fine {F : FindSt} {M : MemSt} (hM : M.fine) : (F.step M).2.fine := by
 unfold FindSt.step
 split
 · exact fine_load hM _
 · split
   · exact fine_load hM _
   · split
     · exact fine_cas hM ⟨by omega, by omega⟩
     · split
       · exact fine_load hM _
       · exact hM
theorem out_fstep (F : FindSt) (M : MemSt) : cFStep.out [.u (.find F), .u (.mem M)] = [.u (.find (F.step M).1), .u (.mem (F.step M).2), .b ((F.step M).1.line == 9)] := rfl
theorem live_e (M : MemSt) (a0 a1 a2 a3 a4 a5 a6 a7 a8 a9 a10 a11 a12 : Int) (c : List Int) : liveMany c [.u (.mem M), .i a0, .i a1, .i a2, .i a3, .i a4, .i a5, .i a6, .i a7, .i a8, .i a9, .i a10, .i a11, .i a12] = [.u (.mem M), .l (liveT M a0 a1 a2 a5 ++ c), .i (liveT M a0 a1 a2 a5).length, .i (((liveT M a0 a1 a2 a5).length + c.length : Nat) : Int)] := rfl
theorem refO_rf {c : Int} (h0 : -1 ≤ c) (h1 : c < 9) : refO (rfN c) = [.i c, .i (if c < 0 then 0 else c + 5), .b false, .i 0] := by
 unfold rfN refO refOk
 split
 · have : c = -1 := by omega
   subst this; rfl
 · have e1 : (c + 1 + (c + 5) * 65536) % 65536 - 1 = c := by omega
   have e2 : (c + 1 + (c + 5) * 65536) / 65536 % 4294967296 = c + 5 := by omega
   have e3 : decide ((c + 1 + (c + 5) * 65536) / 9223372036854775808 = 1) = false := decide_eq_false (by omega)
   have e4 : (c + 1 + (c + 5) * 65536) / 281474976710656 = 0 := by omega
   rw [decide_eq_true ⟨by rw [e4]; rfl, fun h => absurd h (by omega)⟩, e1, e2, e3]; rfl
theorem out_gref (w : Int) : cGetRef.out [.i w] = refO w := rfl
theorem rf_W {c : Int} (h0 : -1 ≤ c) (h1 : c < 9) : isW (rfN c) := by have := KL.rf_rng (d := c) (by omega); exact ⟨by omega, by omega⟩
theorem pre_si9 {L c c' : List Int} {a b : Int} (h : L.length ≤ 9) : cSameInts.pre [.l (L ++ c), .l (L ++ c'), .i L.length, .i a, .i L.length, .i b] := ⟨_, _, _, _, _, _, rfl, by omega, by rw [List.length_append]; omega, by omega, by rw [List.length_append]; omega, by omega⟩
theorem live_len {X : KL} {low : Int → Int} (h : X.ok) : (X.liveL low).length ≤ 9 := by
 have := h.n9
 exact Nat.le_trans (List.length_filter_le _ _) (by rw [upN_len]; omega)
set_option maxRecDepth 10000
set_option maxHeartbeats 8000000
theorem vLMarks (P : Program) (hs' : List (Nat × Nat × List Nat)) : ∀ ins, ins.length = cLMarks.nin → cLMarks.pre ins → tLMarks.sat { cxUm P with hints := hs' } (ctrR cLMarks) ins := by
 rintro ins _ ⟨E, k, nx, rfl, hG, k0, k1⟩
 have hE := hG.f
 obtain ⟨s, H, n, ck, ch, ci, cl, M, ks, hs, is, ls⟩ := E
 obtain ⟨hX, hs0, hk, hh, hi, hl, hM, hkw⟩ := id hE
 have hX : (KL.mk' n H ks hs is).ok := hX
 have n0 : 0 ≤ n := hX.n0
 have n9 : n ≤ 9 := hX.n9
 have H1 : 1 ≤ H := hX.H1
 have H4 : H ≤ 4 := hX.H4
 have hs1 : s = if n < 1 then 1 else n := hs0
 have hs2 : 1 ≤ s ∧ s ≤ 9 ∧ n ≤ s := by split at hs1 <;> omega
 have hk : n ≤ ks.length := hk
 have hh : n ≤ hs.length := hh
 have hi : n ≤ is.length := hi
 have hl : n ≤ ls.length := hl
 have hIl : ∀ i, 0 ≤ i → i < n → 0 ≤ nthL ls i ∧ nthL ls i ≤ nthL hs i := hG.I.lo
 simp only [LsE.env, List.cons_append, List.nil_append]
 by_cases hn : n < 1
 · have h9 := marks_no (E := (LsE.mk s H n ck ch ci cl M ks hs is ls)) (k := k) (.inl hn)
   unfold tLMarks
   repeat' (first
    | (first
      | (with_reducible refine st_need ?_ ?_
         focus (simp only [dn, reduceCtorEq, va_map] <;> first | omega | assumption))
      | (with_reducible refine st_and ?_ ?_)
      | (with_reducible exact st_ok)
      | (with_reducible refine st_br (fun hc => ?_) (fun hc => ?_) <;> (simp only [dn, reduceCtorEq, va_map] at hc) <;> (try (exfalso; first | contradiction | omega)))
      | (refine st_call (by rfl) (by simp only [dn, reduceCtorEq, va_map] <;> rfl) ?_ (by rfl <;> rfl) (by simp only [dn] <;> rfl) ?_
         focus (first | rfl)))
    | (refine st_ret (by simp only [dn, reduceCtorEq, va_map] <;> rfl) ?_
       exact ⟨(LsE.mk s H n ck ch ci cl M ks hs is ls), k, rfl, by rw [h9.1, h9.2]⟩)
    | fail "no step")
 · obtain ⟨i, hi'⟩ : ∃ i, i = k.tmod n := ⟨_, rfl⟩
   have hri : k.tmod n = i := hi'.symm
   have hi0 : 0 ≤ i := by rw [hi']; exact Int.tmod_nonneg _ k0
   have hin : i < n := by rw [hi']; exact Int.tmod_lt_of_pos _ (by omega)
   have hwi : IntKind.i64.wrap i = i := wrap_small (by omega) (by omega)
   have hlo := hIl i hi0 hin
   have hnd := hX.nd i hi0 hin
   have hh4 : nthL hs i ≤ H := hnd.2.2
   by_cases hpos : 0 < ls[i.toNat]?.getD 0
   · have hw : IntKind.i64.wrap (ls[i.toNat]?.getD 0 - 1) = ls[i.toNat]?.getD 0 - 1 := wrap_small (by omega) (by unfold nthL at hlo hh4; omega)
     have hset : (ls.set i.toNat (ls[i.toNat]?.getD 0 - 1))[i.toNat]?.getD 0 = ls[i.toNat]?.getD 0 - 1 := by
      rw [List.getElem?_set, if_pos rfl, if_pos (by omega)]; rfl
     have hsl : ((ls.set i.toNat (ls[i.toNat]?.getD 0 - 1)).length : Int) = ls.length := by rw [List.length_set]
     have h9 := marks_yes (E := (LsE.mk s H n ck ch ci cl M ks hs is ls)) (k := k) (by
      intro q
      rcases q with q | q
      · exact hn q
      · have q : ls[(k.tmod n).toNat]?.getD 0 ≤ 0 := q
        rw [hri] at q; omega)
     unfold tLMarks
     repeat' (first
      | (first
        | (with_reducible refine st_need ?_ ?_
           focus (simp only [dn, reduceCtorEq, va_map, hri, hwi, hw, hset, hsl] <;> first | omega | assumption))
        | (with_reducible refine st_and ?_ ?_)
        | (with_reducible exact st_ok)
        | (with_reducible refine st_br (fun hc => ?_) (fun hc => ?_) <;> (simp only [dn, reduceCtorEq, va_map, hri, hwi, hw, hset, hsl] at hc) <;> (try (exfalso; first | contradiction | omega)))
        | (refine st_call (by rfl) (by simp only [dn, reduceCtorEq, va_map, hri, hwi, hw, hset, hsl] <;> rfl) ?_ (by simp only [out_nextP, out_load, out_store] <;> rfl) (by simp only [dn] <;> rfl) ?_
           focus (first | exact ⟨_, _, _, _, _, _, _, _, _, _, _, _, _, _, _, rfl⟩ | exact ⟨_, _, rfl⟩ | exact ⟨_, _, _, rfl⟩)))
      | (refine st_setl (by simp only [dn, reduceCtorEq, hri, hwi, hw] <;> rfl) ?_)
      | (refine st_ret (by simp only [dn, reduceCtorEq, va_map, hri, hw] <;> rfl) ?_
         refine ⟨(LsE.mk s H n ck ch ci cl M ks hs is ls), k, rfl, ?_⟩
         rw [h9.1, h9.2]
         unfold marksAt marksI
         show _ = [EV.u (U.mem ((M.load (cellN s H (k.tmod n) (nthL ls (k.tmod n) - 1))).store (cellN s H (k.tmod n) (nthL ls (k.tmod n) - 1)) (bits .or .u64 (M.load (cellN s H (k.tmod n) (nthL ls (k.tmod n) - 1))).n 9223372036854775808))), .l (ls.set (k.tmod n).toNat (nthL ls (k.tmod n) - 1))]
         rw [hri]; rfl)
      | fail "no step")
   · have h9 := marks_no (E := (LsE.mk s H n ck ch ci cl M ks hs is ls)) (k := k) (.inr (by
      show ls[(k.tmod n).toNat]?.getD 0 ≤ 0
      rw [hri]; omega))
     unfold tLMarks
     repeat' (first
      | (first
        | (with_reducible refine st_need ?_ ?_
           focus (simp only [dn, reduceCtorEq, va_map, hri, hwi] <;> first | omega | assumption))
        | (with_reducible refine st_and ?_ ?_)
        | (with_reducible exact st_ok)
        | (with_reducible refine st_br (fun hc => ?_) (fun hc => ?_) <;> (simp only [dn, reduceCtorEq, va_map, hri, hwi] at hc) <;> (try (exfalso; first | contradiction | omega)))
        | (refine st_call (by rfl) (by simp only [dn, reduceCtorEq, va_map, hri, hwi] <;> rfl) ?_ (by rfl <;> rfl) (by simp only [dn] <;> rfl) ?_
           focus (first | rfl)))
      | (refine st_ret (by simp only [dn, reduceCtorEq, va_map] <;> rfl) ?_
         exact ⟨(LsE.mk s H n ck ch ci cl M ks hs is ls), k, rfl, by rw [h9.1, h9.2]⟩)
      | fail "no step")
theorem hctsUm : ∀ (ci : Nat) (c : Ctr U), ctsUm[ci]? = some c → c.Holds objs Try.prog := by
 intro ci c h
 match ci, h with
 | 0, h => cases h; exact hNextP
 | 1, h => cases h; exact hLoad
 | 2, h => cases h; exact hStore
 | n + 3, h => cases h
theorem hLMarks : cLMarks.Holds objs Try.prog := runCtr_holdsm (X := { cxUm Try.prog with hints := hsLMarks }) objsOk mixed hctsUm (callable _ Try.func48 (by kernel_rfl) (by kernel_rfl)) (by rintro ins outs _ ⟨E, k, nx, rfl, _⟩ ⟨E', k', _, rfl⟩; rfl) (by rw [rLMarks]; exact vLMarks _ _)
theorem vLStep (P : Program) (hs' : List (Nat × Nat × List Nat)) : ∀ ins, ins.length = cLStep.nin → cLStep.pre ins → tLStep.sat { cxUs P with hints := hs' } (ctrR cLStep) ins := by
 rintro ins _ ⟨E, F, key, nx, fs, rfl, hG, hAt, hne, hF⟩
 have hE := hG.f
 obtain ⟨s, H, n, ck, ch, ci, cl, M, ks, hs, is, ls⟩ := E
 obtain ⟨hX, hs0, hk, hh, hi, hl, hM, hkw⟩ := id hE
 have hX : (KL.mk' n H ks hs is).ok := hX
 have n0 : 0 ≤ n := hX.n0
 have n9 : n ≤ 9 := hX.n9
 have H1 : 1 ≤ H := hX.H1
 have H4 : H ≤ 4 := hX.H4
 have hs1 : s = if n < 1 then 1 else n := hs0
 have hs2 : 1 ≤ s ∧ s ≤ 9 ∧ n ≤ s := by split at hs1 <;> omega
 have hk : n ≤ ks.length := hk
 have hh : n ≤ hs.length := hh
 have hi : n ≤ is.length := hi
 have hl : n ≤ ls.length := hl
 have hz : (KL.mk' n H ks hs is).sz = s := hs1.symm
 have hI : (KL.mk' n H ks hs is).Inv nx (nthL ls) := hG.I
 have hR : (KL.mk' n H ks hs is).Rep nx (nthL ls) M := hG.R
 have hAt : (KL.mk' n H ks hs is).At key nx (nthL ls) fs := hAt
 have hF : (KL.mk' n H ks hs is).FRep key F fs := hF
 obtain ⟨q1, q2, ⟨i, pt, w1, ⟨v1, v2, v3, v4⟩, w2, w3, w4⟩, hkind⟩ := KL.step_rep hX hI hR hAt hne hF
 have v2 : i < n := v2
 have hI' := (KL.step_at hX hI hAt).1
 have hM' : (F.step M).2.fine := step_fine hM
 have ht := KL.okL (s := s) (H := H) hs2.1 hs2.2.1 H1 H4
 have hlv0 : liveT M (9 + 2 * s + H) (9 + 2 * s) H s = (KL.mk' n H ks hs is).liveL (nthL ls) := by have := KL.live_eq hX hI hR; rw [hz] at this; exact this
 have hlv1 : liveT (F.step M).2 (9 + 2 * s + H) (9 + 2 * s) H s = (KL.mk' n H ks hs is).liveL (nthL ls) := by have := KL.live_eq hX hI' q2; rw [hz] at this; exact this
 have hl9 := live_len hX (low := nthL ls)
 have hlen : ((F.step M).2.W.length : Int) = 9 + 2 * s + H + s * (4 + H) := by have := q2.len; rw [hz] at this; exact this
 rw [hz] at w1
 have hwho : whoT (9 + 2 * s + H) (9 + 2 * s) H s (F.step M).2.a = (i, pt, true) := w1
 generalize (KL.mk' n H ks hs is).liveL (nthL ls) = LV at hlv0 hlv1 hl9
 have hb : (F.step M).2.h = true ∨ (F.step M).2.h = false := by cases (F.step M).2.h <;> simp
 have hri : 0 ≤ i → binDen .or .u64 (IntKind.u64.wrap (IntKind.i64.wrap (i + 1))) (binDen .shl .u64 (IntKind.u64.wrap (IntKind.i64.wrap (5 + i))) 16) = rfN i := fun h => ref_e h (by omega)
 rcases hb with hb | hb
 · obtain ⟨c, c0, c1, c2, c3, c4, c5, c6, c7⟩ := w4 hb
   have c1 : c < n := c1
   have c4 : pt - 4 < H := c4
   rw [hz] at c5 c6 c7
   have rb := KL.cell_rng (s := s) (H := H) (i := c) (l := pt - 4) (by omega) (by omega) H1 H4 (by omega) (by omega) (by omega) c4
   have hrf := refO_rf (c := c) (by omega) (by omega)
   rw [← c2] at hrf
   have hoW : isW (F.step M).2.o := by rw [c2]; exact rf_W (by omega) (by omega)
   have hp4 : IntKind.i64.wrap (pt - 4) = pt - 4 := wrap_small (by omega) (by omega)
   obtain ⟨v, hv⟩ : ∃ v, v = (F.step M).2.word (cellN s H c (pt - 4)) := ⟨_, rfl⟩
   have hv' : (F.step M).2.W[(nextT (9 + 2 * s + H) (9 + 2 * s) H s c (pt - 4)).toNat]?.getD 0 = v := hv.symm
   have c5 : 9223372036854775808 ≤ v := by rw [hv]; exact c5
   have c6 : v < 18446744073709551616 := by rw [hv]; exact c6
   have c7 : (F.step M).2.n = v - 9223372036854775808 := by rw [hv]; exact c7
   have hvw : IntKind.u64.wrap (v - 9223372036854775808) = v - 9223372036854775808 := wrap_u64' (by omega) (by omega)
   have rb0 : 0 ≤ nextT (9 + 2 * s + H) (9 + 2 * s) H s c (pt - 4) := rb.1
   have rb1 : nextT (9 + 2 * s + H) (9 + 2 * s) H s c (pt - 4) < (F.step M).2.W.length := by rw [hlen]; exact rb.2
   simp only [LsE.env, List.cons_append, List.nil_append]
   by_cases hi0 : 0 ≤ i
   · have hri := hri hi0
     simp only [dn] at hri
     have w3 := w3 hi0
     unfold tLStep
     repeat' (first
      | (refine st_callm (by rfl) (by simp only [dn, reduceCtorEq, va_map] <;> rfl) ?_ (fun o env' hm he => ?_)
         focus first | exact ⟨M, _, _, _, _, _, _, _, _, _, _, _, _, _, rfl, hM, ht⟩ | exact ⟨(F.step M).2, _, _, _, _, _, _, _, _, _, _, _, _, _, rfl, hM', ht⟩
         obtain ⟨cc, rfl⟩ := hm
         simp only [live_e, hlv0, hlv1, List.cons_append, List.nil_append] at he
         subst he)
      | (first
        | (with_reducible refine st_need ?_ ?_
           focus (simp only [dn, reduceCtorEq, va_map, hri, hb, hp4, hv', hvw, reduceIte] <;> first | omega | assumption))
        | (with_reducible refine st_and ?_ ?_)
        | (with_reducible exact st_ok)
        | (with_reducible refine st_br (fun hc => ?_) (fun hc => ?_) <;> (simp only [dn, reduceCtorEq, va_map, hri, hb, hp4, hv', hvw, reduceIte] at hc) <;> (try (exfalso; first | contradiction | omega)))
        | (refine st_call (by rfl) (by simp only [dn, reduceCtorEq, va_map, hri, hb, hp4, hv', hvw, reduceIte] <;> rfl) ?_ (by simp only [out_fstep, out_last, out_fby, out_who, hwho, out_gref, hrf, out_words, out_nextP, out_sI] <;> rfl) (by simp only [dn] <;> rfl) ?_
           focus (first | exact ⟨F, M, rfl, hM⟩ | exact ⟨_, rfl⟩ | exact ⟨_, _, _, _, _, _, _, _, _, _, _, _, _, _, rfl⟩ | exact ⟨_, rfl, hoW⟩ | exact ⟨_, _, _, _, _, _, _, _, _, _, _, _, _, _, _, rfl⟩ | exact pre_si9 hl9)))
      | (refine st_ret (by simp only [dn, reduceCtorEq, va_map] <;> rfl) ?_
         exact ⟨(LsE.mk s H n ck ch ci cl M ks hs is ls), F, rfl, rfl⟩)
      | fail "no step")
   · have w2 := w2 (by omega)
     have hri : True := trivial
     unfold tLStep
     repeat' (first
      | (refine st_callm (by rfl) (by simp only [dn, reduceCtorEq, va_map] <;> rfl) ?_ (fun o env' hm he => ?_)
         focus first | exact ⟨M, _, _, _, _, _, _, _, _, _, _, _, _, _, rfl, hM, ht⟩ | exact ⟨(F.step M).2, _, _, _, _, _, _, _, _, _, _, _, _, _, rfl, hM', ht⟩
         obtain ⟨cc, rfl⟩ := hm
         simp only [live_e, hlv0, hlv1, List.cons_append, List.nil_append] at he
         subst he)
      | (first
        | (with_reducible refine st_need ?_ ?_
           focus (simp only [dn, reduceCtorEq, va_map, hri, hb, hp4, hv', hvw, reduceIte] <;> first | omega | assumption))
        | (with_reducible refine st_and ?_ ?_)
        | (with_reducible exact st_ok)
        | (with_reducible refine st_br (fun hc => ?_) (fun hc => ?_) <;> (simp only [dn, reduceCtorEq, va_map, hri, hb, hp4, hv', hvw, reduceIte] at hc) <;> (try (exfalso; first | contradiction | omega)))
        | (refine st_call (by rfl) (by simp only [dn, reduceCtorEq, va_map, hri, hb, hp4, hv', hvw, reduceIte] <;> rfl) ?_ (by simp only [out_fstep, out_last, out_fby, out_who, hwho, out_gref, hrf, out_words, out_nextP, out_sI] <;> rfl) (by simp only [dn] <;> rfl) ?_
           focus (first | exact ⟨F, M, rfl, hM⟩ | exact ⟨_, rfl⟩ | exact ⟨_, _, _, _, _, _, _, _, _, _, _, _, _, _, rfl⟩ | exact ⟨_, rfl, hoW⟩ | exact ⟨_, _, _, _, _, _, _, _, _, _, _, _, _, _, _, rfl⟩ | exact pre_si9 hl9)))
      | (refine st_ret (by simp only [dn, reduceCtorEq, va_map] <;> rfl) ?_
         exact ⟨(LsE.mk s H n ck ch ci cl M ks hs is ls), F, rfl, rfl⟩)
      | fail "no step")
 · have hrf : True := trivial
   have hoW : True := trivial
   have hp4 : True := trivial
   have hv' : True := trivial
   have hvw : True := trivial
   simp only [LsE.env, List.cons_append, List.nil_append]
   by_cases hi0 : 0 ≤ i
   · have hri := hri hi0
     simp only [dn] at hri
     have w3 := w3 hi0
     unfold tLStep
     repeat' (first
      | (refine st_callm (by rfl) (by simp only [dn, reduceCtorEq, va_map] <;> rfl) ?_ (fun o env' hm he => ?_)
         focus first | exact ⟨M, _, _, _, _, _, _, _, _, _, _, _, _, _, rfl, hM, ht⟩ | exact ⟨(F.step M).2, _, _, _, _, _, _, _, _, _, _, _, _, _, rfl, hM', ht⟩
         obtain ⟨cc, rfl⟩ := hm
         simp only [live_e, hlv0, hlv1, List.cons_append, List.nil_append] at he
         subst he)
      | (first
        | (with_reducible refine st_need ?_ ?_
           focus (simp only [dn, reduceCtorEq, va_map, hri, hb, hp4, hv', hvw, reduceIte] <;> first | omega | assumption))
        | (with_reducible refine st_and ?_ ?_)
        | (with_reducible exact st_ok)
        | (with_reducible refine st_br (fun hc => ?_) (fun hc => ?_) <;> (simp only [dn, reduceCtorEq, va_map, hri, hb, hp4, hv', hvw, reduceIte] at hc) <;> (try (exfalso; first | contradiction | omega)))
        | (refine st_call (by rfl) (by simp only [dn, reduceCtorEq, va_map, hri, hb, hp4, hv', hvw, reduceIte] <;> rfl) ?_ (by simp only [out_fstep, out_last, out_fby, out_who, hwho, out_gref, hrf, out_words, out_nextP, out_sI] <;> rfl) (by simp only [dn] <;> rfl) ?_
           focus (first | exact ⟨F, M, rfl, hM⟩ | exact ⟨_, rfl⟩ | exact ⟨_, _, _, _, _, _, _, _, _, _, _, _, _, _, rfl⟩ | exact ⟨_, rfl, hoW⟩ | exact ⟨_, _, _, _, _, _, _, _, _, _, _, _, _, _, _, rfl⟩ | exact pre_si9 hl9)))
      | (refine st_ret (by simp only [dn, reduceCtorEq, va_map] <;> rfl) ?_
         exact ⟨(LsE.mk s H n ck ch ci cl M ks hs is ls), F, rfl, rfl⟩)
      | fail "no step")
   · have w2 := w2 (by omega)
     have hri : True := trivial
     unfold tLStep
     repeat' (first
      | (refine st_callm (by rfl) (by simp only [dn, reduceCtorEq, va_map] <;> rfl) ?_ (fun o env' hm he => ?_)
         focus first | exact ⟨M, _, _, _, _, _, _, _, _, _, _, _, _, _, rfl, hM, ht⟩ | exact ⟨(F.step M).2, _, _, _, _, _, _, _, _, _, _, _, _, _, rfl, hM', ht⟩
         obtain ⟨cc, rfl⟩ := hm
         simp only [live_e, hlv0, hlv1, List.cons_append, List.nil_append] at he
         subst he)
      | (first
        | (with_reducible refine st_need ?_ ?_
           focus (simp only [dn, reduceCtorEq, va_map, hri, hb, hp4, hv', hvw, reduceIte] <;> first | omega | assumption))
        | (with_reducible refine st_and ?_ ?_)
        | (with_reducible exact st_ok)
        | (with_reducible refine st_br (fun hc => ?_) (fun hc => ?_) <;> (simp only [dn, reduceCtorEq, va_map, hri, hb, hp4, hv', hvw, reduceIte] at hc) <;> (try (exfalso; first | contradiction | omega)))
        | (refine st_call (by rfl) (by simp only [dn, reduceCtorEq, va_map, hri, hb, hp4, hv', hvw, reduceIte] <;> rfl) ?_ (by simp only [out_fstep, out_last, out_fby, out_who, hwho, out_gref, hrf, out_words, out_nextP, out_sI] <;> rfl) (by simp only [dn] <;> rfl) ?_
           focus (first | exact ⟨F, M, rfl, hM⟩ | exact ⟨_, rfl⟩ | exact ⟨_, _, _, _, _, _, _, _, _, _, _, _, _, _, rfl⟩ | exact ⟨_, rfl, hoW⟩ | exact ⟨_, _, _, _, _, _, _, _, _, _, _, _, _, _, _, rfl⟩ | exact pre_si9 hl9)))
      | (refine st_ret (by simp only [dn, reduceCtorEq, va_map] <;> rfl) ?_
         exact ⟨(LsE.mk s H n ck ch ci cl M ks hs is ls), F, rfl, rfl⟩)
      | fail "no step")
theorem hctsUs : ∀ (ci : Nat) (c : Ctr U), ctsUs[ci]? = some c → c.Holds objs Try.prog := by
 intro ci c h
 match ci, h with
 | 0, h => cases h; exact hLive
 | 1, h => cases h; exact hFStep
 | 2, h => cases h; exact hLast
 | 3, h => cases h; exact hFBy
 | 4, h => cases h; exact hWho
 | 5, h => cases h; exact hGetRef
 | 6, h => cases h; exact hWords
 | 7, h => cases h; exact hNextP
 | 8, h => cases h; exact hSameInts
 | n + 9, h => cases h
theorem hLStep : cLStep.Holds objs Try.prog := runCtr_holdsm (X := { cxUs Try.prog with hints := hsLStep }) objsOk mixed hctsUs (callable _ Try.func49 (by kernel_rfl) (by kernel_rfl)) (by rintro ins outs _ ⟨E, F, key, nx, s, rfl, _⟩ ⟨E', F', _, rfl⟩; rfl) (by rw [rLStep]; exact vLStep _ _)
end Go.Proofs.Ytbmbiiiacajolaa
