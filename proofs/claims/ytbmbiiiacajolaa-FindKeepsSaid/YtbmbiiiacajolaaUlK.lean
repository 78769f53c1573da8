/- Texts of this proof. -/
import Derived.Test.YtbmbiiiacajolaaUkK
import Derived.Test.YtbmbiiiacajolaaAuK
import Derived.Test.YtbmbiiiacajolaaB2K
namespace Go.Proofs.Ytbmbiiiacajolaa
set_option linter.unusedVariables false
set_option linter.unusedSimpArgs false
set_option linter.unusedSectionVars false
open Go Go.RowKit
theorem al_of {X : KL} {nx : Int → Int → Int} {low : Int → Int} {key : Int} {o : Option FindSt} (h : X.ok) (ho : fOk X nx low key o) : fAl X nx low key 0 o := by
 intro F e
 obtain ⟨s, a, b, c⟩ := ho F e
 obtain ⟨q, hq⟩ := KL.pot_some (X := X) (nx := nx) (low := low) s
 exact ⟨s, q, a, c, hq, by have := (KL.pot_le h a hq).2.2; omega⟩
set_option maxRecDepth 10000
set_option maxHeartbeats 16000000
theorem bFk1m (P : Program) (hs' : List (Nat × Nat × List Nat)) {h : Int} {g : Nat → Nat → Int} {k : Nat} {c : Int} {gl : Nat → Nat → Int} {kl : Nat} {c6 p s H n ck ch ci cl : Int} {M : MemSt} {ks hs is ls : List Int} {M0 : MemSt} {ls0 : List Int} {o0 o1 o2 : Option FindSt} {k0 k1 k2 : Int} {nx : Int → Int → Int} {i q m : Int} (hn1 : n = k) (hH1 : H = 1 + p) (hkl : kl ≤ 300) (i0 : 0 ≤ i) (hi : i < kl) (hG : (LsE.mk s H n ck ch ci cl M ks hs is ls).good nx) (f0 : fOk (KL.mk' n H ks hs is) nx (nthL ls) k0 o0) (f1 : fOk (KL.mk' n H ks hs is) nx (nthL ls) k1 o1) (f2 : fOk (KL.mk' n H ks hs is) nx (nthL ls) k2 o2) (r0 : (gl i.toNat 0).emod 400 = m) (rq : m.tmod 4 = 3) (qq : m.tdiv 4 = q) (q0 : 0 ≤ q) (q1 : q < 100) :
 tFKeepsL2.sat { cxUi P [lFk1, lFk2, lFk3] with hints := hs' } (ctrR cFKeeps) [.i h, .f g k, .i k, .i c, .f gl kl, .i kl, .i c6, .b true, .i p, .i (9 + 2 * s + H), .i (9 + 2 * s), .i H, .i 0, .i 1, .i s, .i (1 + s), .i (1 + 2 * s), .i 99, .i (2 + 2 * s), .i (3 + 2 * s), .i 3, .i (6 + 2 * s), .i n, .i ck, .i ch, .i ci, .i cl, .u (.mem M0), .l ks, .l hs, .l is, .l ls0, .u (.mem M), .l ls, .u (fO o0), .u (fO o1), .u (fO o2), .i k0, .i k1, .i k2, .i i] := by
 have wq : IntKind.i64.wrap q = q := wrap_small (by omega) (by omega)
 have mg := marks_good hG q0
 unfold tFKeepsL2
 repeat' (first
  | (refine st_callm (by rfl) (by simp only [dn, reduceCtorEq, va_map, r0, rq, qq, wq] <;> rfl) ?_ (fun o env' hm he => ?_)
     focus exact ⟨⟨s, H, n, ck, ch, ci, cl, M, ks, hs, is, ls⟩, q, nx, rfl, hG, q0, by omega⟩
     obtain ⟨E2, k2', e1, rfl⟩ := hm
     obtain ⟨rfl, rfl⟩ := lse_inj (E := ⟨s, H, n, ck, ch, ci, cl, M, ks, hs, is, ls⟩) e1
     simp only [List.cons_append, List.nil_append] at he
     subst he)
  | (first
    | (with_reducible refine st_need ?_ ?_
       focus (simp only [dn, reduceCtorEq, va_map, r0, rq, qq, wq] <;> first | omega | assumption))
    | (with_reducible refine st_and ?_ ?_)
    | (with_reducible exact st_ok)
    | (with_reducible refine st_br (fun hc => ?_) (fun hc => ?_) <;> (simp only [dn, reduceCtorEq, va_map, r0, rq, qq, wq] at hc) <;> (try (exfalso; first | contradiction | omega)))
    | (refine st_call (by rfl) (by simp only [dn, reduceCtorEq, va_map, r0, rq, qq, wq] <;> rfl) ?_ (by simp only [out_pick, r0] <;> rfl) (by simp only [dn] <;> rfl) ?_
       focus (first | exact pre_pick (by decide) (by decide))))
  | (refine st_back (by rfl) (by simp only [dn, reduceCtorEq, va_map, r0, rq, qq, wq] <;> rfl) (by simp only [dn] <;> rfl) (by rfl) ?_ ?_
     focus (rw [wrap_small (n := i + 1) (by omega) (by omega)]
            exact ⟨h, g, k, c, gl, kl, c6, p, ⟨s, H, n, ck, ch, ci, cl, marksM ⟨s, H, n, ck, ch, ci, cl, M, ks, hs, is, ls⟩ q, ks, hs, is, marksL ⟨s, H, n, ck, ch, ci, cl, M, ks, hs, is, ls⟩ q⟩, M0, ls0, o0, o1, o2, k0, k1, k2, i + 1, nx, rfl, ⟨hn1, hH1⟩, hkl, by omega, by omega, mg.1, mg.2 _ _ f0, mg.2 _ _ f1, mg.2 _ _ f2⟩)
     focus (rw [wrap_small (n := i + 1) (by omega) (by omega)]; show ((kl : Int) - (i + 1)).toNat < ((kl : Int) - i).toNat; omega))
  | fail "no step")
theorem bFk30n (P : Program) (hs' : List (Nat × Nat × List Nat)) {h : Int} {g : Nat → Nat → Int} {k : Nat} {c : Int} {gl : Nat → Nat → Int} {kl : Nat} {c6 p s H n ck ch ci cl : Int} {M : MemSt} {ks hs is ls : List Int} {M0 : MemSt} {ls0 : List Int} {o0 o1 o2 : Option FindSt} {k0 k1 k2 : Int} {nx : Int → Int → Int} {x1 x3 x4 x5 x9 y1 y2 y3 y4 : EV U} {st : Int} (hn1 : n = k) (hH1 : H = 1 + p) (st0 : 0 ≤ st) (hG : (LsE.mk s H n ck ch ci cl M ks hs is ls).good nx) (g3 : (0 : Int) < 1 → fOk (KL.mk' n H ks hs is) nx (nthL ls) k1 o1) (g4 : (0 : Int) < 2 → fOk (KL.mk' n H ks hs is) nx (nthL ls) k2 o2) :
 tFKeepsL0.sat { cxUi P [lFk1, lFk2, lFk3] with hints := hs' } (ctrR cFKeeps) [.i h, .f g k, .i k, .i c, .f gl kl, .i kl, .i c6, .b true, .i p, .i (9 + 2 * s + H), .i (9 + 2 * s), .i H, .i 0, .i 1, .i s, .i (1 + s), .i (1 + 2 * s), .i 99, .i (2 + 2 * s), .i (3 + 2 * s), .i 3, .i (6 + 2 * s), .i n, .i ck, .i ch, .i ci, .i cl, .u (.mem M0), .l ks, .l hs, .l is, .l ls0, x1, .l ls, x3, x4, x5, .i k0, .i k1, .i k2, x9, y1, y2, y3, y4, .i 0, .u (.mem M), .u .findNil, .u (fO o1), .u (fO o2), .i st] := by
 unfold tFKeepsL0
 repeat' (first
  | (first
    | (with_reducible refine st_need ?_ ?_
       focus (simp only [dn, reduceCtorEq, va_map] <;> first | omega | assumption))
    | (with_reducible refine st_and ?_ ?_)
    | (with_reducible exact st_ok)
    | (with_reducible refine st_br (fun hc => ?_) (fun hc => ?_) <;> (simp only [dn, reduceCtorEq, va_map] at hc) <;> (try (exfalso; first | contradiction | omega)))
    | (refine st_call (by rfl) (by simp only [dn, reduceCtorEq, va_map] <;> rfl) ?_ (by rfl <;> rfl) (by simp only [dn] <;> rfl) ?_
       focus (first | rfl)))
  | (refine st_back (by rfl) (by simp only [dn, reduceCtorEq, va_map] <;> rfl) (by simp only [dn] <;> rfl) (by rfl) ?_ ?_
     focus (exact ⟨h, g, k, c, gl, kl, c6, p, ⟨s, H, n, ck, ch, ci, cl, M, ks, hs, is, ls⟩, M0, ls0, x1, x3, x4, x5, x9, k0, k1, k2, none, o1, o2, 0 + 1, nx, rfl, ⟨hn1, hH1⟩, by omega, by omega, hG, fun q => by omega, fun q => by first | (exfalso; omega) | exact g3 (by omega), fun q => by first | (exfalso; omega) | exact g4 (by omega)⟩)
     focus (show (3 - ((0 : Int) + 1)).toNat < (3 - (0 : Int)).toNat; decide))
  | fail "no step")
theorem bFk30s (P : Program) (hs' : List (Nat × Nat × List Nat)) {h : Int} {g : Nat → Nat → Int} {k : Nat} {c : Int} {gl : Nat → Nat → Int} {kl : Nat} {c6 p s H n ck ch ci cl : Int} {M : MemSt} {ks hs is ls : List Int} {M0 : MemSt} {ls0 : List Int} {o0 o1 o2 : Option FindSt} {k0 k1 k2 : Int} {nx : Int → Int → Int} {x1 x3 x4 x5 x9 y1 y2 y3 y4 : EV U} {st : Int} {F : FindSt} (hn1 : n = k) (hH1 : H = 1 + p) (st0 : 0 ≤ st) (hG : (LsE.mk s H n ck ch ci cl M ks hs is ls).good nx) (hal : fAl (KL.mk' n H ks hs is) nx (nthL ls) k0 st (some F)) (g3 : (0 : Int) < 1 → fOk (KL.mk' n H ks hs is) nx (nthL ls) k1 o1) (g4 : (0 : Int) < 2 → fOk (KL.mk' n H ks hs is) nx (nthL ls) k2 o2) :
 tFKeepsL0.sat { cxUi P [lFk1, lFk2, lFk3] with hints := hs' } (ctrR cFKeeps) [.i h, .f g k, .i k, .i c, .f gl kl, .i kl, .i c6, .b true, .i p, .i (9 + 2 * s + H), .i (9 + 2 * s), .i H, .i 0, .i 1, .i s, .i (1 + s), .i (1 + 2 * s), .i 99, .i (2 + 2 * s), .i (3 + 2 * s), .i 3, .i (6 + 2 * s), .i n, .i ck, .i ch, .i ci, .i cl, .u (.mem M0), .l ks, .l hs, .l is, .l ls0, x1, .l ls, x3, x4, x5, .i k0, .i k1, .i k2, x9, y1, y2, y3, y4, .i 0, .u (.mem M), .u (.find F), .u (fO o1), .u (fO o2), .i st] := by
 have hE := hG.f
 obtain ⟨hX, hs0, hk, hh, hi, hl, hM, hkw⟩ := id hE
 have hX : (KL.mk' n H ks hs is).ok := hX
 have n0 : 0 ≤ n := hX.n0
 have n9 : n ≤ 9 := hX.n9
 have H1 : 1 ≤ H := hX.H1
 have H4 : H ≤ 4 := hX.H4
 have hs1 : s = if n < 1 then 1 else n := hs0
 have hs2 : 1 ≤ s ∧ s ≤ 9 ∧ n ≤ s := by split at hs1 <;> omega
 have hk : n ≤ ks.length := hk
 have hh : n ≤ hs.length := hh
 have hi : n ≤ is.length := hi
 have hl : n ≤ ls.length := hl
 obtain ⟨fs, q, a1, a3, hq, hst⟩ := hal F rfl
 have p4 : p = 0 ∨ p = 1 ∨ p = 2 ∨ p = 3 := by omega
 have b1 : IntKind.i64.wrap (1 + p) = 1 + p := wrap_small (by omega) (by omega)
 have b2 : IntKind.i64.wrap (2 * (1 + p)) = 2 * (1 + p) := wrap_small (by omega) (by omega)
 have b3 : IntKind.i64.wrap (2 * (k : Int)) = 2 * (k : Int) := wrap_small (by omega) (by omega)
 have b4 : IntKind.i64.wrap (2 * (k : Int) + 1) = 2 * (k : Int) + 1 := wrap_small (by omega) (by omega)
 obtain ⟨B, hB⟩ : ∃ B, B = 2 * (1 + p) * (2 * (k : Int) + 1) := ⟨_, rfl⟩
 have hBb : 0 ≤ B ∧ B ≤ 1000 := by rw [hB]; rcases p4 with rfl | rfl | rfl | rfl <;> omega
 have b5 : IntKind.i64.wrap (2 * (1 + p) * (2 * (k : Int) + 1)) = B := by rw [← hB]; exact wrap_small (by omega) (by omega)
 have hst : st + q ≤ B := by
  have hst : st + q ≤ 2 * (H * (2 * n + 1)) := hst
  rw [hH1, hn1, ← Int.mul_assoc, ← hB] at hst; exact hst
 have hpl := KL.pot_le hX a1 hq
 have hq0 : 0 ≤ q := hpl.1
 have hmu : 2 * ((1 + p) * (2 * n + 1)) = B := by rw [hB, hn1, Int.mul_assoc]
 by_cases hov : fs = .over
 · subst hov
   have hE0 : errF F = 0 := err_over a3
   unfold tFKeepsL0
   repeat' (first
    | (refine st_callm (by rfl) (by simp only [dn, reduceCtorEq, va_map, hE0] <;> rfl) ?_ (fun o env' hm he => ?_)
       focus exact ⟨⟨s, H, n, ck, ch, ci, cl, M, ks, hs, is, ls⟩, F, k0, rfl, hE, a3⟩
       obtain ⟨E2, F2, key2, e1, rfl⟩ := hm
       obtain rfl := lseE_inj (E := ⟨s, H, n, ck, ch, ci, cl, M, ks, hs, is, ls⟩) (F := F) e1
       simp only [List.cons_append, List.nil_append] at he
       subst he)
    | (first
      | (with_reducible refine st_need ?_ ?_
         focus (simp only [dn, reduceCtorEq, va_map, hE0] <;> first | omega | assumption))
      | (with_reducible refine st_and ?_ ?_)
      | (with_reducible exact st_ok)
      | (with_reducible refine st_br (fun hc => ?_) (fun hc => ?_) <;> (simp only [dn, reduceCtorEq, va_map, hE0] at hc) <;> (try (exfalso; first | contradiction | omega)))
      | (refine st_call (by rfl) (by simp only [dn, reduceCtorEq, va_map, hE0] <;> rfl) ?_ (by simp only [out_ferr, hE0] <;> rfl) (by simp only [dn] <;> rfl) ?_
         focus (first | exact ⟨_, rfl⟩)))
    | (refine st_back (by rfl) (by simp only [dn, reduceCtorEq, va_map] <;> rfl) (by simp only [dn] <;> rfl) (by rfl) ?_ ?_
       focus (exact ⟨h, g, k, c, gl, kl, c6, p, ⟨s, H, n, ck, ch, ci, cl, M, ks, hs, is, ls⟩, M0, ls0, x1, x3, x4, x5, x9, k0, k1, k2, (some F), o1, o2, 0 + 1, nx, rfl, ⟨hn1, hH1⟩, by omega, by omega, hG, fun q => by omega, fun q => by first | (exfalso; omega) | exact g3 (by omega), fun q => by first | (exfalso; omega) | exact g4 (by omega)⟩)
       focus (show (3 - ((0 : Int) + 1)).toNat < (3 - (0 : Int)).toNat; decide))
    | fail "no step")
 · have hq1 : 1 ≤ q := hpl.2.1 hov
   have sg := step_good (E := ⟨s, H, n, ck, ch, ci, cl, M, ks, hs, is, ls⟩) hG a1 hov a3
   obtain ⟨q', hq', hq2⟩ := KL.pot_step hX hG.I a1 hov hq
   have hE0 : errF F = 14 := err_busy a3 hov
   have hlt : ¬ st = B := by omega
   have wst : IntKind.i64.wrap (st + 1) = st + 1 := wrap_small (by omega) (by omega)
   have hst2 : st + 1 + q' ≤ 2 * ((KL.mk' n H ks hs is).H * (2 * (KL.mk' n H ks hs is).n + 1)) := by
    show st + 1 + q' ≤ 2 * (H * (2 * n + 1))
    rw [hH1, hmu]; omega
   unfold tFKeepsL0
   repeat' (first
    | (refine st_callm (by rfl) (by simp only [dn, reduceCtorEq, va_map, hE0] <;> rfl) ?_ (fun o env' hm he => ?_)
       focus exact ⟨⟨s, H, n, ck, ch, ci, cl, M, ks, hs, is, ls⟩, F, k0, nx, fs, rfl, hG, a1, hov, a3⟩
       obtain ⟨E2, F2, e1, rfl⟩ := hm
       obtain ⟨rfl, rfl⟩ := lseF_inj (E := ⟨s, H, n, ck, ch, ci, cl, M, ks, hs, is, ls⟩) (F := F) e1
       simp only [List.cons_append, List.nil_append] at he
       subst he)
    | (first
      | (with_reducible refine st_need ?_ ?_
         focus (simp only [dn, reduceCtorEq, va_map, hE0, b1, b2, b3, b4, b5] <;> first | omega | assumption))
      | (with_reducible refine st_and ?_ ?_)
      | (with_reducible exact st_ok)
      | (with_reducible refine st_br (fun hc => ?_) (fun hc => ?_) <;> (simp only [dn, reduceCtorEq, va_map, hE0, b1, b2, b3, b4, b5] at hc) <;> (try (exfalso; first | contradiction | omega)))
      | (refine st_call (by rfl) (by simp only [dn, reduceCtorEq, va_map, hE0, b1, b2, b3, b4, b5] <;> rfl) ?_ (by simp only [out_ferr, hE0] <;> rfl) (by simp only [dn] <;> rfl) ?_
         focus (first | exact ⟨_, rfl⟩)))
    | (refine st_back (by rfl) (by simp only [dn, reduceCtorEq, va_map] <;> rfl) (by simp only [dn] <;> rfl) (by rfl) ?_ ?_
       focus (rw [wst]
              exact ⟨h, g, k, c, gl, kl, c6, p, ⟨s, H, n, ck, ch, ci, cl, (F.step M).2, ks, hs, is, ls⟩, M0, ls0, x1, x3, x4, x5, x9, y1, y2, y3, y4, k0, k1, k2, (some (F.step M).1), o1, o2, 0, st + 1, _, rfl, ⟨hn1, hH1⟩, by omega, by omega, by omega, sg.1, fun _ G e => by cases e; exact ⟨_, q', sg.2.1, sg.2.2.1, hq2, hst2⟩, fun q => by omega, fun q => by omega, fun q => sg.2.2.2 _ _ (g3 q), fun q => sg.2.2.2 _ _ (g4 q)⟩)
       focus (rw [wst]; show (2 * ((1 + p) * (2 * n + 1)) - (st + 1)).toNat < (2 * ((1 + p) * (2 * n + 1)) - st).toNat; rw [hmu]; omega))
    | fail "no step")
theorem bFk31n (P : Program) (hs' : List (Nat × Nat × List Nat)) {h : Int} {g : Nat → Nat → Int} {k : Nat} {c : Int} {gl : Nat → Nat → Int} {kl : Nat} {c6 p s H n ck ch ci cl : Int} {M : MemSt} {ks hs is ls : List Int} {M0 : MemSt} {ls0 : List Int} {o0 o1 o2 : Option FindSt} {k0 k1 k2 : Int} {nx : Int → Int → Int} {x1 x3 x4 x5 x9 y1 y2 y3 y4 : EV U} {st : Int} (hn1 : n = k) (hH1 : H = 1 + p) (st0 : 0 ≤ st) (hG : (LsE.mk s H n ck ch ci cl M ks hs is ls).good nx) (g3 : (1 : Int) < 1 → fOk (KL.mk' n H ks hs is) nx (nthL ls) k1 o1) (g4 : (1 : Int) < 2 → fOk (KL.mk' n H ks hs is) nx (nthL ls) k2 o2) :
 tFKeepsL0.sat { cxUi P [lFk1, lFk2, lFk3] with hints := hs' } (ctrR cFKeeps) [.i h, .f g k, .i k, .i c, .f gl kl, .i kl, .i c6, .b true, .i p, .i (9 + 2 * s + H), .i (9 + 2 * s), .i H, .i 0, .i 1, .i s, .i (1 + s), .i (1 + 2 * s), .i 99, .i (2 + 2 * s), .i (3 + 2 * s), .i 3, .i (6 + 2 * s), .i n, .i ck, .i ch, .i ci, .i cl, .u (.mem M0), .l ks, .l hs, .l is, .l ls0, x1, .l ls, x3, x4, x5, .i k0, .i k1, .i k2, x9, y1, y2, y3, y4, .i 1, .u (.mem M), .u (fO o0), .u .findNil, .u (fO o2), .i st] := by
 unfold tFKeepsL0
 repeat' (first
  | (first
    | (with_reducible refine st_need ?_ ?_
       focus (simp only [dn, reduceCtorEq, va_map] <;> first | omega | assumption))
    | (with_reducible refine st_and ?_ ?_)
    | (with_reducible exact st_ok)
    | (with_reducible refine st_br (fun hc => ?_) (fun hc => ?_) <;> (simp only [dn, reduceCtorEq, va_map] at hc) <;> (try (exfalso; first | contradiction | omega)))
    | (refine st_call (by rfl) (by simp only [dn, reduceCtorEq, va_map] <;> rfl) ?_ (by rfl <;> rfl) (by simp only [dn] <;> rfl) ?_
       focus (first | rfl)))
  | (refine st_back (by rfl) (by simp only [dn, reduceCtorEq, va_map] <;> rfl) (by simp only [dn] <;> rfl) (by rfl) ?_ ?_
     focus (exact ⟨h, g, k, c, gl, kl, c6, p, ⟨s, H, n, ck, ch, ci, cl, M, ks, hs, is, ls⟩, M0, ls0, x1, x3, x4, x5, x9, k0, k1, k2, o0, none, o2, 1 + 1, nx, rfl, ⟨hn1, hH1⟩, by omega, by omega, hG, fun q => by omega, fun q => by first | (exfalso; omega) | exact g3 (by omega), fun q => by first | (exfalso; omega) | exact g4 (by omega)⟩)
     focus (show (3 - ((1 : Int) + 1)).toNat < (3 - (1 : Int)).toNat; decide))
  | fail "no step")
theorem bFk31s (P : Program) (hs' : List (Nat × Nat × List Nat)) {h : Int} {g : Nat → Nat → Int} {k : Nat} {c : Int} {gl : Nat → Nat → Int} {kl : Nat} {c6 p s H n ck ch ci cl : Int} {M : MemSt} {ks hs is ls : List Int} {M0 : MemSt} {ls0 : List Int} {o0 o1 o2 : Option FindSt} {k0 k1 k2 : Int} {nx : Int → Int → Int} {x1 x3 x4 x5 x9 y1 y2 y3 y4 : EV U} {st : Int} {F : FindSt} (hn1 : n = k) (hH1 : H = 1 + p) (st0 : 0 ≤ st) (hG : (LsE.mk s H n ck ch ci cl M ks hs is ls).good nx) (hal : fAl (KL.mk' n H ks hs is) nx (nthL ls) k1 st (some F)) (g3 : (1 : Int) < 1 → fOk (KL.mk' n H ks hs is) nx (nthL ls) k1 o1) (g4 : (1 : Int) < 2 → fOk (KL.mk' n H ks hs is) nx (nthL ls) k2 o2) :
 tFKeepsL0.sat { cxUi P [lFk1, lFk2, lFk3] with hints := hs' } (ctrR cFKeeps) [.i h, .f g k, .i k, .i c, .f gl kl, .i kl, .i c6, .b true, .i p, .i (9 + 2 * s + H), .i (9 + 2 * s), .i H, .i 0, .i 1, .i s, .i (1 + s), .i (1 + 2 * s), .i 99, .i (2 + 2 * s), .i (3 + 2 * s), .i 3, .i (6 + 2 * s), .i n, .i ck, .i ch, .i ci, .i cl, .u (.mem M0), .l ks, .l hs, .l is, .l ls0, x1, .l ls, x3, x4, x5, .i k0, .i k1, .i k2, x9, y1, y2, y3, y4, .i 1, .u (.mem M), .u (fO o0), .u (.find F), .u (fO o2), .i st] := by
 have hE := hG.f
 obtain ⟨hX, hs0, hk, hh, hi, hl, hM, hkw⟩ := id hE
 have hX : (KL.mk' n H ks hs is).ok := hX
 have n0 : 0 ≤ n := hX.n0
 have n9 : n ≤ 9 := hX.n9
 have H1 : 1 ≤ H := hX.H1
 have H4 : H ≤ 4 := hX.H4
 have hs1 : s = if n < 1 then 1 else n := hs0
 have hs2 : 1 ≤ s ∧ s ≤ 9 ∧ n ≤ s := by split at hs1 <;> omega
 have hk : n ≤ ks.length := hk
 have hh : n ≤ hs.length := hh
 have hi : n ≤ is.length := hi
 have hl : n ≤ ls.length := hl
 obtain ⟨fs, q, a1, a3, hq, hst⟩ := hal F rfl
 have p4 : p = 0 ∨ p = 1 ∨ p = 2 ∨ p = 3 := by omega
 have b1 : IntKind.i64.wrap (1 + p) = 1 + p := wrap_small (by omega) (by omega)
 have b2 : IntKind.i64.wrap (2 * (1 + p)) = 2 * (1 + p) := wrap_small (by omega) (by omega)
 have b3 : IntKind.i64.wrap (2 * (k : Int)) = 2 * (k : Int) := wrap_small (by omega) (by omega)
 have b4 : IntKind.i64.wrap (2 * (k : Int) + 1) = 2 * (k : Int) + 1 := wrap_small (by omega) (by omega)
 obtain ⟨B, hB⟩ : ∃ B, B = 2 * (1 + p) * (2 * (k : Int) + 1) := ⟨_, rfl⟩
 have hBb : 0 ≤ B ∧ B ≤ 1000 := by rw [hB]; rcases p4 with rfl | rfl | rfl | rfl <;> omega
 have b5 : IntKind.i64.wrap (2 * (1 + p) * (2 * (k : Int) + 1)) = B := by rw [← hB]; exact wrap_small (by omega) (by omega)
 have hst : st + q ≤ B := by
  have hst : st + q ≤ 2 * (H * (2 * n + 1)) := hst
  rw [hH1, hn1, ← Int.mul_assoc, ← hB] at hst; exact hst
 have hpl := KL.pot_le hX a1 hq
 have hq0 : 0 ≤ q := hpl.1
 have hmu : 2 * ((1 + p) * (2 * n + 1)) = B := by rw [hB, hn1, Int.mul_assoc]
 by_cases hov : fs = .over
 · subst hov
   have hE0 : errF F = 0 := err_over a3
   unfold tFKeepsL0
   repeat' (first
    | (refine st_callm (by rfl) (by simp only [dn, reduceCtorEq, va_map, hE0] <;> rfl) ?_ (fun o env' hm he => ?_)
       focus exact ⟨⟨s, H, n, ck, ch, ci, cl, M, ks, hs, is, ls⟩, F, k1, rfl, hE, a3⟩
       obtain ⟨E2, F2, key2, e1, rfl⟩ := hm
       obtain rfl := lseE_inj (E := ⟨s, H, n, ck, ch, ci, cl, M, ks, hs, is, ls⟩) (F := F) e1
       simp only [List.cons_append, List.nil_append] at he
       subst he)
    | (first
      | (with_reducible refine st_need ?_ ?_
         focus (simp only [dn, reduceCtorEq, va_map, hE0] <;> first | omega | assumption))
      | (with_reducible refine st_and ?_ ?_)
      | (with_reducible exact st_ok)
      | (with_reducible refine st_br (fun hc => ?_) (fun hc => ?_) <;> (simp only [dn, reduceCtorEq, va_map, hE0] at hc) <;> (try (exfalso; first | contradiction | omega)))
      | (refine st_call (by rfl) (by simp only [dn, reduceCtorEq, va_map, hE0] <;> rfl) ?_ (by simp only [out_ferr, hE0] <;> rfl) (by simp only [dn] <;> rfl) ?_
         focus (first | exact ⟨_, rfl⟩)))
    | (refine st_back (by rfl) (by simp only [dn, reduceCtorEq, va_map] <;> rfl) (by simp only [dn] <;> rfl) (by rfl) ?_ ?_
       focus (exact ⟨h, g, k, c, gl, kl, c6, p, ⟨s, H, n, ck, ch, ci, cl, M, ks, hs, is, ls⟩, M0, ls0, x1, x3, x4, x5, x9, k0, k1, k2, o0, (some F), o2, 1 + 1, nx, rfl, ⟨hn1, hH1⟩, by omega, by omega, hG, fun q => by omega, fun q => by first | (exfalso; omega) | exact g3 (by omega), fun q => by first | (exfalso; omega) | exact g4 (by omega)⟩)
       focus (show (3 - ((1 : Int) + 1)).toNat < (3 - (1 : Int)).toNat; decide))
    | fail "no step")
 · have hq1 : 1 ≤ q := hpl.2.1 hov
   have sg := step_good (E := ⟨s, H, n, ck, ch, ci, cl, M, ks, hs, is, ls⟩) hG a1 hov a3
   obtain ⟨q', hq', hq2⟩ := KL.pot_step hX hG.I a1 hov hq
   have hE0 : errF F = 14 := err_busy a3 hov
   have hlt : ¬ st = B := by omega
   have wst : IntKind.i64.wrap (st + 1) = st + 1 := wrap_small (by omega) (by omega)
   have hst2 : st + 1 + q' ≤ 2 * ((KL.mk' n H ks hs is).H * (2 * (KL.mk' n H ks hs is).n + 1)) := by
    show st + 1 + q' ≤ 2 * (H * (2 * n + 1))
    rw [hH1, hmu]; omega
   unfold tFKeepsL0
   repeat' (first
    | (refine st_callm (by rfl) (by simp only [dn, reduceCtorEq, va_map, hE0] <;> rfl) ?_ (fun o env' hm he => ?_)
       focus exact ⟨⟨s, H, n, ck, ch, ci, cl, M, ks, hs, is, ls⟩, F, k1, nx, fs, rfl, hG, a1, hov, a3⟩
       obtain ⟨E2, F2, e1, rfl⟩ := hm
       obtain ⟨rfl, rfl⟩ := lseF_inj (E := ⟨s, H, n, ck, ch, ci, cl, M, ks, hs, is, ls⟩) (F := F) e1
       simp only [List.cons_append, List.nil_append] at he
       subst he)
    | (first
      | (with_reducible refine st_need ?_ ?_
         focus (simp only [dn, reduceCtorEq, va_map, hE0, b1, b2, b3, b4, b5] <;> first | omega | assumption))
      | (with_reducible refine st_and ?_ ?_)
      | (with_reducible exact st_ok)
      | (with_reducible refine st_br (fun hc => ?_) (fun hc => ?_) <;> (simp only [dn, reduceCtorEq, va_map, hE0, b1, b2, b3, b4, b5] at hc) <;> (try (exfalso; first | contradiction | omega)))
      | (refine st_call (by rfl) (by simp only [dn, reduceCtorEq, va_map, hE0, b1, b2, b3, b4, b5] <;> rfl) ?_ (by simp only [out_ferr, hE0] <;> rfl) (by simp only [dn] <;> rfl) ?_
         focus (first | exact ⟨_, rfl⟩)))
    | (refine st_back (by rfl) (by simp only [dn, reduceCtorEq, va_map] <;> rfl) (by simp only [dn] <;> rfl) (by rfl) ?_ ?_
       focus (rw [wst]
              exact ⟨h, g, k, c, gl, kl, c6, p, ⟨s, H, n, ck, ch, ci, cl, (F.step M).2, ks, hs, is, ls⟩, M0, ls0, x1, x3, x4, x5, x9, y1, y2, y3, y4, k0, k1, k2, o0, (some (F.step M).1), o2, 1, st + 1, _, rfl, ⟨hn1, hH1⟩, by omega, by omega, by omega, sg.1, fun q => by omega, fun _ G e => by cases e; exact ⟨_, q', sg.2.1, sg.2.2.1, hq2, hst2⟩, fun q => by omega, fun q => by omega, fun q => sg.2.2.2 _ _ (g4 q)⟩)
       focus (rw [wst]; show (2 * ((1 + p) * (2 * n + 1)) - (st + 1)).toNat < (2 * ((1 + p) * (2 * n + 1)) - st).toNat; rw [hmu]; omega))
    | fail "no step")
theorem bFk32n (P : Program) (hs' : List (Nat × Nat × List Nat)) {h : Int} {g : Nat → Nat → Int} {k : Nat} {c : Int} {gl : Nat → Nat → Int} {kl : Nat} {c6 p s H n ck ch ci cl : Int} {M : MemSt} {ks hs is ls : List Int} {M0 : MemSt} {ls0 : List Int} {o0 o1 o2 : Option FindSt} {k0 k1 k2 : Int} {nx : Int → Int → Int} {x1 x3 x4 x5 x9 y1 y2 y3 y4 : EV U} {st : Int} (hn1 : n = k) (hH1 : H = 1 + p) (st0 : 0 ≤ st) (hG : (LsE.mk s H n ck ch ci cl M ks hs is ls).good nx) (g3 : (2 : Int) < 1 → fOk (KL.mk' n H ks hs is) nx (nthL ls) k1 o1) (g4 : (2 : Int) < 2 → fOk (KL.mk' n H ks hs is) nx (nthL ls) k2 o2) :
 tFKeepsL0.sat { cxUi P [lFk1, lFk2, lFk3] with hints := hs' } (ctrR cFKeeps) [.i h, .f g k, .i k, .i c, .f gl kl, .i kl, .i c6, .b true, .i p, .i (9 + 2 * s + H), .i (9 + 2 * s), .i H, .i 0, .i 1, .i s, .i (1 + s), .i (1 + 2 * s), .i 99, .i (2 + 2 * s), .i (3 + 2 * s), .i 3, .i (6 + 2 * s), .i n, .i ck, .i ch, .i ci, .i cl, .u (.mem M0), .l ks, .l hs, .l is, .l ls0, x1, .l ls, x3, x4, x5, .i k0, .i k1, .i k2, x9, y1, y2, y3, y4, .i 2, .u (.mem M), .u (fO o0), .u (fO o1), .u .findNil, .i st] := by
 unfold tFKeepsL0
 repeat' (first
  | (first
    | (with_reducible refine st_need ?_ ?_
       focus (simp only [dn, reduceCtorEq, va_map] <;> first | omega | assumption))
    | (with_reducible refine st_and ?_ ?_)
    | (with_reducible exact st_ok)
    | (with_reducible refine st_br (fun hc => ?_) (fun hc => ?_) <;> (simp only [dn, reduceCtorEq, va_map] at hc) <;> (try (exfalso; first | contradiction | omega)))
    | (refine st_call (by rfl) (by simp only [dn, reduceCtorEq, va_map] <;> rfl) ?_ (by rfl <;> rfl) (by simp only [dn] <;> rfl) ?_
       focus (first | rfl)))
  | (refine st_back (by rfl) (by simp only [dn, reduceCtorEq, va_map] <;> rfl) (by simp only [dn] <;> rfl) (by rfl) ?_ ?_
     focus (exact ⟨h, g, k, c, gl, kl, c6, p, ⟨s, H, n, ck, ch, ci, cl, M, ks, hs, is, ls⟩, M0, ls0, x1, x3, x4, x5, x9, k0, k1, k2, o0, o1, none, 2 + 1, nx, rfl, ⟨hn1, hH1⟩, by omega, by omega, hG, fun q => by omega, fun q => by first | (exfalso; omega) | exact g3 (by omega), fun q => by first | (exfalso; omega) | exact g4 (by omega)⟩)
     focus (show (3 - ((2 : Int) + 1)).toNat < (3 - (2 : Int)).toNat; decide))
  | fail "no step")
theorem bFk32s (P : Program) (hs' : List (Nat × Nat × List Nat)) {h : Int} {g : Nat → Nat → Int} {k : Nat} {c : Int} {gl : Nat → Nat → Int} {kl : Nat} {c6 p s H n ck ch ci cl : Int} {M : MemSt} {ks hs is ls : List Int} {M0 : MemSt} {ls0 : List Int} {o0 o1 o2 : Option FindSt} {k0 k1 k2 : Int} {nx : Int → Int → Int} {x1 x3 x4 x5 x9 y1 y2 y3 y4 : EV U} {st : Int} {F : FindSt} (hn1 : n = k) (hH1 : H = 1 + p) (st0 : 0 ≤ st) (hG : (LsE.mk s H n ck ch ci cl M ks hs is ls).good nx) (hal : fAl (KL.mk' n H ks hs is) nx (nthL ls) k2 st (some F)) (g3 : (2 : Int) < 1 → fOk (KL.mk' n H ks hs is) nx (nthL ls) k1 o1) (g4 : (2 : Int) < 2 → fOk (KL.mk' n H ks hs is) nx (nthL ls) k2 o2) :
 tFKeepsL0.sat { cxUi P [lFk1, lFk2, lFk3] with hints := hs' } (ctrR cFKeeps) [.i h, .f g k, .i k, .i c, .f gl kl, .i kl, .i c6, .b true, .i p, .i (9 + 2 * s + H), .i (9 + 2 * s), .i H, .i 0, .i 1, .i s, .i (1 + s), .i (1 + 2 * s), .i 99, .i (2 + 2 * s), .i (3 + 2 * s), .i 3, .i (6 + 2 * s), .i n, .i ck, .i ch, .i ci, .i cl, .u (.mem M0), .l ks, .l hs, .l is, .l ls0, x1, .l ls, x3, x4, x5, .i k0, .i k1, .i k2, x9, y1, y2, y3, y4, .i 2, .u (.mem M), .u (fO o0), .u (fO o1), .u (.find F), .i st] := by
 have hE := hG.f
 obtain ⟨hX, hs0, hk, hh, hi, hl, hM, hkw⟩ := id hE
 have hX : (KL.mk' n H ks hs is).ok := hX
 have n0 : 0 ≤ n := hX.n0
 have n9 : n ≤ 9 := hX.n9
 have H1 : 1 ≤ H := hX.H1
 have H4 : H ≤ 4 := hX.H4
 have hs1 : s = if n < 1 then 1 else n := hs0
 have hs2 : 1 ≤ s ∧ s ≤ 9 ∧ n ≤ s := by split at hs1 <;> omega
 have hk : n ≤ ks.length := hk
 have hh : n ≤ hs.length := hh
 have hi : n ≤ is.length := hi
 have hl : n ≤ ls.length := hl
 obtain ⟨fs, q, a1, a3, hq, hst⟩ := hal F rfl
 have p4 : p = 0 ∨ p = 1 ∨ p = 2 ∨ p = 3 := by omega
 have b1 : IntKind.i64.wrap (1 + p) = 1 + p := wrap_small (by omega) (by omega)
 have b2 : IntKind.i64.wrap (2 * (1 + p)) = 2 * (1 + p) := wrap_small (by omega) (by omega)
 have b3 : IntKind.i64.wrap (2 * (k : Int)) = 2 * (k : Int) := wrap_small (by omega) (by omega)
 have b4 : IntKind.i64.wrap (2 * (k : Int) + 1) = 2 * (k : Int) + 1 := wrap_small (by omega) (by omega)
 obtain ⟨B, hB⟩ : ∃ B, B = 2 * (1 + p) * (2 * (k : Int) + 1) := ⟨_, rfl⟩
 have hBb : 0 ≤ B ∧ B ≤ 1000 := by rw [hB]; rcases p4 with rfl | rfl | rfl | rfl <;> omega
 have b5 : IntKind.i64.wrap (2 * (1 + p) * (2 * (k : Int) + 1)) = B := by rw [← hB]; exact wrap_small (by omega) (by omega)
 have hst : st + q ≤ B := by
  have hst : st + q ≤ 2 * (H * (2 * n + 1)) := hst
  rw [hH1, hn1, ← Int.mul_assoc, ← hB] at hst; exact hst
 have hpl := KL.pot_le hX a1 hq
 have hq0 : 0 ≤ q := hpl.1
 have hmu : 2 * ((1 + p) * (2 * n + 1)) = B := by rw [hB, hn1, Int.mul_assoc]
 by_cases hov : fs = .over
 · subst hov
   have hE0 : errF F = 0 := err_over a3
   unfold tFKeepsL0
   repeat' (first
    | (refine st_callm (by rfl) (by simp only [dn, reduceCtorEq, va_map, hE0] <;> rfl) ?_ (fun o env' hm he => ?_)
       focus exact ⟨⟨s, H, n, ck, ch, ci, cl, M, ks, hs, is, ls⟩, F, k2, rfl, hE, a3⟩
       obtain ⟨E2, F2, key2, e1, rfl⟩ := hm
       obtain rfl := lseE_inj (E := ⟨s, H, n, ck, ch, ci, cl, M, ks, hs, is, ls⟩) (F := F) e1
       simp only [List.cons_append, List.nil_append] at he
       subst he)
    | (first
      | (with_reducible refine st_need ?_ ?_
         focus (simp only [dn, reduceCtorEq, va_map, hE0] <;> first | omega | assumption))
      | (with_reducible refine st_and ?_ ?_)
      | (with_reducible exact st_ok)
      | (with_reducible refine st_br (fun hc => ?_) (fun hc => ?_) <;> (simp only [dn, reduceCtorEq, va_map, hE0] at hc) <;> (try (exfalso; first | contradiction | omega)))
      | (refine st_call (by rfl) (by simp only [dn, reduceCtorEq, va_map, hE0] <;> rfl) ?_ (by simp only [out_ferr, hE0] <;> rfl) (by simp only [dn] <;> rfl) ?_
         focus (first | exact ⟨_, rfl⟩)))
    | (refine st_back (by rfl) (by simp only [dn, reduceCtorEq, va_map] <;> rfl) (by simp only [dn] <;> rfl) (by rfl) ?_ ?_
       focus (exact ⟨h, g, k, c, gl, kl, c6, p, ⟨s, H, n, ck, ch, ci, cl, M, ks, hs, is, ls⟩, M0, ls0, x1, x3, x4, x5, x9, k0, k1, k2, o0, o1, (some F), 2 + 1, nx, rfl, ⟨hn1, hH1⟩, by omega, by omega, hG, fun q => by omega, fun q => by first | (exfalso; omega) | exact g3 (by omega), fun q => by first | (exfalso; omega) | exact g4 (by omega)⟩)
       focus (show (3 - ((2 : Int) + 1)).toNat < (3 - (2 : Int)).toNat; decide))
    | fail "no step")
 · have hq1 : 1 ≤ q := hpl.2.1 hov
   have sg := step_good (E := ⟨s, H, n, ck, ch, ci, cl, M, ks, hs, is, ls⟩) hG a1 hov a3
   obtain ⟨q', hq', hq2⟩ := KL.pot_step hX hG.I a1 hov hq
   have hE0 : errF F = 14 := err_busy a3 hov
   have hlt : ¬ st = B := by omega
   have wst : IntKind.i64.wrap (st + 1) = st + 1 := wrap_small (by omega) (by omega)
   have hst2 : st + 1 + q' ≤ 2 * ((KL.mk' n H ks hs is).H * (2 * (KL.mk' n H ks hs is).n + 1)) := by
    show st + 1 + q' ≤ 2 * (H * (2 * n + 1))
    rw [hH1, hmu]; omega
   unfold tFKeepsL0
   repeat' (first
    | (refine st_callm (by rfl) (by simp only [dn, reduceCtorEq, va_map, hE0] <;> rfl) ?_ (fun o env' hm he => ?_)
       focus exact ⟨⟨s, H, n, ck, ch, ci, cl, M, ks, hs, is, ls⟩, F, k2, nx, fs, rfl, hG, a1, hov, a3⟩
       obtain ⟨E2, F2, e1, rfl⟩ := hm
       obtain ⟨rfl, rfl⟩ := lseF_inj (E := ⟨s, H, n, ck, ch, ci, cl, M, ks, hs, is, ls⟩) (F := F) e1
       simp only [List.cons_append, List.nil_append] at he
       subst he)
    | (first
      | (with_reducible refine st_need ?_ ?_
         focus (simp only [dn, reduceCtorEq, va_map, hE0, b1, b2, b3, b4, b5] <;> first | omega | assumption))
      | (with_reducible refine st_and ?_ ?_)
      | (with_reducible exact st_ok)
      | (with_reducible refine st_br (fun hc => ?_) (fun hc => ?_) <;> (simp only [dn, reduceCtorEq, va_map, hE0, b1, b2, b3, b4, b5] at hc) <;> (try (exfalso; first | contradiction | omega)))
      | (refine st_call (by rfl) (by simp only [dn, reduceCtorEq, va_map, hE0, b1, b2, b3, b4, b5] <;> rfl) ?_ (by simp only [out_ferr, hE0] <;> rfl) (by simp only [dn] <;> rfl) ?_
         focus (first | exact ⟨_, rfl⟩)))
    | (refine st_back (by rfl) (by simp only [dn, reduceCtorEq, va_map] <;> rfl) (by simp only [dn] <;> rfl) (by rfl) ?_ ?_
       focus (rw [wst]
              exact ⟨h, g, k, c, gl, kl, c6, p, ⟨s, H, n, ck, ch, ci, cl, (F.step M).2, ks, hs, is, ls⟩, M0, ls0, x1, x3, x4, x5, x9, y1, y2, y3, y4, k0, k1, k2, o0, o1, (some (F.step M).1), 2, st + 1, _, rfl, ⟨hn1, hH1⟩, by omega, by omega, by omega, sg.1, fun q => by omega, fun q => by omega, fun _ G e => by cases e; exact ⟨_, q', sg.2.1, sg.2.2.1, hq2, hst2⟩, fun q => by omega, fun q => by omega⟩)
       focus (rw [wst]; show (2 * ((1 + p) * (2 * n + 1)) - (st + 1)).toNat < (2 * ((1 + p) * (2 * n + 1)) - st).toNat; rw [hmu]; omega))
    | fail "no step")
theorem bFkC (P : Program) (hs' : List (Nat × Nat × List Nat)) : ∀ env, fk3Inv env → tFKeepsL0.sat { cxUi P [lFk1, lFk2, lFk3] with hints := hs' } (ctrR cFKeeps) env := by
 rintro env ⟨h, g, k, c, gl, kl, c6, p, ⟨s, H, n, ck, ch, ci, cl, M, ks, hs, is, ls⟩, M0, ls0, x1, x3, x4, x5, x9, y1, y2, y3, y4, k0, k1, k2, o0, o1, o2, d, st, nx, rfl, ⟨hn1, hH1⟩, d0, d3, st0, hG, g0, g1, g2, g3, g4⟩
 have hd : d = 0 ∨ d = 1 ∨ d = 2 := by omega
 rcases hd with rfl | rfl | rfl
 · rcases o0 with _ | F
   · exact bFk30n (o0 := none) P hs' hn1 hH1 st0 hG g3 g4
   · exact bFk30s (o0 := none) P hs' hn1 hH1 st0 hG (g0 rfl) g3 g4
 · rcases o1 with _ | F
   · exact bFk31n (o1 := none) P hs' hn1 hH1 st0 hG (fun q => by omega) g4
   · exact bFk31s (o1 := none) P hs' hn1 hH1 st0 hG (g1 rfl) (fun q => by omega) g4
 · rcases o2 with _ | F
   · exact bFk32n (o2 := none) P hs' hn1 hH1 st0 hG (fun q => by omega) (fun q => by omega)
   · exact bFk32s (o2 := none) P hs' hn1 hH1 st0 hG (g2 rfl) (fun q => by omega) (fun q => by omega)
theorem bFkB (P : Program) (hs' : List (Nat × Nat × List Nat)) : ∀ env, fk2Inv env → tFKeepsL1.sat { cxUi P [lFk1, lFk2, lFk3] with hints := hs' } (ctrR cFKeeps) env := by
 rintro env ⟨h, g, k, c, gl, kl, c6, p, ⟨s, H, n, ck, ch, ci, cl, M, ks, hs, is, ls⟩, M0, ls0, x1, x3, x4, x5, x9, k0, k1, k2, o0, o1, o2, d, nx, rfl, hK, d0, d3, hG, g0, g1, g2⟩
 have hX : (KL.mk' n H ks hs is).ok := hG.f.X
 unfold tFKeepsL1
 repeat' (first
  | (first
    | (with_reducible refine st_need ?_ ?_
       focus (simp only [dn, reduceCtorEq, va_map] <;> first | omega | assumption))
    | (with_reducible refine st_and ?_ ?_)
    | (with_reducible exact st_ok)
    | (with_reducible refine st_br (fun hc => ?_) (fun hc => ?_) <;> (simp only [dn, reduceCtorEq, va_map] at hc) <;> (try (exfalso; first | contradiction | omega)))
    | (refine st_call (by rfl) (by simp only [dn, reduceCtorEq, va_map] <;> rfl) ?_ (by rfl <;> rfl) (by simp only [dn] <;> rfl) ?_
       focus (first | rfl)))
  | (refine st_loop (by rfl) (by simp only [dn, reduceCtorEq, va_map] <;> rfl) (by simp only [dn] <;> rfl) ?_ (fun env' h => bFkC P hs' env' h)
     exact ⟨h, g, k, c, gl, kl, c6, p, ⟨s, H, n, ck, ch, ci, cl, M, ks, hs, is, ls⟩, M0, ls0, x1, x3, x4, x5, x9, _, _, _, _, k0, k1, k2, o0, o1, o2, d, 0, nx, rfl, hK, d0, by omega, by omega, hG, fun q => al_of hX (g0 (by omega)), fun q => al_of hX (g1 (by omega)), fun q => al_of hX (g2 (by omega)), fun q => g1 (by omega), fun q => g2 (by omega)⟩)
  | (refine st_ret (by simp only [dn, reduceCtorEq, va_map] <;> rfl) ?_
     rfl)
  | fail "no step")
theorem bFkA (P : Program) (hs' : List (Nat × Nat × List Nat)) : ∀ env, fk1Inv env → tFKeepsL2.sat { cxUi P [lFk1, lFk2, lFk3] with hints := hs' } (ctrR cFKeeps) env := by
 rintro env ⟨h, g, k, c, gl, kl, c6, p, ⟨s, H, n, ck, ch, ci, cl, M, ks, hs, is, ls⟩, M0, ls0, o0, o1, o2, k0, k1, k2, i, nx, rfl, hK, hkl, i0, i1, hG, f0, f1, f2⟩
 have hn1 : n = k := hK.n
 have hH1 : H = 1 + p := hK.H
 by_cases hi : i < kl
 · obtain ⟨m, r0⟩ : ∃ m, (gl i.toNat 0).emod 400 = m := ⟨_, rfl⟩
   have m0 : 0 ≤ m ∧ m < 400 := by rw [← r0]; exact ⟨Int.emod_nonneg _ (by decide), Int.emod_lt_of_pos _ (by decide)⟩
   have e1 : m.tmod 4 = m % 4 := Int.tmod_eq_emod_of_nonneg m0.1
   have e2 : m.tdiv 4 = m / 4 := Int.tdiv_eq_ediv_of_nonneg m0.1
   have hr : m.tmod 4 = 0 ∨ m.tmod 4 = 1 ∨ m.tmod 4 = 2 ∨ m.tmod 4 = 3 := by omega
   have q0 : 0 ≤ m / 4 := by omega
   have q1 : m / 4 < 100 := by omega
   rcases hr with rq | rq | rq | rq
   · rcases o0 with _ | F
     · exact bFk10n (o0 := none) P hs' hn1 hH1 hkl i0 hi hG f0 f1 f2 r0 rq e2 q0 q1
     · exact bFk10s (o0 := none) P hs' hn1 hH1 hkl i0 hi hG f0 f1 f2 r0 rq e2 q0 q1
   · rcases o1 with _ | F
     · exact bFk11n (o1 := none) P hs' hn1 hH1 hkl i0 hi hG f0 f1 f2 r0 rq e2 q0 q1
     · exact bFk11s (o1 := none) P hs' hn1 hH1 hkl i0 hi hG f0 f1 f2 r0 rq e2 q0 q1
   · rcases o2 with _ | F
     · exact bFk12n (o2 := none) P hs' hn1 hH1 hkl i0 hi hG f0 f1 f2 r0 rq e2 q0 q1
     · exact bFk12s (o2 := none) P hs' hn1 hH1 hkl i0 hi hG f0 f1 f2 r0 rq e2 q0 q1
   · exact bFk1m P hs' hn1 hH1 hkl i0 hi hG f0 f1 f2 r0 rq e2 q0 q1
 · unfold tFKeepsL2
   repeat' (first
    | (first
      | (with_reducible refine st_need ?_ ?_
         focus (simp only [dn, reduceCtorEq, va_map] <;> first | omega | assumption))
      | (with_reducible refine st_and ?_ ?_)
      | (with_reducible exact st_ok)
      | (with_reducible refine st_br (fun hc => ?_) (fun hc => ?_) <;> (simp only [dn, reduceCtorEq, va_map] at hc) <;> (try (exfalso; first | contradiction | omega)))
      | (refine st_call (by rfl) (by simp only [dn, reduceCtorEq, va_map] <;> rfl) ?_ (by rfl <;> rfl) (by simp only [dn] <;> rfl) ?_
         focus (first | rfl)))
    | (refine st_loop (by rfl) (by simp only [dn, reduceCtorEq, va_map] <;> rfl) (by simp only [dn] <;> rfl) ?_ (fun env' h => bFkB P hs' env' h)
       exact ⟨h, g, k, c, gl, kl, c6, p, ⟨s, H, n, ck, ch, ci, cl, M, ks, hs, is, ls⟩, M0, ls0, _, _, _, _, _, k0, k1, k2, o0, o1, o2, 0, nx, rfl, hK, by omega, by omega, hG, fun _ => f0, fun _ => f1, fun _ => f2⟩)
    | fail "no step")
theorem hctsUi : ∀ (ci : Nat) (c : Ctr U), ctsUi[ci]? = some c → c.Holds objs Try.prog := by
 intro ci c h
 match ci, h with
 | 0, h => cases h; exact hPick
 | 1, h => cases h; exact hLMade
 | 2, h => cases h; exact hLMarks
 | 3, h => cases h; exact hLStep
 | 4, h => cases h; exact hLEnd
 | 5, h => cases h; exact hFNew
 | 6, h => cases h; exact hFErr
 | 7, h => cases h; exact hAu
 | n + 8, h => cases h
theorem vFKeeps (P : Program) (hs' : List (Nat × Nat × List Nat)) : ∀ ins, ins.length = cFKeeps.nin → cFKeeps.pre ins → tFKeeps.sat { cxUi P [lFk1, lFk2, lFk3] with hints := hs' } (ctrR cFKeeps) ins := by
 rintro ins _ ⟨h, g, k, c, gl, kl, c6, rfl⟩
 obtain ⟨p, r0⟩ : ∃ p, h.emod 4 = p := ⟨_, rfl⟩
 have p0 : 0 ≤ p ∧ p < 4 := by rw [← r0]; exact ⟨Int.emod_nonneg _ (by decide), Int.emod_lt_of_pos _ (by decide)⟩
 have w1 : IntKind.i64.wrap (1 + p) = 1 + p := wrap_small (by omega) (by omega)
 unfold tFKeeps
 repeat' (first
  | (refine st_callm (by rfl) (by simp only [dn, reduceCtorEq, va_map, r0, w1] <;> rfl) ?_ (fun o env' hm he => ?_)
     focus exact ⟨1 + p, g, k, c, rfl, by omega, by omega, by omega⟩
     obtain ⟨⟨s, H, n, ck, ch, ci, cl, M, ks, hs, is, ls⟩, g', k', c', e1, rfl, e3, e4⟩ := hm
     simp only [List.cons.injEq, EV.i.injEq, EV.f.injEq, and_true] at e1
     obtain ⟨hH1, ⟨rfl, rfl⟩, _, rfl⟩ := e1
     simp only [LsE.env, List.cons_append, List.nil_append] at he
     subst he)
  | (first
    | (with_reducible refine st_need ?_ ?_
       focus (simp only [dn, reduceCtorEq, va_map, r0, w1] <;> first | omega | assumption))
    | (with_reducible refine st_and ?_ ?_)
    | (with_reducible exact st_ok)
    | (with_reducible refine st_br (fun hc => ?_) (fun hc => ?_) <;> (simp only [dn, reduceCtorEq, va_map, r0, w1] at hc) <;> (try (exfalso; first | contradiction | omega)))
    | (refine st_call (by rfl) (by simp only [dn, reduceCtorEq, va_map, r0, w1] <;> rfl) ?_ (by simp only [out_pick, r0, out_awk] <;> rfl) (by simp only [dn] <;> rfl) ?_
       focus (first | exact pre_pick (by decide) (by decide) | rfl)))
  | with_reducible refine mk_findNil rfl (by simp only [dn] <;> rfl) ?_
  | (refine st_loop (by rfl) (by simp only [dn, reduceCtorEq, va_map] <;> rfl) (by simp only [dn] <;> rfl) ?_ (fun env' h => bFkA P hs' env' h)
     exact ⟨h, g, k, c, gl, kl, c6, p, ⟨s, H, n, ck, ch, ci, cl, M, ks, hs, is, ls⟩, M, ls, none, none, none, 0, 0, 0, 0, _, rfl, ⟨e3, hH1.symm⟩, by omega, by omega, by omega, e4, fok_none, fok_none, fok_none⟩)
  | (refine st_ret (by simp only [dn, reduceCtorEq, va_map] <;> rfl) ?_
     rfl)
  | fail "no step")
theorem hFKeeps : cFKeeps.Holds objs Try.prog := runCtr_holds (X := { cxUi Try.prog [lFk1, lFk2, lFk3] with hints := hsFKeeps }) objsOk mixed hctsUi (callable _ Try.func7 (by kernel_rfl) (by kernel_rfl)) (by rintro ins _ ⟨_, _, _, _, _, _, _, rfl⟩; rfl) (by rw [rFKeeps]; exact vFKeeps _ _)
theorem findKeeps_walk {v1 v2 : Value} {n1 c1 n2 c2 : Nat} {g1 g2 : Nat → Nat → Int} (h : Int) (W : World) (h1 : SliceAt W rowTs v1 n1 c1 g1) (h2 : SliceAt W [some .i64] v2 n2 c2 g2) : Calls Try.prog 7 #[.int .i64 h, v1, v2] W fun e W' => e = .returned (.bool true) ∧ Below W.heap.size W W' :=
 hFKeeps.law rfl (ins := [.i h, .f g1 n1, .i n1, .i c1, .f g2 n2, .i n2, .i c2]) (ρ := [ptrOf v1, ptrOf v2]) (vals := [.int .i64 h, v1, v2]) rfl ⟨_, _, _, _, _, _, _, rfl⟩ rfl
  (DenL.cons ⟨fun _ _ => rfl, trivial⟩ (DenL.cons (h1.den rfl (by simp) rfl rfl) (DenL.cons (h2.den rfl (by simp) rfl rfl) DenL.nil)))
  (Sat.inputs rfl (by intro m e hm; match m, hm with | 0, hm => cases hm; exact .inl ⟨_, _, rfl, h1.ro rfl⟩ | 1, hm => cases hm; exact .inl ⟨_, _, rfl, h2.ro rfl⟩ | m + 2, hm => cases hm))
end Go.Proofs.Ytbmbiiiacajolaa
