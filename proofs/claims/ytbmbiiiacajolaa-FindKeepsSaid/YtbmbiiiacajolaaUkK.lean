/- Texts of this proof. -/
import Derived.Test.YtbmbiiiacajolaaUjK
import Derived.Test.YtbmbiiiacajolaaUiTK
namespace Go.Proofs.Ytbmbiiiacajolaa
set_option linter.unusedVariables false
set_option linter.unusedSimpArgs false
set_option linter.unusedSectionVars false
open Go Go.RowKit
set_option maxRecDepth 10000
set_option maxHeartbeats 16000000
theorem bFk10n (P : Program) (hs' : List (Nat × Nat × List Nat)) {h : Int} {g : Nat → Nat → Int} {k : Nat} {c : Int} {gl : Nat → Nat → Int} {kl : Nat} {c6 p s H n ck ch ci cl : Int} {M : MemSt} {ks hs is ls : List Int} {M0 : MemSt} {ls0 : List Int} {o0 o1 o2 : Option FindSt} {k0 k1 k2 : Int} {nx : Int → Int → Int} {i q m : Int} (hn1 : n = k) (hH1 : H = 1 + p) (hkl : kl ≤ 300) (i0 : 0 ≤ i) (hi : i < kl) (hG : (LsE.mk s H n ck ch ci cl M ks hs is ls).good nx) (f0 : fOk (KL.mk' n H ks hs is) nx (nthL ls) k0 none) (f1 : fOk (KL.mk' n H ks hs is) nx (nthL ls) k1 o1) (f2 : fOk (KL.mk' n H ks hs is) nx (nthL ls) k2 o2) (r0 : (gl i.toNat 0).emod 400 = m) (rq : m.tmod 4 = 0) (qq : m.tdiv 4 = q) (q0 : 0 ≤ q) (q1 : q < 100) :
 tFKeepsL2.sat { cxUi P [lFk1, lFk2, lFk3] with hints := hs' } (ctrR cFKeeps) [.i h, .f g k, .i k, .i c, .f gl kl, .i kl, .i c6, .b true, .i p, .i (9 + 2 * s + H), .i (9 + 2 * s), .i H, .i 0, .i 1, .i s, .i (1 + s), .i (1 + 2 * s), .i 99, .i (2 + 2 * s), .i (3 + 2 * s), .i 3, .i (6 + 2 * s), .i n, .i ck, .i ch, .i ci, .i cl, .u (.mem M0), .l ks, .l hs, .l is, .l ls0, .u (.mem M), .l ls, .u .findNil, .u (fO o1), .u (fO o2), .i k0, .i k1, .i k2, .i i] := by
 have wq : IntKind.i64.wrap q = q := wrap_small (by omega) (by omega)
 have uq : IntKind.u64.wrap q = q := wrap_u64' (by omega) (by omega)
 have hE := hG.f
 obtain ⟨hX, hs0, hk, hh, hi, hl, hM, hkw⟩ := id hE
 have hX : (KL.mk' n H ks hs is).ok := hX
 have n0 : 0 ≤ n := hX.n0
 have n9 : n ≤ 9 := hX.n9
 have H1 : 1 ≤ H := hX.H1
 have H4 : H ≤ 4 := hX.H4
 have hs1 : s = if n < 1 then 1 else n := hs0
 have hs2 : 1 ≤ s ∧ s ≤ 9 ∧ n ≤ s := by split at hs1 <;> omega
 have hk : n ≤ ks.length := hk
 have hh : n ≤ hs.length := hh
 have hi : n ≤ is.length := hi
 have hl : n ≤ ls.length := hl
 have ht := KL.okL (s := s) (H := H) hs2.1 hs2.2.1 H1 H4
 obtain ⟨a1, a2, a3⟩ := new_good (E := LsE.mk s H n ck ch ci cl M ks hs is ls) q hG
 have sg := step_good hG a1 a2 a3
 by_cases hov : ((KL.mk' n H ks hs is).step q nx (nthL ls) (KL.mk' n H ks hs is).anew).1 = .over
 · have b3 : (KL.mk' n H ks hs is).FRep q ((FindSt.new (twL s H) q H).step M).1 .over := by have := sg.2.2.1; rw [show (LsE.X (LsE.mk s H n ck ch ci cl M ks hs is ls)) = KL.mk' n H ks hs is from rfl] at this; rw [hov] at this; exact this
   have hE : errF ((FindSt.new (twL s H) q H).step M).1 = 0 := err_over b3
   unfold tFKeepsL2
   repeat' (first
    | (refine st_callm (by rfl) (by simp only [dn, reduceCtorEq, va_map, r0, rq, qq, wq, uq, hE] <;> rfl) ?_ (fun o env' hm he => ?_)
       focus first | exact ⟨⟨s, H, n, ck, ch, ci, cl, M, ks, hs, is, ls⟩, (FindSt.new (twL s H) q H), q, nx, _, rfl, hG, a1, a2, a3⟩ | exact ⟨⟨s, H, n, ck, ch, ci, cl, ((FindSt.new (twL s H) q H).step M).2, ks, hs, is, ls⟩, ((FindSt.new (twL s H) q H).step M).1, q, rfl, sg.1.f, b3⟩
       first
        | (obtain ⟨E2, F2, e1, rfl⟩ := hm
           obtain ⟨rfl, rfl⟩ := lseF_inj (E := ⟨s, H, n, ck, ch, ci, cl, M, ks, hs, is, ls⟩) (F := (FindSt.new (twL s H) q H)) e1
           simp only [List.cons_append, List.nil_append] at he
           subst he)
        | (obtain ⟨E2, F2, key2, e1, rfl⟩ := hm
           obtain rfl := lseE_inj (E := ⟨s, H, n, ck, ch, ci, cl, ((FindSt.new (twL s H) q H).step M).2, ks, hs, is, ls⟩) (F := ((FindSt.new (twL s H) q H).step M).1) e1
           simp only [List.cons_append, List.nil_append] at he
           subst he))
    | (first
      | (with_reducible refine st_need ?_ ?_
         focus (simp only [dn, reduceCtorEq, va_map, r0, rq, qq, wq, uq, hE] <;> first | omega | assumption))
      | (with_reducible refine st_and ?_ ?_)
      | (with_reducible exact st_ok)
      | (with_reducible refine st_br (fun hc => ?_) (fun hc => ?_) <;> (simp only [dn, reduceCtorEq, va_map, r0, rq, qq, wq, uq, hE] at hc) <;> (try (exfalso; first | contradiction | omega)))
      | (refine st_call (by rfl) (by simp only [dn, reduceCtorEq, va_map, r0, rq, qq, wq, uq, hE] <;> rfl) ?_ (by simp only [out_pick, r0, out_fnew, out_ferr, hE] <;> rfl) (by simp only [dn] <;> rfl) ?_
         focus (first | exact pre_pick (by decide) (by decide) | exact ⟨_, _, _, _, _, _, _, _, _, _, _, _, _, _, rfl, ht⟩ | exact ⟨_, rfl⟩)))
    | with_reducible refine mk_findNil rfl (by simp only [dn] <;> rfl) ?_
    | (refine st_back (by rfl) (by simp only [dn, reduceCtorEq, va_map, r0, rq, qq, wq, uq] <;> rfl) (by simp only [dn] <;> rfl) (by rfl) ?_ ?_
       focus (rw [wrap_small (n := i + 1) (by omega) (by omega)]
              exact ⟨h, g, k, c, gl, kl, c6, p, ⟨s, H, n, ck, ch, ci, cl, ((FindSt.new (twL s H) q H).step M).2, ks, hs, is, ls⟩, M0, ls0, none, o1, o2, q, k1, k2, i + 1, _, rfl, ⟨hn1, hH1⟩, hkl, by omega, by omega, sg.1, fok_none, sg.2.2.2 _ _ f1, sg.2.2.2 _ _ f2⟩)
       focus (rw [wrap_small (n := i + 1) (by omega) (by omega)]; show ((kl : Int) - (i + 1)).toNat < ((kl : Int) - i).toNat; omega))
    | fail "no step")
 · have hE : errF ((FindSt.new (twL s H) q H).step M).1 = 14 := err_busy sg.2.2.1 hov
   have b3 : True := trivial
   unfold tFKeepsL2
   repeat' (first
    | (refine st_callm (by rfl) (by simp only [dn, reduceCtorEq, va_map, r0, rq, qq, wq, uq, hE] <;> rfl) ?_ (fun o env' hm he => ?_)
       focus first | exact ⟨⟨s, H, n, ck, ch, ci, cl, M, ks, hs, is, ls⟩, (FindSt.new (twL s H) q H), q, nx, _, rfl, hG, a1, a2, a3⟩ | exact ⟨⟨s, H, n, ck, ch, ci, cl, ((FindSt.new (twL s H) q H).step M).2, ks, hs, is, ls⟩, ((FindSt.new (twL s H) q H).step M).1, q, rfl, sg.1.f, b3⟩
       first
        | (obtain ⟨E2, F2, e1, rfl⟩ := hm
           obtain ⟨rfl, rfl⟩ := lseF_inj (E := ⟨s, H, n, ck, ch, ci, cl, M, ks, hs, is, ls⟩) (F := (FindSt.new (twL s H) q H)) e1
           simp only [List.cons_append, List.nil_append] at he
           subst he)
        | (obtain ⟨E2, F2, key2, e1, rfl⟩ := hm
           obtain rfl := lseE_inj (E := ⟨s, H, n, ck, ch, ci, cl, ((FindSt.new (twL s H) q H).step M).2, ks, hs, is, ls⟩) (F := ((FindSt.new (twL s H) q H).step M).1) e1
           simp only [List.cons_append, List.nil_append] at he
           subst he))
    | (first
      | (with_reducible refine st_need ?_ ?_
         focus (simp only [dn, reduceCtorEq, va_map, r0, rq, qq, wq, uq, hE] <;> first | omega | assumption))
      | (with_reducible refine st_and ?_ ?_)
      | (with_reducible exact st_ok)
      | (with_reducible refine st_br (fun hc => ?_) (fun hc => ?_) <;> (simp only [dn, reduceCtorEq, va_map, r0, rq, qq, wq, uq, hE] at hc) <;> (try (exfalso; first | contradiction | omega)))
      | (refine st_call (by rfl) (by simp only [dn, reduceCtorEq, va_map, r0, rq, qq, wq, uq, hE] <;> rfl) ?_ (by simp only [out_pick, r0, out_fnew, out_ferr, hE] <;> rfl) (by simp only [dn] <;> rfl) ?_
         focus (first | exact pre_pick (by decide) (by decide) | exact ⟨_, _, _, _, _, _, _, _, _, _, _, _, _, _, rfl, ht⟩ | exact ⟨_, rfl⟩)))
    | with_reducible refine mk_findNil rfl (by simp only [dn] <;> rfl) ?_
    | (refine st_back (by rfl) (by simp only [dn, reduceCtorEq, va_map, r0, rq, qq, wq, uq] <;> rfl) (by simp only [dn] <;> rfl) (by rfl) ?_ ?_
       focus (rw [wrap_small (n := i + 1) (by omega) (by omega)]
              exact ⟨h, g, k, c, gl, kl, c6, p, ⟨s, H, n, ck, ch, ci, cl, ((FindSt.new (twL s H) q H).step M).2, ks, hs, is, ls⟩, M0, ls0, (some ((FindSt.new (twL s H) q H).step M).1), o1, o2, q, k1, k2, i + 1, _, rfl, ⟨hn1, hH1⟩, hkl, by omega, by omega, sg.1, fok_some sg.2.1 hov sg.2.2.1, sg.2.2.2 _ _ f1, sg.2.2.2 _ _ f2⟩)
       focus (rw [wrap_small (n := i + 1) (by omega) (by omega)]; show ((kl : Int) - (i + 1)).toNat < ((kl : Int) - i).toNat; omega))
    | fail "no step")
theorem bFk10s (P : Program) (hs' : List (Nat × Nat × List Nat)) {h : Int} {g : Nat → Nat → Int} {k : Nat} {c : Int} {gl : Nat → Nat → Int} {kl : Nat} {c6 p s H n ck ch ci cl : Int} {M : MemSt} {ks hs is ls : List Int} {M0 : MemSt} {ls0 : List Int} {o0 o1 o2 : Option FindSt} {k0 k1 k2 : Int} {nx : Int → Int → Int} {i q m : Int} {G : FindSt} (hn1 : n = k) (hH1 : H = 1 + p) (hkl : kl ≤ 300) (i0 : 0 ≤ i) (hi : i < kl) (hG : (LsE.mk s H n ck ch ci cl M ks hs is ls).good nx) (f0 : fOk (KL.mk' n H ks hs is) nx (nthL ls) k0 (some G)) (f1 : fOk (KL.mk' n H ks hs is) nx (nthL ls) k1 o1) (f2 : fOk (KL.mk' n H ks hs is) nx (nthL ls) k2 o2) (r0 : (gl i.toNat 0).emod 400 = m) (rq : m.tmod 4 = 0) (qq : m.tdiv 4 = q) (q0 : 0 ≤ q) (q1 : q < 100) :
 tFKeepsL2.sat { cxUi P [lFk1, lFk2, lFk3] with hints := hs' } (ctrR cFKeeps) [.i h, .f g k, .i k, .i c, .f gl kl, .i kl, .i c6, .b true, .i p, .i (9 + 2 * s + H), .i (9 + 2 * s), .i H, .i 0, .i 1, .i s, .i (1 + s), .i (1 + 2 * s), .i 99, .i (2 + 2 * s), .i (3 + 2 * s), .i 3, .i (6 + 2 * s), .i n, .i ck, .i ch, .i ci, .i cl, .u (.mem M0), .l ks, .l hs, .l is, .l ls0, .u (.mem M), .l ls, .u (.find G), .u (fO o1), .u (fO o2), .i k0, .i k1, .i k2, .i i] := by
 have wq : IntKind.i64.wrap q = q := wrap_small (by omega) (by omega)
 have uq : IntKind.u64.wrap q = q := wrap_u64' (by omega) (by omega)
 have hE := hG.f
 obtain ⟨hX, hs0, hk, hh, hi, hl, hM, hkw⟩ := id hE
 have hX : (KL.mk' n H ks hs is).ok := hX
 have n0 : 0 ≤ n := hX.n0
 have n9 : n ≤ 9 := hX.n9
 have H1 : 1 ≤ H := hX.H1
 have H4 : H ≤ 4 := hX.H4
 have hs1 : s = if n < 1 then 1 else n := hs0
 have hs2 : 1 ≤ s ∧ s ≤ 9 ∧ n ≤ s := by split at hs1 <;> omega
 have hk : n ≤ ks.length := hk
 have hh : n ≤ hs.length := hh
 have hi : n ≤ is.length := hi
 have hl : n ≤ ls.length := hl
 have ht := KL.okL (s := s) (H := H) hs2.1 hs2.2.1 H1 H4
 obtain ⟨fs, a1, a2, a3⟩ := f0 G rfl
 have sg := step_good hG a1 a2 a3
 by_cases hov : ((KL.mk' n H ks hs is).step k0 nx (nthL ls) fs).1 = .over
 · have b3 : (KL.mk' n H ks hs is).FRep k0 (G.step M).1 .over := by have := sg.2.2.1; rw [show (LsE.X (LsE.mk s H n ck ch ci cl M ks hs is ls)) = KL.mk' n H ks hs is from rfl] at this; rw [hov] at this; exact this
   have hE : errF (G.step M).1 = 0 := err_over b3
   unfold tFKeepsL2
   repeat' (first
    | (refine st_callm (by rfl) (by simp only [dn, reduceCtorEq, va_map, r0, rq, qq, wq, uq, hE] <;> rfl) ?_ (fun o env' hm he => ?_)
       focus first | exact ⟨⟨s, H, n, ck, ch, ci, cl, M, ks, hs, is, ls⟩, G, k0, nx, _, rfl, hG, a1, a2, a3⟩ | exact ⟨⟨s, H, n, ck, ch, ci, cl, (G.step M).2, ks, hs, is, ls⟩, (G.step M).1, k0, rfl, sg.1.f, b3⟩
       first
        | (obtain ⟨E2, F2, e1, rfl⟩ := hm
           obtain ⟨rfl, rfl⟩ := lseF_inj (E := ⟨s, H, n, ck, ch, ci, cl, M, ks, hs, is, ls⟩) (F := G) e1
           simp only [List.cons_append, List.nil_append] at he
           subst he)
        | (obtain ⟨E2, F2, key2, e1, rfl⟩ := hm
           obtain rfl := lseE_inj (E := ⟨s, H, n, ck, ch, ci, cl, (G.step M).2, ks, hs, is, ls⟩) (F := (G.step M).1) e1
           simp only [List.cons_append, List.nil_append] at he
           subst he))
    | (first
      | (with_reducible refine st_need ?_ ?_
         focus (simp only [dn, reduceCtorEq, va_map, r0, rq, qq, wq, uq, hE] <;> first | omega | assumption))
      | (with_reducible refine st_and ?_ ?_)
      | (with_reducible exact st_ok)
      | (with_reducible refine st_br (fun hc => ?_) (fun hc => ?_) <;> (simp only [dn, reduceCtorEq, va_map, r0, rq, qq, wq, uq, hE] at hc) <;> (try (exfalso; first | contradiction | omega)))
      | (refine st_call (by rfl) (by simp only [dn, reduceCtorEq, va_map, r0, rq, qq, wq, uq, hE] <;> rfl) ?_ (by simp only [out_pick, r0, out_fnew, out_ferr, hE] <;> rfl) (by simp only [dn] <;> rfl) ?_
         focus (first | exact pre_pick (by decide) (by decide) | exact ⟨_, _, _, _, _, _, _, _, _, _, _, _, _, _, rfl, ht⟩ | exact ⟨_, rfl⟩)))
    | with_reducible refine mk_findNil rfl (by simp only [dn] <;> rfl) ?_
    | (refine st_back (by rfl) (by simp only [dn, reduceCtorEq, va_map, r0, rq, qq, wq, uq] <;> rfl) (by simp only [dn] <;> rfl) (by rfl) ?_ ?_
       focus (rw [wrap_small (n := i + 1) (by omega) (by omega)]
              exact ⟨h, g, k, c, gl, kl, c6, p, ⟨s, H, n, ck, ch, ci, cl, (G.step M).2, ks, hs, is, ls⟩, M0, ls0, none, o1, o2, k0, k1, k2, i + 1, _, rfl, ⟨hn1, hH1⟩, hkl, by omega, by omega, sg.1, fok_none, sg.2.2.2 _ _ f1, sg.2.2.2 _ _ f2⟩)
       focus (rw [wrap_small (n := i + 1) (by omega) (by omega)]; show ((kl : Int) - (i + 1)).toNat < ((kl : Int) - i).toNat; omega))
    | fail "no step")
 · have hE : errF (G.step M).1 = 14 := err_busy sg.2.2.1 hov
   have b3 : True := trivial
   unfold tFKeepsL2
   repeat' (first
    | (refine st_callm (by rfl) (by simp only [dn, reduceCtorEq, va_map, r0, rq, qq, wq, uq, hE] <;> rfl) ?_ (fun o env' hm he => ?_)
       focus first | exact ⟨⟨s, H, n, ck, ch, ci, cl, M, ks, hs, is, ls⟩, G, k0, nx, _, rfl, hG, a1, a2, a3⟩ | exact ⟨⟨s, H, n, ck, ch, ci, cl, (G.step M).2, ks, hs, is, ls⟩, (G.step M).1, k0, rfl, sg.1.f, b3⟩
       first
        | (obtain ⟨E2, F2, e1, rfl⟩ := hm
           obtain ⟨rfl, rfl⟩ := lseF_inj (E := ⟨s, H, n, ck, ch, ci, cl, M, ks, hs, is, ls⟩) (F := G) e1
           simp only [List.cons_append, List.nil_append] at he
           subst he)
        | (obtain ⟨E2, F2, key2, e1, rfl⟩ := hm
           obtain rfl := lseE_inj (E := ⟨s, H, n, ck, ch, ci, cl, (G.step M).2, ks, hs, is, ls⟩) (F := (G.step M).1) e1
           simp only [List.cons_append, List.nil_append] at he
           subst he))
    | (first
      | (with_reducible refine st_need ?_ ?_
         focus (simp only [dn, reduceCtorEq, va_map, r0, rq, qq, wq, uq, hE] <;> first | omega | assumption))
      | (with_reducible refine st_and ?_ ?_)
      | (with_reducible exact st_ok)
      | (with_reducible refine st_br (fun hc => ?_) (fun hc => ?_) <;> (simp only [dn, reduceCtorEq, va_map, r0, rq, qq, wq, uq, hE] at hc) <;> (try (exfalso; first | contradiction | omega)))
      | (refine st_call (by rfl) (by simp only [dn, reduceCtorEq, va_map, r0, rq, qq, wq, uq, hE] <;> rfl) ?_ (by simp only [out_pick, r0, out_fnew, out_ferr, hE] <;> rfl) (by simp only [dn] <;> rfl) ?_
         focus (first | exact pre_pick (by decide) (by decide) | exact ⟨_, _, _, _, _, _, _, _, _, _, _, _, _, _, rfl, ht⟩ | exact ⟨_, rfl⟩)))
    | with_reducible refine mk_findNil rfl (by simp only [dn] <;> rfl) ?_
    | (refine st_back (by rfl) (by simp only [dn, reduceCtorEq, va_map, r0, rq, qq, wq, uq] <;> rfl) (by simp only [dn] <;> rfl) (by rfl) ?_ ?_
       focus (rw [wrap_small (n := i + 1) (by omega) (by omega)]
              exact ⟨h, g, k, c, gl, kl, c6, p, ⟨s, H, n, ck, ch, ci, cl, (G.step M).2, ks, hs, is, ls⟩, M0, ls0, (some (G.step M).1), o1, o2, k0, k1, k2, i + 1, _, rfl, ⟨hn1, hH1⟩, hkl, by omega, by omega, sg.1, fok_some sg.2.1 hov sg.2.2.1, sg.2.2.2 _ _ f1, sg.2.2.2 _ _ f2⟩)
       focus (rw [wrap_small (n := i + 1) (by omega) (by omega)]; show ((kl : Int) - (i + 1)).toNat < ((kl : Int) - i).toNat; omega))
    | fail "no step")
theorem bFk11n (P : Program) (hs' : List (Nat × Nat × List Nat)) {h : Int} {g : Nat → Nat → Int} {k : Nat} {c : Int} {gl : Nat → Nat → Int} {kl : Nat} {c6 p s H n ck ch ci cl : Int} {M : MemSt} {ks hs is ls : List Int} {M0 : MemSt} {ls0 : List Int} {o0 o1 o2 : Option FindSt} {k0 k1 k2 : Int} {nx : Int → Int → Int} {i q m : Int} (hn1 : n = k) (hH1 : H = 1 + p) (hkl : kl ≤ 300) (i0 : 0 ≤ i) (hi : i < kl) (hG : (LsE.mk s H n ck ch ci cl M ks hs is ls).good nx) (f0 : fOk (KL.mk' n H ks hs is) nx (nthL ls) k0 o0) (f1 : fOk (KL.mk' n H ks hs is) nx (nthL ls) k1 none) (f2 : fOk (KL.mk' n H ks hs is) nx (nthL ls) k2 o2) (r0 : (gl i.toNat 0).emod 400 = m) (rq : m.tmod 4 = 1) (qq : m.tdiv 4 = q) (q0 : 0 ≤ q) (q1 : q < 100) :
 tFKeepsL2.sat { cxUi P [lFk1, lFk2, lFk3] with hints := hs' } (ctrR cFKeeps) [.i h, .f g k, .i k, .i c, .f gl kl, .i kl, .i c6, .b true, .i p, .i (9 + 2 * s + H), .i (9 + 2 * s), .i H, .i 0, .i 1, .i s, .i (1 + s), .i (1 + 2 * s), .i 99, .i (2 + 2 * s), .i (3 + 2 * s), .i 3, .i (6 + 2 * s), .i n, .i ck, .i ch, .i ci, .i cl, .u (.mem M0), .l ks, .l hs, .l is, .l ls0, .u (.mem M), .l ls, .u (fO o0), .u .findNil, .u (fO o2), .i k0, .i k1, .i k2, .i i] := by
 have wq : IntKind.i64.wrap q = q := wrap_small (by omega) (by omega)
 have uq : IntKind.u64.wrap q = q := wrap_u64' (by omega) (by omega)
 have hE := hG.f
 obtain ⟨hX, hs0, hk, hh, hi, hl, hM, hkw⟩ := id hE
 have hX : (KL.mk' n H ks hs is).ok := hX
 have n0 : 0 ≤ n := hX.n0
 have n9 : n ≤ 9 := hX.n9
 have H1 : 1 ≤ H := hX.H1
 have H4 : H ≤ 4 := hX.H4
 have hs1 : s = if n < 1 then 1 else n := hs0
 have hs2 : 1 ≤ s ∧ s ≤ 9 ∧ n ≤ s := by split at hs1 <;> omega
 have hk : n ≤ ks.length := hk
 have hh : n ≤ hs.length := hh
 have hi : n ≤ is.length := hi
 have hl : n ≤ ls.length := hl
 have ht := KL.okL (s := s) (H := H) hs2.1 hs2.2.1 H1 H4
 obtain ⟨a1, a2, a3⟩ := new_good (E := LsE.mk s H n ck ch ci cl M ks hs is ls) q hG
 have sg := step_good hG a1 a2 a3
 by_cases hov : ((KL.mk' n H ks hs is).step q nx (nthL ls) (KL.mk' n H ks hs is).anew).1 = .over
 · have b3 : (KL.mk' n H ks hs is).FRep q ((FindSt.new (twL s H) q H).step M).1 .over := by have := sg.2.2.1; rw [show (LsE.X (LsE.mk s H n ck ch ci cl M ks hs is ls)) = KL.mk' n H ks hs is from rfl] at this; rw [hov] at this; exact this
   have hE : errF ((FindSt.new (twL s H) q H).step M).1 = 0 := err_over b3
   unfold tFKeepsL2
   repeat' (first
    | (refine st_callm (by rfl) (by simp only [dn, reduceCtorEq, va_map, r0, rq, qq, wq, uq, hE] <;> rfl) ?_ (fun o env' hm he => ?_)
       focus first | exact ⟨⟨s, H, n, ck, ch, ci, cl, M, ks, hs, is, ls⟩, (FindSt.new (twL s H) q H), q, nx, _, rfl, hG, a1, a2, a3⟩ | exact ⟨⟨s, H, n, ck, ch, ci, cl, ((FindSt.new (twL s H) q H).step M).2, ks, hs, is, ls⟩, ((FindSt.new (twL s H) q H).step M).1, q, rfl, sg.1.f, b3⟩
       first
        | (obtain ⟨E2, F2, e1, rfl⟩ := hm
           obtain ⟨rfl, rfl⟩ := lseF_inj (E := ⟨s, H, n, ck, ch, ci, cl, M, ks, hs, is, ls⟩) (F := (FindSt.new (twL s H) q H)) e1
           simp only [List.cons_append, List.nil_append] at he
           subst he)
        | (obtain ⟨E2, F2, key2, e1, rfl⟩ := hm
           obtain rfl := lseE_inj (E := ⟨s, H, n, ck, ch, ci, cl, ((FindSt.new (twL s H) q H).step M).2, ks, hs, is, ls⟩) (F := ((FindSt.new (twL s H) q H).step M).1) e1
           simp only [List.cons_append, List.nil_append] at he
           subst he))
    | (first
      | (with_reducible refine st_need ?_ ?_
         focus (simp only [dn, reduceCtorEq, va_map, r0, rq, qq, wq, uq, hE] <;> first | omega | assumption))
      | (with_reducible refine st_and ?_ ?_)
      | (with_reducible exact st_ok)
      | (with_reducible refine st_br (fun hc => ?_) (fun hc => ?_) <;> (simp only [dn, reduceCtorEq, va_map, r0, rq, qq, wq, uq, hE] at hc) <;> (try (exfalso; first | contradiction | omega)))
      | (refine st_call (by rfl) (by simp only [dn, reduceCtorEq, va_map, r0, rq, qq, wq, uq, hE] <;> rfl) ?_ (by simp only [out_pick, r0, out_fnew, out_ferr, hE] <;> rfl) (by simp only [dn] <;> rfl) ?_
         focus (first | exact pre_pick (by decide) (by decide) | exact ⟨_, _, _, _, _, _, _, _, _, _, _, _, _, _, rfl, ht⟩ | exact ⟨_, rfl⟩)))
    | with_reducible refine mk_findNil rfl (by simp only [dn] <;> rfl) ?_
    | (refine st_back (by rfl) (by simp only [dn, reduceCtorEq, va_map, r0, rq, qq, wq, uq] <;> rfl) (by simp only [dn] <;> rfl) (by rfl) ?_ ?_
       focus (rw [wrap_small (n := i + 1) (by omega) (by omega)]
              exact ⟨h, g, k, c, gl, kl, c6, p, ⟨s, H, n, ck, ch, ci, cl, ((FindSt.new (twL s H) q H).step M).2, ks, hs, is, ls⟩, M0, ls0, o0, none, o2, k0, q, k2, i + 1, _, rfl, ⟨hn1, hH1⟩, hkl, by omega, by omega, sg.1, sg.2.2.2 _ _ f0, fok_none, sg.2.2.2 _ _ f2⟩)
       focus (rw [wrap_small (n := i + 1) (by omega) (by omega)]; show ((kl : Int) - (i + 1)).toNat < ((kl : Int) - i).toNat; omega))
    | fail "no step")
 · have hE : errF ((FindSt.new (twL s H) q H).step M).1 = 14 := err_busy sg.2.2.1 hov
   have b3 : True := trivial
   unfold tFKeepsL2
   repeat' (first
    | (refine st_callm (by rfl) (by simp only [dn, reduceCtorEq, va_map, r0, rq, qq, wq, uq, hE] <;> rfl) ?_ (fun o env' hm he => ?_)
       focus first | exact ⟨⟨s, H, n, ck, ch, ci, cl, M, ks, hs, is, ls⟩, (FindSt.new (twL s H) q H), q, nx, _, rfl, hG, a1, a2, a3⟩ | exact ⟨⟨s, H, n, ck, ch, ci, cl, ((FindSt.new (twL s H) q H).step M).2, ks, hs, is, ls⟩, ((FindSt.new (twL s H) q H).step M).1, q, rfl, sg.1.f, b3⟩
       first
        | (obtain ⟨E2, F2, e1, rfl⟩ := hm
           obtain ⟨rfl, rfl⟩ := lseF_inj (E := ⟨s, H, n, ck, ch, ci, cl, M, ks, hs, is, ls⟩) (F := (FindSt.new (twL s H) q H)) e1
           simp only [List.cons_append, List.nil_append] at he
           subst he)
        | (obtain ⟨E2, F2, key2, e1, rfl⟩ := hm
           obtain rfl := lseE_inj (E := ⟨s, H, n, ck, ch, ci, cl, ((FindSt.new (twL s H) q H).step M).2, ks, hs, is, ls⟩) (F := ((FindSt.new (twL s H) q H).step M).1) e1
           simp only [List.cons_append, List.nil_append] at he
           subst he))
    | (first
      | (with_reducible refine st_need ?_ ?_
         focus (simp only [dn, reduceCtorEq, va_map, r0, rq, qq, wq, uq, hE] <;> first | omega | assumption))
      | (with_reducible refine st_and ?_ ?_)
      | (with_reducible exact st_ok)
      | (with_reducible refine st_br (fun hc => ?_) (fun hc => ?_) <;> (simp only [dn, reduceCtorEq, va_map, r0, rq, qq, wq, uq, hE] at hc) <;> (try (exfalso; first | contradiction | omega)))
      | (refine st_call (by rfl) (by simp only [dn, reduceCtorEq, va_map, r0, rq, qq, wq, uq, hE] <;> rfl) ?_ (by simp only [out_pick, r0, out_fnew, out_ferr, hE] <;> rfl) (by simp only [dn] <;> rfl) ?_
         focus (first | exact pre_pick (by decide) (by decide) | exact ⟨_, _, _, _, _, _, _, _, _, _, _, _, _, _, rfl, ht⟩ | exact ⟨_, rfl⟩)))
    | with_reducible refine mk_findNil rfl (by simp only [dn] <;> rfl) ?_
    | (refine st_back (by rfl) (by simp only [dn, reduceCtorEq, va_map, r0, rq, qq, wq, uq] <;> rfl) (by simp only [dn] <;> rfl) (by rfl) ?_ ?_
       focus (rw [wrap_small (n := i + 1) (by omega) (by omega)]
              exact ⟨h, g, k, c, gl, kl, c6, p, ⟨s, H, n, ck, ch, ci, cl, ((FindSt.new (twL s H) q H).step M).2, ks, hs, is, ls⟩, M0, ls0, o0, (some ((FindSt.new (twL s H) q H).step M).1), o2, k0, q, k2, i + 1, _, rfl, ⟨hn1, hH1⟩, hkl, by omega, by omega, sg.1, sg.2.2.2 _ _ f0, fok_some sg.2.1 hov sg.2.2.1, sg.2.2.2 _ _ f2⟩)
       focus (rw [wrap_small (n := i + 1) (by omega) (by omega)]; show ((kl : Int) - (i + 1)).toNat < ((kl : Int) - i).toNat; omega))
    | fail "no step")
theorem bFk11s (P : Program) (hs' : List (Nat × Nat × List Nat)) {h : Int} {g : Nat → Nat → Int} {k : Nat} {c : Int} {gl : Nat → Nat → Int} {kl : Nat} {c6 p s H n ck ch ci cl : Int} {M : MemSt} {ks hs is ls : List Int} {M0 : MemSt} {ls0 : List Int} {o0 o1 o2 : Option FindSt} {k0 k1 k2 : Int} {nx : Int → Int → Int} {i q m : Int} {G : FindSt} (hn1 : n = k) (hH1 : H = 1 + p) (hkl : kl ≤ 300) (i0 : 0 ≤ i) (hi : i < kl) (hG : (LsE.mk s H n ck ch ci cl M ks hs is ls).good nx) (f0 : fOk (KL.mk' n H ks hs is) nx (nthL ls) k0 o0) (f1 : fOk (KL.mk' n H ks hs is) nx (nthL ls) k1 (some G)) (f2 : fOk (KL.mk' n H ks hs is) nx (nthL ls) k2 o2) (r0 : (gl i.toNat 0).emod 400 = m) (rq : m.tmod 4 = 1) (qq : m.tdiv 4 = q) (q0 : 0 ≤ q) (q1 : q < 100) :
 tFKeepsL2.sat { cxUi P [lFk1, lFk2, lFk3] with hints := hs' } (ctrR cFKeeps) [.i h, .f g k, .i k, .i c, .f gl kl, .i kl, .i c6, .b true, .i p, .i (9 + 2 * s + H), .i (9 + 2 * s), .i H, .i 0, .i 1, .i s, .i (1 + s), .i (1 + 2 * s), .i 99, .i (2 + 2 * s), .i (3 + 2 * s), .i 3, .i (6 + 2 * s), .i n, .i ck, .i ch, .i ci, .i cl, .u (.mem M0), .l ks, .l hs, .l is, .l ls0, .u (.mem M), .l ls, .u (fO o0), .u (.find G), .u (fO o2), .i k0, .i k1, .i k2, .i i] := by
 have wq : IntKind.i64.wrap q = q := wrap_small (by omega) (by omega)
 have uq : IntKind.u64.wrap q = q := wrap_u64' (by omega) (by omega)
 have hE := hG.f
 obtain ⟨hX, hs0, hk, hh, hi, hl, hM, hkw⟩ := id hE
 have hX : (KL.mk' n H ks hs is).ok := hX
 have n0 : 0 ≤ n := hX.n0
 have n9 : n ≤ 9 := hX.n9
 have H1 : 1 ≤ H := hX.H1
 have H4 : H ≤ 4 := hX.H4
 have hs1 : s = if n < 1 then 1 else n := hs0
 have hs2 : 1 ≤ s ∧ s ≤ 9 ∧ n ≤ s := by split at hs1 <;> omega
 have hk : n ≤ ks.length := hk
 have hh : n ≤ hs.length := hh
 have hi : n ≤ is.length := hi
 have hl : n ≤ ls.length := hl
 have ht := KL.okL (s := s) (H := H) hs2.1 hs2.2.1 H1 H4
 obtain ⟨fs, a1, a2, a3⟩ := f1 G rfl
 have sg := step_good hG a1 a2 a3
 by_cases hov : ((KL.mk' n H ks hs is).step k1 nx (nthL ls) fs).1 = .over
 · have b3 : (KL.mk' n H ks hs is).FRep k1 (G.step M).1 .over := by have := sg.2.2.1; rw [show (LsE.X (LsE.mk s H n ck ch ci cl M ks hs is ls)) = KL.mk' n H ks hs is from rfl] at this; rw [hov] at this; exact this
   have hE : errF (G.step M).1 = 0 := err_over b3
   unfold tFKeepsL2
   repeat' (first
    | (refine st_callm (by rfl) (by simp only [dn, reduceCtorEq, va_map, r0, rq, qq, wq, uq, hE] <;> rfl) ?_ (fun o env' hm he => ?_)
       focus first | exact ⟨⟨s, H, n, ck, ch, ci, cl, M, ks, hs, is, ls⟩, G, k1, nx, _, rfl, hG, a1, a2, a3⟩ | exact ⟨⟨s, H, n, ck, ch, ci, cl, (G.step M).2, ks, hs, is, ls⟩, (G.step M).1, k1, rfl, sg.1.f, b3⟩
       first
        | (obtain ⟨E2, F2, e1, rfl⟩ := hm
           obtain ⟨rfl, rfl⟩ := lseF_inj (E := ⟨s, H, n, ck, ch, ci, cl, M, ks, hs, is, ls⟩) (F := G) e1
           simp only [List.cons_append, List.nil_append] at he
           subst he)
        | (obtain ⟨E2, F2, key2, e1, rfl⟩ := hm
           obtain rfl := lseE_inj (E := ⟨s, H, n, ck, ch, ci, cl, (G.step M).2, ks, hs, is, ls⟩) (F := (G.step M).1) e1
           simp only [List.cons_append, List.nil_append] at he
           subst he))
    | (first
      | (with_reducible refine st_need ?_ ?_
         focus (simp only [dn, reduceCtorEq, va_map, r0, rq, qq, wq, uq, hE] <;> first | omega | assumption))
      | (with_reducible refine st_and ?_ ?_)
      | (with_reducible exact st_ok)
      | (with_reducible refine st_br (fun hc => ?_) (fun hc => ?_) <;> (simp only [dn, reduceCtorEq, va_map, r0, rq, qq, wq, uq, hE] at hc) <;> (try (exfalso; first | contradiction | omega)))
      | (refine st_call (by rfl) (by simp only [dn, reduceCtorEq, va_map, r0, rq, qq, wq, uq, hE] <;> rfl) ?_ (by simp only [out_pick, r0, out_fnew, out_ferr, hE] <;> rfl) (by simp only [dn] <;> rfl) ?_
         focus (first | exact pre_pick (by decide) (by decide) | exact ⟨_, _, _, _, _, _, _, _, _, _, _, _, _, _, rfl, ht⟩ | exact ⟨_, rfl⟩)))
    | with_reducible refine mk_findNil rfl (by simp only [dn] <;> rfl) ?_
    | (refine st_back (by rfl) (by simp only [dn, reduceCtorEq, va_map, r0, rq, qq, wq, uq] <;> rfl) (by simp only [dn] <;> rfl) (by rfl) ?_ ?_
       focus (rw [wrap_small (n := i + 1) (by omega) (by omega)]
              exact ⟨h, g, k, c, gl, kl, c6, p, ⟨s, H, n, ck, ch, ci, cl, (G.step M).2, ks, hs, is, ls⟩, M0, ls0, o0, none, o2, k0, k1, k2, i + 1, _, rfl, ⟨hn1, hH1⟩, hkl, by omega, by omega, sg.1, sg.2.2.2 _ _ f0, fok_none, sg.2.2.2 _ _ f2⟩)
       focus (rw [wrap_small (n := i + 1) (by omega) (by omega)]; show ((kl : Int) - (i + 1)).toNat < ((kl : Int) - i).toNat; omega))
    | fail "no step")
 · have hE : errF (G.step M).1 = 14 := err_busy sg.2.2.1 hov
   have b3 : True := trivial
   unfold tFKeepsL2
   repeat' (first
    | (refine st_callm (by rfl) (by simp only [dn, reduceCtorEq, va_map, r0, rq, qq, wq, uq, hE] <;> rfl) ?_ (fun o env' hm he => ?_)
       focus first | exact ⟨⟨s, H, n, ck, ch, ci, cl, M, ks, hs, is, ls⟩, G, k1, nx, _, rfl, hG, a1, a2, a3⟩ | exact ⟨⟨s, H, n, ck, ch, ci, cl, (G.step M).2, ks, hs, is, ls⟩, (G.step M).1, k1, rfl, sg.1.f, b3⟩
       first
        | (obtain ⟨E2, F2, e1, rfl⟩ := hm
           obtain ⟨rfl, rfl⟩ := lseF_inj (E := ⟨s, H, n, ck, ch, ci, cl, M, ks, hs, is, ls⟩) (F := G) e1
           simp only [List.cons_append, List.nil_append] at he
           subst he)
        | (obtain ⟨E2, F2, key2, e1, rfl⟩ := hm
           obtain rfl := lseE_inj (E := ⟨s, H, n, ck, ch, ci, cl, (G.step M).2, ks, hs, is, ls⟩) (F := (G.step M).1) e1
           simp only [List.cons_append, List.nil_append] at he
           subst he))
    | (first
      | (with_reducible refine st_need ?_ ?_
         focus (simp only [dn, reduceCtorEq, va_map, r0, rq, qq, wq, uq, hE] <;> first | omega | assumption))
      | (with_reducible refine st_and ?_ ?_)
      | (with_reducible exact st_ok)
      | (with_reducible refine st_br (fun hc => ?_) (fun hc => ?_) <;> (simp only [dn, reduceCtorEq, va_map, r0, rq, qq, wq, uq, hE] at hc) <;> (try (exfalso; first | contradiction | omega)))
      | (refine st_call (by rfl) (by simp only [dn, reduceCtorEq, va_map, r0, rq, qq, wq, uq, hE] <;> rfl) ?_ (by simp only [out_pick, r0, out_fnew, out_ferr, hE] <;> rfl) (by simp only [dn] <;> rfl) ?_
         focus (first | exact pre_pick (by decide) (by decide) | exact ⟨_, _, _, _, _, _, _, _, _, _, _, _, _, _, rfl, ht⟩ | exact ⟨_, rfl⟩)))
    | with_reducible refine mk_findNil rfl (by simp only [dn] <;> rfl) ?_
    | (refine st_back (by rfl) (by simp only [dn, reduceCtorEq, va_map, r0, rq, qq, wq, uq] <;> rfl) (by simp only [dn] <;> rfl) (by rfl) ?_ ?_
       focus (rw [wrap_small (n := i + 1) (by omega) (by omega)]
              exact ⟨h, g, k, c, gl, kl, c6, p, ⟨s, H, n, ck, ch, ci, cl, (G.step M).2, ks, hs, is, ls⟩, M0, ls0, o0, (some (G.step M).1), o2, k0, k1, k2, i + 1, _, rfl, ⟨hn1, hH1⟩, hkl, by omega, by omega, sg.1, sg.2.2.2 _ _ f0, fok_some sg.2.1 hov sg.2.2.1, sg.2.2.2 _ _ f2⟩)
       focus (rw [wrap_small (n := i + 1) (by omega) (by omega)]; show ((kl : Int) - (i + 1)).toNat < ((kl : Int) - i).toNat; omega))
    | fail "no step")
theorem bFk12n (P : Program) (hs' : List (Nat × Nat × List Nat)) {h : Int} {g : Nat → Nat → Int} {k : Nat} {c : Int} {gl : Nat → Nat → Int} {kl : Nat} {c6 p s H n ck ch ci cl : Int} {M : MemSt} {ks hs is ls : List Int} {M0 : MemSt} {ls0 : List Int} {o0 o1 o2 : Option FindSt} {k0 k1 k2 : Int} {nx : Int → Int → Int} {i q m : Int} (hn1 : n = k) (hH1 : H = 1 + p) (hkl : kl ≤ 300) (i0 : 0 ≤ i) (hi : i < kl) (hG : (LsE.mk s H n ck ch ci cl M ks hs is ls).good nx) (f0 : fOk (KL.mk' n H ks hs is) nx (nthL ls) k0 o0) (f1 : fOk (KL.mk' n H ks hs is) nx (nthL ls) k1 o1) (f2 : fOk (KL.mk' n H ks hs is) nx (nthL ls) k2 none) (r0 : (gl i.toNat 0).emod 400 = m) (rq : m.tmod 4 = 2) (qq : m.tdiv 4 = q) (q0 : 0 ≤ q) (q1 : q < 100) :
 tFKeepsL2.sat { cxUi P [lFk1, lFk2, lFk3] with hints := hs' } (ctrR cFKeeps) [.i h, .f g k, .i k, .i c, .f gl kl, .i kl, .i c6, .b true, .i p, .i (9 + 2 * s + H), .i (9 + 2 * s), .i H, .i 0, .i 1, .i s, .i (1 + s), .i (1 + 2 * s), .i 99, .i (2 + 2 * s), .i (3 + 2 * s), .i 3, .i (6 + 2 * s), .i n, .i ck, .i ch, .i ci, .i cl, .u (.mem M0), .l ks, .l hs, .l is, .l ls0, .u (.mem M), .l ls, .u (fO o0), .u (fO o1), .u .findNil, .i k0, .i k1, .i k2, .i i] := by
 have wq : IntKind.i64.wrap q = q := wrap_small (by omega) (by omega)
 have uq : IntKind.u64.wrap q = q := wrap_u64' (by omega) (by omega)
 have hE := hG.f
 obtain ⟨hX, hs0, hk, hh, hi, hl, hM, hkw⟩ := id hE
 have hX : (KL.mk' n H ks hs is).ok := hX
 have n0 : 0 ≤ n := hX.n0
 have n9 : n ≤ 9 := hX.n9
 have H1 : 1 ≤ H := hX.H1
 have H4 : H ≤ 4 := hX.H4
 have hs1 : s = if n < 1 then 1 else n := hs0
 have hs2 : 1 ≤ s ∧ s ≤ 9 ∧ n ≤ s := by split at hs1 <;> omega
 have hk : n ≤ ks.length := hk
 have hh : n ≤ hs.length := hh
 have hi : n ≤ is.length := hi
 have hl : n ≤ ls.length := hl
 have ht := KL.okL (s := s) (H := H) hs2.1 hs2.2.1 H1 H4
 obtain ⟨a1, a2, a3⟩ := new_good (E := LsE.mk s H n ck ch ci cl M ks hs is ls) q hG
 have sg := step_good hG a1 a2 a3
 by_cases hov : ((KL.mk' n H ks hs is).step q nx (nthL ls) (KL.mk' n H ks hs is).anew).1 = .over
 · have b3 : (KL.mk' n H ks hs is).FRep q ((FindSt.new (twL s H) q H).step M).1 .over := by have := sg.2.2.1; rw [show (LsE.X (LsE.mk s H n ck ch ci cl M ks hs is ls)) = KL.mk' n H ks hs is from rfl] at this; rw [hov] at this; exact this
   have hE : errF ((FindSt.new (twL s H) q H).step M).1 = 0 := err_over b3
   unfold tFKeepsL2
   repeat' (first
    | (refine st_callm (by rfl) (by simp only [dn, reduceCtorEq, va_map, r0, rq, qq, wq, uq, hE] <;> rfl) ?_ (fun o env' hm he => ?_)
       focus first | exact ⟨⟨s, H, n, ck, ch, ci, cl, M, ks, hs, is, ls⟩, (FindSt.new (twL s H) q H), q, nx, _, rfl, hG, a1, a2, a3⟩ | exact ⟨⟨s, H, n, ck, ch, ci, cl, ((FindSt.new (twL s H) q H).step M).2, ks, hs, is, ls⟩, ((FindSt.new (twL s H) q H).step M).1, q, rfl, sg.1.f, b3⟩
       first
        | (obtain ⟨E2, F2, e1, rfl⟩ := hm
           obtain ⟨rfl, rfl⟩ := lseF_inj (E := ⟨s, H, n, ck, ch, ci, cl, M, ks, hs, is, ls⟩) (F := (FindSt.new (twL s H) q H)) e1
           simp only [List.cons_append, List.nil_append] at he
           subst he)
        | (obtain ⟨E2, F2, key2, e1, rfl⟩ := hm
           obtain rfl := lseE_inj (E := ⟨s, H, n, ck, ch, ci, cl, ((FindSt.new (twL s H) q H).step M).2, ks, hs, is, ls⟩) (F := ((FindSt.new (twL s H) q H).step M).1) e1
           simp only [List.cons_append, List.nil_append] at he
           subst he))
    | (first
      | (with_reducible refine st_need ?_ ?_
         focus (simp only [dn, reduceCtorEq, va_map, r0, rq, qq, wq, uq, hE] <;> first | omega | assumption))
      | (with_reducible refine st_and ?_ ?_)
      | (with_reducible exact st_ok)
      | (with_reducible refine st_br (fun hc => ?_) (fun hc => ?_) <;> (simp only [dn, reduceCtorEq, va_map, r0, rq, qq, wq, uq, hE] at hc) <;> (try (exfalso; first | contradiction | omega)))
      | (refine st_call (by rfl) (by simp only [dn, reduceCtorEq, va_map, r0, rq, qq, wq, uq, hE] <;> rfl) ?_ (by simp only [out_pick, r0, out_fnew, out_ferr, hE] <;> rfl) (by simp only [dn] <;> rfl) ?_
         focus (first | exact pre_pick (by decide) (by decide) | exact ⟨_, _, _, _, _, _, _, _, _, _, _, _, _, _, rfl, ht⟩ | exact ⟨_, rfl⟩)))
    | with_reducible refine mk_findNil rfl (by simp only [dn] <;> rfl) ?_
    | (refine st_back (by rfl) (by simp only [dn, reduceCtorEq, va_map, r0, rq, qq, wq, uq] <;> rfl) (by simp only [dn] <;> rfl) (by rfl) ?_ ?_
       focus (rw [wrap_small (n := i + 1) (by omega) (by omega)]
              exact ⟨h, g, k, c, gl, kl, c6, p, ⟨s, H, n, ck, ch, ci, cl, ((FindSt.new (twL s H) q H).step M).2, ks, hs, is, ls⟩, M0, ls0, o0, o1, none, k0, k1, q, i + 1, _, rfl, ⟨hn1, hH1⟩, hkl, by omega, by omega, sg.1, sg.2.2.2 _ _ f0, sg.2.2.2 _ _ f1, fok_none⟩)
       focus (rw [wrap_small (n := i + 1) (by omega) (by omega)]; show ((kl : Int) - (i + 1)).toNat < ((kl : Int) - i).toNat; omega))
    | fail "no step")
 · have hE : errF ((FindSt.new (twL s H) q H).step M).1 = 14 := err_busy sg.2.2.1 hov
   have b3 : True := trivial
   unfold tFKeepsL2
   repeat' (first
    | (refine st_callm (by rfl) (by simp only [dn, reduceCtorEq, va_map, r0, rq, qq, wq, uq, hE] <;> rfl) ?_ (fun o env' hm he => ?_)
       focus first | exact ⟨⟨s, H, n, ck, ch, ci, cl, M, ks, hs, is, ls⟩, (FindSt.new (twL s H) q H), q, nx, _, rfl, hG, a1, a2, a3⟩ | exact ⟨⟨s, H, n, ck, ch, ci, cl, ((FindSt.new (twL s H) q H).step M).2, ks, hs, is, ls⟩, ((FindSt.new (twL s H) q H).step M).1, q, rfl, sg.1.f, b3⟩
       first
        | (obtain ⟨E2, F2, e1, rfl⟩ := hm
           obtain ⟨rfl, rfl⟩ := lseF_inj (E := ⟨s, H, n, ck, ch, ci, cl, M, ks, hs, is, ls⟩) (F := (FindSt.new (twL s H) q H)) e1
           simp only [List.cons_append, List.nil_append] at he
           subst he)
        | (obtain ⟨E2, F2, key2, e1, rfl⟩ := hm
           obtain rfl := lseE_inj (E := ⟨s, H, n, ck, ch, ci, cl, ((FindSt.new (twL s H) q H).step M).2, ks, hs, is, ls⟩) (F := ((FindSt.new (twL s H) q H).step M).1) e1
           simp only [List.cons_append, List.nil_append] at he
           subst he))
    | (first
      | (with_reducible refine st_need ?_ ?_
         focus (simp only [dn, reduceCtorEq, va_map, r0, rq, qq, wq, uq, hE] <;> first | omega | assumption))
      | (with_reducible refine st_and ?_ ?_)
      | (with_reducible exact st_ok)
      | (with_reducible refine st_br (fun hc => ?_) (fun hc => ?_) <;> (simp only [dn, reduceCtorEq, va_map, r0, rq, qq, wq, uq, hE] at hc) <;> (try (exfalso; first | contradiction | omega)))
      | (refine st_call (by rfl) (by simp only [dn, reduceCtorEq, va_map, r0, rq, qq, wq, uq, hE] <;> rfl) ?_ (by simp only [out_pick, r0, out_fnew, out_ferr, hE] <;> rfl) (by simp only [dn] <;> rfl) ?_
         focus (first | exact pre_pick (by decide) (by decide) | exact ⟨_, _, _, _, _, _, _, _, _, _, _, _, _, _, rfl, ht⟩ | exact ⟨_, rfl⟩)))
    | with_reducible refine mk_findNil rfl (by simp only [dn] <;> rfl) ?_
    | (refine st_back (by rfl) (by simp only [dn, reduceCtorEq, va_map, r0, rq, qq, wq, uq] <;> rfl) (by simp only [dn] <;> rfl) (by rfl) ?_ ?_
       focus (rw [wrap_small (n := i + 1) (by omega) (by omega)]
              exact ⟨h, g, k, c, gl, kl, c6, p, ⟨s, H, n, ck, ch, ci, cl, ((FindSt.new (twL s H) q H).step M).2, ks, hs, is, ls⟩, M0, ls0, o0, o1, (some ((FindSt.new (twL s H) q H).step M).1), k0, k1, q, i + 1, _, rfl, ⟨hn1, hH1⟩, hkl, by omega, by omega, sg.1, sg.2.2.2 _ _ f0, sg.2.2.2 _ _ f1, fok_some sg.2.1 hov sg.2.2.1⟩)
       focus (rw [wrap_small (n := i + 1) (by omega) (by omega)]; show ((kl : Int) - (i + 1)).toNat < ((kl : Int) - i).toNat; omega))
    | fail "no step")
theorem bFk12s (P : Program) (hs' : List (Nat × Nat × List Nat)) {h : Int} {g : Nat → Nat → Int} {k : Nat} {c : Int} {gl : Nat → Nat → Int} {kl : Nat} {c6 p s H n ck ch ci cl : Int} {M : MemSt} {ks hs is ls : List Int} {M0 : MemSt} {ls0 : List Int} {o0 o1 o2 : Option FindSt} {k0 k1 k2 : Int} {nx : Int → Int → Int} {i q m : Int} {G : FindSt} (hn1 : n = k) (hH1 : H = 1 + p) (hkl : kl ≤ 300) (i0 : 0 ≤ i) (hi : i < kl) (hG : (LsE.mk s H n ck ch ci cl M ks hs is ls).good nx) (f0 : fOk (KL.mk' n H ks hs is) nx (nthL ls) k0 o0) (f1 : fOk (KL.mk' n H ks hs is) nx (nthL ls) k1 o1) (f2 : fOk (KL.mk' n H ks hs is) nx (nthL ls) k2 (some G)) (r0 : (gl i.toNat 0).emod 400 = m) (rq : m.tmod 4 = 2) (qq : m.tdiv 4 = q) (q0 : 0 ≤ q) (q1 : q < 100) :
 tFKeepsL2.sat { cxUi P [lFk1, lFk2, lFk3] with hints := hs' } (ctrR cFKeeps) [.i h, .f g k, .i k, .i c, .f gl kl, .i kl, .i c6, .b true, .i p, .i (9 + 2 * s + H), .i (9 + 2 * s), .i H, .i 0, .i 1, .i s, .i (1 + s), .i (1 + 2 * s), .i 99, .i (2 + 2 * s), .i (3 + 2 * s), .i 3, .i (6 + 2 * s), .i n, .i ck, .i ch, .i ci, .i cl, .u (.mem M0), .l ks, .l hs, .l is, .l ls0, .u (.mem M), .l ls, .u (fO o0), .u (fO o1), .u (.find G), .i k0, .i k1, .i k2, .i i] := by
 have wq : IntKind.i64.wrap q = q := wrap_small (by omega) (by omega)
 have uq : IntKind.u64.wrap q = q := wrap_u64' (by omega) (by omega)
 have hE := hG.f
 obtain ⟨hX, hs0, hk, hh, hi, hl, hM, hkw⟩ := id hE
 have hX : (KL.mk' n H ks hs is).ok := hX
 have n0 : 0 ≤ n := hX.n0
 have n9 : n ≤ 9 := hX.n9
 have H1 : 1 ≤ H := hX.H1
 have H4 : H ≤ 4 := hX.H4
 have hs1 : s = if n < 1 then 1 else n := hs0
 have hs2 : 1 ≤ s ∧ s ≤ 9 ∧ n ≤ s := by split at hs1 <;> omega
 have hk : n ≤ ks.length := hk
 have hh : n ≤ hs.length := hh
 have hi : n ≤ is.length := hi
 have hl : n ≤ ls.length := hl
 have ht := KL.okL (s := s) (H := H) hs2.1 hs2.2.1 H1 H4
 obtain ⟨fs, a1, a2, a3⟩ := f2 G rfl
 have sg := step_good hG a1 a2 a3
 by_cases hov : ((KL.mk' n H ks hs is).step k2 nx (nthL ls) fs).1 = .over
 · have b3 : (KL.mk' n H ks hs is).FRep k2 (G.step M).1 .over := by have := sg.2.2.1; rw [show (LsE.X (LsE.mk s H n ck ch ci cl M ks hs is ls)) = KL.mk' n H ks hs is from rfl] at this; rw [hov] at this; exact this
   have hE : errF (G.step M).1 = 0 := err_over b3
   unfold tFKeepsL2
   repeat' (first
    | (refine st_callm (by rfl) (by simp only [dn, reduceCtorEq, va_map, r0, rq, qq, wq, uq, hE] <;> rfl) ?_ (fun o env' hm he => ?_)
       focus first | exact ⟨⟨s, H, n, ck, ch, ci, cl, M, ks, hs, is, ls⟩, G, k2, nx, _, rfl, hG, a1, a2, a3⟩ | exact ⟨⟨s, H, n, ck, ch, ci, cl, (G.step M).2, ks, hs, is, ls⟩, (G.step M).1, k2, rfl, sg.1.f, b3⟩
       first
        | (obtain ⟨E2, F2, e1, rfl⟩ := hm
           obtain ⟨rfl, rfl⟩ := lseF_inj (E := ⟨s, H, n, ck, ch, ci, cl, M, ks, hs, is, ls⟩) (F := G) e1
           simp only [List.cons_append, List.nil_append] at he
           subst he)
        | (obtain ⟨E2, F2, key2, e1, rfl⟩ := hm
           obtain rfl := lseE_inj (E := ⟨s, H, n, ck, ch, ci, cl, (G.step M).2, ks, hs, is, ls⟩) (F := (G.step M).1) e1
           simp only [List.cons_append, List.nil_append] at he
           subst he))
    | (first
      | (with_reducible refine st_need ?_ ?_
         focus (simp only [dn, reduceCtorEq, va_map, r0, rq, qq, wq, uq, hE] <;> first | omega | assumption))
      | (with_reducible refine st_and ?_ ?_)
      | (with_reducible exact st_ok)
      | (with_reducible refine st_br (fun hc => ?_) (fun hc => ?_) <;> (simp only [dn, reduceCtorEq, va_map, r0, rq, qq, wq, uq, hE] at hc) <;> (try (exfalso; first | contradiction | omega)))
      | (refine st_call (by rfl) (by simp only [dn, reduceCtorEq, va_map, r0, rq, qq, wq, uq, hE] <;> rfl) ?_ (by simp only [out_pick, r0, out_fnew, out_ferr, hE] <;> rfl) (by simp only [dn] <;> rfl) ?_
         focus (first | exact pre_pick (by decide) (by decide) | exact ⟨_, _, _, _, _, _, _, _, _, _, _, _, _, _, rfl, ht⟩ | exact ⟨_, rfl⟩)))
    | with_reducible refine mk_findNil rfl (by simp only [dn] <;> rfl) ?_
    | (refine st_back (by rfl) (by simp only [dn, reduceCtorEq, va_map, r0, rq, qq, wq, uq] <;> rfl) (by simp only [dn] <;> rfl) (by rfl) ?_ ?_
       focus (rw [wrap_small (n := i + 1) (by omega) (by omega)]
              exact ⟨h, g, k, c, gl, kl, c6, p, ⟨s, H, n, ck, ch, ci, cl, (G.step M).2, ks, hs, is, ls⟩, M0, ls0, o0, o1, none, k0, k1, k2, i + 1, _, rfl, ⟨hn1, hH1⟩, hkl, by omega, by omega, sg.1, sg.2.2.2 _ _ f0, sg.2.2.2 _ _ f1, fok_none⟩)
       focus (rw [wrap_small (n := i + 1) (by omega) (by omega)]; show ((kl : Int) - (i + 1)).toNat < ((kl : Int) - i).toNat; omega))
    | fail "no step")
 · have hE : errF (G.step M).1 = 14 := err_busy sg.2.2.1 hov
   have b3 : True := trivial
   unfold tFKeepsL2
   repeat' (first
    | (refine st_callm (by rfl) (by simp only [dn, reduceCtorEq, va_map, r0, rq, qq, wq, uq, hE] <;> rfl) ?_ (fun o env' hm he => ?_)
       focus first | exact ⟨⟨s, H, n, ck, ch, ci, cl, M, ks, hs, is, ls⟩, G, k2, nx, _, rfl, hG, a1, a2, a3⟩ | exact ⟨⟨s, H, n, ck, ch, ci, cl, (G.step M).2, ks, hs, is, ls⟩, (G.step M).1, k2, rfl, sg.1.f, b3⟩
       first
        | (obtain ⟨E2, F2, e1, rfl⟩ := hm
           obtain ⟨rfl, rfl⟩ := lseF_inj (E := ⟨s, H, n, ck, ch, ci, cl, M, ks, hs, is, ls⟩) (F := G) e1
           simp only [List.cons_append, List.nil_append] at he
           subst he)
        | (obtain ⟨E2, F2, key2, e1, rfl⟩ := hm
           obtain rfl := lseE_inj (E := ⟨s, H, n, ck, ch, ci, cl, (G.step M).2, ks, hs, is, ls⟩) (F := (G.step M).1) e1
           simp only [List.cons_append, List.nil_append] at he
           subst he))
    | (first
      | (with_reducible refine st_need ?_ ?_
         focus (simp only [dn, reduceCtorEq, va_map, r0, rq, qq, wq, uq, hE] <;> first | omega | assumption))
      | (with_reducible refine st_and ?_ ?_)
      | (with_reducible exact st_ok)
      | (with_reducible refine st_br (fun hc => ?_) (fun hc => ?_) <;> (simp only [dn, reduceCtorEq, va_map, r0, rq, qq, wq, uq, hE] at hc) <;> (try (exfalso; first | contradiction | omega)))
      | (refine st_call (by rfl) (by simp only [dn, reduceCtorEq, va_map, r0, rq, qq, wq, uq, hE] <;> rfl) ?_ (by simp only [out_pick, r0, out_fnew, out_ferr, hE] <;> rfl) (by simp only [dn] <;> rfl) ?_
         focus (first | exact pre_pick (by decide) (by decide) | exact ⟨_, _, _, _, _, _, _, _, _, _, _, _, _, _, rfl, ht⟩ | exact ⟨_, rfl⟩)))
    | with_reducible refine mk_findNil rfl (by simp only [dn] <;> rfl) ?_
    | (refine st_back (by rfl) (by simp only [dn, reduceCtorEq, va_map, r0, rq, qq, wq, uq] <;> rfl) (by simp only [dn] <;> rfl) (by rfl) ?_ ?_
       focus (rw [wrap_small (n := i + 1) (by omega) (by omega)]
              exact ⟨h, g, k, c, gl, kl, c6, p, ⟨s, H, n, ck, ch, ci, cl, (G.step M).2, ks, hs, is, ls⟩, M0, ls0, o0, o1, (some (G.step M).1), k0, k1, k2, i + 1, _, rfl, ⟨hn1, hH1⟩, hkl, by omega, by omega, sg.1, sg.2.2.2 _ _ f0, sg.2.2.2 _ _ f1, fok_some sg.2.1 hov sg.2.2.1⟩)
       focus (rw [wrap_small (n := i + 1) (by omega) (by omega)]; show ((kl : Int) - (i + 1)).toNat < ((kl : Int) - i).toNat; omega))
    | fail "no step")
end Go.Proofs.Ytbmbiiiacajolaa
