/- Texts of this proof. -/
import Derived.Test.YtbmbiiiacajolaaUeK
namespace Go.Proofs.Ytbmbiiiacajolaa
set_option linter.unusedVariables false
set_option linter.unusedSimpArgs false
set_option linter.unusedSectionVars false
open Go Go.RowKit
theorem told9 {F : FindSt} (h : F.line = 9) (L : List Int) : F.told L = L := if_pos h
theorem nthA {L c : List Int} {j : Int} (h0 : 0 ≤ j) (h1 : j < L.length) : (L ++ c)[j.toNat]?.getD 0 = L[j.toNat]?.getD 0 := by rw [List.getElem?_append_left (by omega)]
set_option maxRecDepth 10000
set_option maxHeartbeats 8000000
theorem bLEnd (P : Program) (hs' : List (Nat × Nat × List Nat)) : ∀ env, leInv env → tLEndL0.sat { cxUe P [lLEnd] with hints := hs' } (ctrR cLEnd) env := by
 rintro env ⟨E, F, key, x1, x2, x3, c1, c2, c3, y1, y2, y3, j, rfl, hE, hF, j0, j1⟩
 obtain ⟨s, H, n, ck, ch, ci, cl, M, ks, hs, is, ls⟩ := E
 obtain ⟨hX, hs0, hk, hh, hi, hl, hM, hkw⟩ := id hE
 have hX : (KL.mk' n H ks hs is).ok := hX
 have n0 : 0 ≤ n := hX.n0
 have n9 : n ≤ 9 := hX.n9
 have H1 : 1 ≤ H := hX.H1
 have H4 : H ≤ 4 := hX.H4
 have hs1 : s = if n < 1 then 1 else n := hs0
 have hs2 : 1 ≤ s ∧ s ≤ 9 ∧ n ≤ s := by split at hs1 <;> omega
 have hk : n ≤ ks.length := hk
 have hh : n ≤ hs.length := hh
 have hi : n ≤ is.length := hi
 have hl : n ≤ ls.length := hl
 have hF : (KL.mk' n H ks hs is).FRep key F .over := hF
 have j1 : j ≤ H := j1
 have hP : (F.P.length : Int) = H := hF.1.P
 have hS : (F.S.length : Int) = H := hF.1.S
 have hK : (F.K.length : Int) = H := hF.1.K
 by_cases hj : j < H
 · obtain ⟨p, c, q1, q2, q3, r1, r2, r3, r4, r5, r6⟩ := hF.1.lvs j (by show -1 < j; omega) j0 hj
   have r2 : p < n := r2
   have r5 : c < n := r5
   have eP : (F.P ++ c1)[j.toNat]?.getD 0 = p := by rw [nthA j0 (by omega)]; exact q1
   have eS : (F.S ++ c2)[j.toNat]?.getD 0 = rfN c := by rw [nthA j0 (by omega)]; exact q3
   have eK : (F.K ++ c3)[j.toNat]?.getD 0 = rfN p := by rw [nthA j0 (by omega)]; exact q2
   have gP : (F.P ++ c1).length = F.P.length + c1.length := List.length_append
   have gS : (F.S ++ c2).length = F.S.length + c2.length := List.length_append
   have gK : (F.K ++ c3).length = F.K.length + c3.length := List.length_append
   have hrf := refO_rf (c := c) (by omega) (by omega)
   have hoW : isW (rfN c) := rf_W (by omega) (by omega)
   have r6 : 0 ≤ c → key ≤ ks[c.toNat]?.getD 0 := r6
   simp only [LsE.env, List.cons_append, List.nil_append]
   by_cases hp : 0 ≤ p
   · have r3 : ks[p.toNat]?.getD 0 < key := r3 hp
     have hri := ref_e hp (by omega)
     simp only [dn] at hri
     have hpz : True := trivial
     by_cases hc0 : 0 ≤ c
     · have r6 := r6 hc0
       unfold tLEndL0
       repeat' (first
        | (first
          | (with_reducible refine st_need ?_ ?_
             focus (simp only [dn, reduceCtorEq, va_map, eP, eS, eK, gP, gS, gK, hri, hpz, reduceIte] <;> first | omega | assumption))
          | (with_reducible refine st_and ?_ ?_)
          | (with_reducible exact st_ok)
          | (with_reducible refine st_br (fun hc => ?_) (fun hc => ?_) <;> (simp only [dn, reduceCtorEq, va_map, eP, eS, eK, gP, gS, gK, hri, hpz, reduceIte] at hc) <;> (try (exfalso; first | contradiction | omega)))
          | (refine st_call (by rfl) (by simp only [dn, reduceCtorEq, va_map, eP, eS, eK, gP, gS, gK, hri, hpz, reduceIte] <;> rfl) ?_ (by simp only [out_gref, hrf] <;> rfl) (by simp only [dn] <;> rfl) ?_
             focus (first | exact ⟨_, rfl, hoW⟩)))
        | (refine st_back (by rfl) (by simp only [dn, reduceCtorEq, va_map] <;> rfl) (by simp only [dn] <;> rfl) (by rfl) ?_ ?_
           focus (rw [wrap_small (n := j + 1) (by omega) (by omega)]
                  exact ⟨(LsE.mk s H n ck ch ci cl M ks hs is ls), F, key, _, _, _, _, _, _, _, _, _, _, rfl, hE, hF, by omega, by show j + 1 ≤ H; omega⟩)
           focus (rw [wrap_small (n := j + 1) (by omega) (by omega)]; show (H - (j + 1)).toNat < (H - j).toNat; omega))
        | fail "no step")
     · unfold tLEndL0
       repeat' (first
        | (first
          | (with_reducible refine st_need ?_ ?_
             focus (simp only [dn, reduceCtorEq, va_map, eP, eS, eK, gP, gS, gK, hri, hpz, reduceIte] <;> first | omega | assumption))
          | (with_reducible refine st_and ?_ ?_)
          | (with_reducible exact st_ok)
          | (with_reducible refine st_br (fun hc => ?_) (fun hc => ?_) <;> (simp only [dn, reduceCtorEq, va_map, eP, eS, eK, gP, gS, gK, hri, hpz, reduceIte] at hc) <;> (try (exfalso; first | contradiction | omega)))
          | (refine st_call (by rfl) (by simp only [dn, reduceCtorEq, va_map, eP, eS, eK, gP, gS, gK, hri, hpz, reduceIte] <;> rfl) ?_ (by simp only [out_gref, hrf] <;> rfl) (by simp only [dn] <;> rfl) ?_
             focus (first | exact ⟨_, rfl, hoW⟩)))
        | (refine st_back (by rfl) (by simp only [dn, reduceCtorEq, va_map] <;> rfl) (by simp only [dn] <;> rfl) (by rfl) ?_ ?_
           focus (rw [wrap_small (n := j + 1) (by omega) (by omega)]
                  exact ⟨(LsE.mk s H n ck ch ci cl M ks hs is ls), F, key, _, _, _, _, _, _, _, _, _, _, rfl, hE, hF, by omega, by show j + 1 ≤ H; omega⟩)
           focus (rw [wrap_small (n := j + 1) (by omega) (by omega)]; show (H - (j + 1)).toNat < (H - j).toNat; omega))
        | fail "no step")
   · have hpm : p = -1 := by omega
     have hpz : rfN p = 0 := by rw [hpm]; rfl
     have hri : True := trivial
     by_cases hc0 : 0 ≤ c
     · have r6 := r6 hc0
       unfold tLEndL0
       repeat' (first
        | (first
          | (with_reducible refine st_need ?_ ?_
             focus (simp only [dn, reduceCtorEq, va_map, eP, eS, eK, gP, gS, gK, hri, hpz, reduceIte] <;> first | omega | assumption))
          | (with_reducible refine st_and ?_ ?_)
          | (with_reducible exact st_ok)
          | (with_reducible refine st_br (fun hc => ?_) (fun hc => ?_) <;> (simp only [dn, reduceCtorEq, va_map, eP, eS, eK, gP, gS, gK, hri, hpz, reduceIte] at hc) <;> (try (exfalso; first | contradiction | omega)))
          | (refine st_call (by rfl) (by simp only [dn, reduceCtorEq, va_map, eP, eS, eK, gP, gS, gK, hri, hpz, reduceIte] <;> rfl) ?_ (by simp only [out_gref, hrf] <;> rfl) (by simp only [dn] <;> rfl) ?_
             focus (first | exact ⟨_, rfl, hoW⟩)))
        | (refine st_back (by rfl) (by simp only [dn, reduceCtorEq, va_map] <;> rfl) (by simp only [dn] <;> rfl) (by rfl) ?_ ?_
           focus (rw [wrap_small (n := j + 1) (by omega) (by omega)]
                  exact ⟨(LsE.mk s H n ck ch ci cl M ks hs is ls), F, key, _, _, _, _, _, _, _, _, _, _, rfl, hE, hF, by omega, by show j + 1 ≤ H; omega⟩)
           focus (rw [wrap_small (n := j + 1) (by omega) (by omega)]; show (H - (j + 1)).toNat < (H - j).toNat; omega))
        | fail "no step")
     · unfold tLEndL0
       repeat' (first
        | (first
          | (with_reducible refine st_need ?_ ?_
             focus (simp only [dn, reduceCtorEq, va_map, eP, eS, eK, gP, gS, gK, hri, hpz, reduceIte] <;> first | omega | assumption))
          | (with_reducible refine st_and ?_ ?_)
          | (with_reducible exact st_ok)
          | (with_reducible refine st_br (fun hc => ?_) (fun hc => ?_) <;> (simp only [dn, reduceCtorEq, va_map, eP, eS, eK, gP, gS, gK, hri, hpz, reduceIte] at hc) <;> (try (exfalso; first | contradiction | omega)))
          | (refine st_call (by rfl) (by simp only [dn, reduceCtorEq, va_map, eP, eS, eK, gP, gS, gK, hri, hpz, reduceIte] <;> rfl) ?_ (by simp only [out_gref, hrf] <;> rfl) (by simp only [dn] <;> rfl) ?_
             focus (first | exact ⟨_, rfl, hoW⟩)))
        | (refine st_back (by rfl) (by simp only [dn, reduceCtorEq, va_map] <;> rfl) (by simp only [dn] <;> rfl) (by rfl) ?_ ?_
           focus (rw [wrap_small (n := j + 1) (by omega) (by omega)]
                  exact ⟨(LsE.mk s H n ck ch ci cl M ks hs is ls), F, key, _, _, _, _, _, _, _, _, _, _, rfl, hE, hF, by omega, by show j + 1 ≤ H; omega⟩)
           focus (rw [wrap_small (n := j + 1) (by omega) (by omega)]; show (H - (j + 1)).toNat < (H - j).toNat; omega))
        | fail "no step")
 · simp only [LsE.env, List.cons_append, List.nil_append]
   unfold tLEndL0
   repeat' (first
    | (first
      | (with_reducible refine st_need ?_ ?_
         focus (simp only [dn, reduceCtorEq, va_map] <;> first | omega | assumption))
      | (with_reducible refine st_and ?_ ?_)
      | (with_reducible exact st_ok)
      | (with_reducible refine st_br (fun hc => ?_) (fun hc => ?_) <;> (simp only [dn, reduceCtorEq, va_map] at hc) <;> (try (exfalso; first | contradiction | omega)))
      | (refine st_call (by rfl) (by simp only [dn, reduceCtorEq, va_map] <;> rfl) ?_ (by rfl <;> rfl) (by simp only [dn] <;> rfl) ?_
         focus (first | rfl)))
    | (refine st_ret (by simp only [dn, reduceCtorEq, va_map] <;> rfl) ?_
       exact ⟨(LsE.mk s H n ck ch ci cl M ks hs is ls), F, key, rfl, rfl⟩)
    | fail "no step")
theorem vLEnd (P : Program) (hs' : List (Nat × Nat × List Nat)) : ∀ ins, ins.length = cLEnd.nin → cLEnd.pre ins → tLEnd.sat { cxUe P [lLEnd] with hints := hs' } (ctrR cLEnd) ins := by
 rintro ins _ ⟨E, F, key, rfl, hE, hF⟩
 obtain ⟨s, H, n, ck, ch, ci, cl, M, ks, hs, is, ls⟩ := E
 obtain ⟨hX, hs0, hk, hh, hi, hl, hM, hkw⟩ := id hE
 have hX : (KL.mk' n H ks hs is).ok := hX
 have n0 : 0 ≤ n := hX.n0
 have n9 : n ≤ 9 := hX.n9
 have H1 : 1 ≤ H := hX.H1
 have H4 : H ≤ 4 := hX.H4
 have hs1 : s = if n < 1 then 1 else n := hs0
 have hs2 : 1 ≤ s ∧ s ≤ 9 ∧ n ≤ s := by split at hs1 <;> omega
 have hk : n ≤ ks.length := hk
 have hh : n ≤ hs.length := hh
 have hi : n ≤ is.length := hi
 have hl : n ≤ ls.length := hl
 have hF : (KL.mk' n H ks hs is).FRep key F .over := hF
 have hP : (F.P.length : Int) = H := hF.1.P
 have hS : (F.S.length : Int) = H := hF.1.S
 have hK : (F.K.length : Int) = H := hF.1.K
 have h9 : F.line = 9 := hF.2
 have hT := told9 h9
 have hE0 : errF F = 0 := if_pos h9
 simp only [LsE.env, List.cons_append, List.nil_append]
 unfold tLEnd
 repeat' (first
  | (refine st_callm (by rfl) (by simp only [dn, reduceCtorEq, va_map] <;> rfl) ?_ (fun o env' hm he => ?_)
     focus exact ⟨_, rfl⟩
     obtain ⟨cc, rfl⟩ := hm
     simp only [rowF_e, hT, List.cons_append, List.nil_append] at he
     subst he)
  | (refine st_loop (by rfl) (by simp only [dn, reduceCtorEq, va_map] <;> rfl) (by simp only [dn] <;> rfl) ?_ (fun env' h => bLEnd P hs' env' h)
     exact ⟨(LsE.mk s H n ck ch ci cl M ks hs is ls), F, key, _, _, _, _, _, _, _, _, _, 0, rfl, hE, hF, by omega, by show (0 : Int) ≤ H; omega⟩)
  | (first
    | (with_reducible refine st_need ?_ ?_
       focus (simp only [dn, reduceCtorEq, va_map] <;> first | omega | assumption))
    | (with_reducible refine st_and ?_ ?_)
    | (with_reducible exact st_ok)
    | (with_reducible refine st_br (fun hc => ?_) (fun hc => ?_) <;> (simp only [dn, reduceCtorEq, va_map] at hc) <;> (try (exfalso; first | contradiction | omega)))
    | (refine st_call (by rfl) (by simp only [dn, reduceCtorEq, va_map] <;> rfl) ?_ (by simp only [out_ferr, hE0] <;> rfl) (by simp only [dn] <;> rfl) ?_
       focus (first | exact ⟨_, rfl⟩)))
  | fail "no step")
theorem hctsUe : ∀ (ci : Nat) (c : Ctr U), ctsUe[ci]? = some c → c.Holds objs Try.prog := by
 intro ci c h
 match ci, h with
 | 0, h => cases h; exact hFPreds
 | 1, h => cases h; exact hFSuccs
 | 2, h => cases h; exact hFKnown
 | 3, h => cases h; exact hFErr
 | 4, h => cases h; exact hGetRef
 | n + 5, h => cases h
theorem hLEnd : cLEnd.Holds objs Try.prog := runCtr_holdsm (X := { cxUe Try.prog [lLEnd] with hints := hsLEnd }) objsOk mixed hctsUe (callable _ Try.func50 (by kernel_rfl) (by kernel_rfl)) (by rintro ins outs _ ⟨E, F, key, rfl, _⟩ ⟨E', F', key', _, rfl⟩; rfl) (by rw [rLEnd]; exact vLEnd _ _)
end Go.Proofs.Ytbmbiiiacajolaa
