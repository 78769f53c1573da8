/- Texts of this proof. -/
import Derived.Test.YtdldcofddfkkbaaGreatHdTO
namespace Go.Proofs.YtdldcofddfkkbaaGreat
set_option linter.unusedVariables false
set_option linter.unusedSimpArgs false
set_option linter.unusedSectionVars false
open Go Go.RowKit
theorem ihA_n : ihA none = .insNil := rfl
theorem ihA_s (I : InsSt) : ihA (some I) = .ins I := rfl
theorem ihB_n : ihB none = .rinsNil := rfl
theorem ihB_s (I : InsSt) : ihB (some I) = .rins I := rfl
theorem ih_none : ihOk none := fun _ h => by cases h
theorem ih_some {I : InsSt} (h : I.ok) : ihOk (some I) := fun _ e => by cases e; exact h
theorem pick3 {x : Int} : x.emod 3 = 0 ∨ x.emod 3 = 1 ∨ x.emod 3 = 2 := by
 have := Int.emod_nonneg x (show (3 : Int) ≠ 0 by decide)
 have := Int.emod_lt_of_pos x (show (0 : Int) < 3 by decide)
 show x % 3 = 0 ∨ x % 3 = 1 ∨ x % 3 = 2
 omega
theorem out_qlast (M : MemSt) : cQLast.out [.u (.rmem M)] = [.u (.rmem M), .i M.k, .i M.a, .i M.o, .i M.n, .b M.h] := rfl
theorem out_qcount (M : MemSt) : cQCount.out [.u (.rmem M)] = [.u (.rmem M), .i M.N] := rfl
theorem out_qnew {n : Int} (h : 1 ≤ n) (h1 : n ≤ 4096) : cQNew.out [.i n] = [.u (.rmem (.new n)), .i 0] := by simp [cQNew, h, h1]
theorem pre_swm {M : MemSt} {c : List Int} (h : M.W.length ≤ 4096) : cSameWords.pre [.l M.W, .l (M.W ++ c), .i M.W.length, .i M.W.length, .i M.W.length, .i ((M.W.length + c.length : Nat) : Int)] :=
 pre_same (by omega) (by omega) (by omega) (by simp; omega) (by omega)
theorem out_swm {M : MemSt} {c : List Int} : cSameWords.out [.l M.W, .l (M.W ++ c), .i M.W.length, .i M.W.length, .i M.W.length, .i ((M.W.length + c.length : Nat) : Int)] = [.b true] := by
 rw [out_same]; simp
theorem qwords {M : MemSt} {k : Tree} {env : List (EV U)} {X : Cx U} {R : List (EV U) → List (EV U) → Prop} {ci : Nat} {β : List Bnd} (hc : X.cts[ci]? = some cQWords) (ha : β.map (Bnd.den env) = [.u (.rmem M)]) (h : 1 ≤ M.W.length) (h1 : M.W.length ≤ 4096)
 (hk : ∀ (c : List Int) (env' : List (EV U)), env ++ [.u (.rmem M), .l (M.W ++ c), .i M.W.length, .i ((M.W.length + c.length : Nat) : Int)] = env' → k.sat X R env') : (Tree.callm ci β k).sat X R env :=
 st_callm hc ha ⟨_, rfl, h, h1⟩ (fun o env' ho he => by obtain ⟨c, rfl⟩ := ho; exact hk c env' he)
theorem out_dfits (n h a t l s g w m ea ep ec tp c : Int) : cDF15.out [.i n, .i h, .i a, .i t, .i l, .i s, .i g, .i w, .i m, .i ea, .i ep, .i ec, .i tp, .i c] = [.i (fits15D n h a t l s g w m ea ep ec tp c)] := rfl
theorem out_inew (a0 a1 a2 a3 a4 a5 a6 a7 a8 a9 a10 a11 a12 r k g : Int) : cINew.out [.i a0, .i a1, .i a2, .i a3, .i a4, .i a5, .i a6, .i a7, .i a8, .i a9, .i a10, .i a11, .i a12, .i r, .i k, .i g] = [.u (.ins (.new [a0, a1, a2, a3, a4, a5, a6, a7, a8, a9, a10, a11, a12] r k g a0 a1 a2 a5))] := rfl
theorem out_qinew (a0 a1 a2 a3 a4 a5 a6 a7 a8 a9 a10 a11 a12 r k g : Int) : cQINew.out [.i a0, .i a1, .i a2, .i a3, .i a4, .i a5, .i a6, .i a7, .i a8, .i a9, .i a10, .i a11, .i a12, .i r, .i k, .i g] = [.u (.rins (.new [a0, a1, a2, a3, a4, a5, a6, a7, a8, a9, a10, a11, a12] r k g a0 a1 a2 a5))] := rfl
theorem out_istep (I : InsSt) (M : MemSt) : cIStep.out [.u (.ins I), .u (.mem M)] = [.u (.ins (I.step M).1), .u (.mem (I.step M).2), .b ((I.step M).1.line == 0)] := rfl
theorem out_qistep (I : InsSt) (M : MemSt) : cQIStep.out [.u (.rins I), .u (.rmem M)] = [.u (.rins (I.step M).1), .u (.rmem (I.step M).2), .b ((I.step M).1.line == 0)] := rfl
theorem out_ialike (x y : U) : cIAlike.out [.u x, .u y] = [.u x, .u y, .b true] := rfl
theorem out_awk (f : FuncId) : (boolC f).out [] = [.b true] := rfl
section
variable {k : Tree} {env env' : List (EV U)} {X : Cx U} {R : List (EV U) → List (EV U) → Prop}
theorem mk_insNil (hX : X.objs = objs) (he : env ++ [.u .insNil] = env') (hk : k.sat X R env') : (Tree.ext (.mk 44 []) k).sat X R env := st_mk (T := insNilT) (by rw [hX]; rfl) rfl rfl he hk
theorem mk_rinsNil (hX : X.objs = objs) (he : env ++ [.u .rinsNil] = env') (hk : k.sat X R env') : (Tree.ext (.mk 60 []) k).sat X R env := st_mk (T := rinsNilT) (by rw [hX]; rfl) rfl rfl he hk
end
set_option maxRecDepth 10000 in
set_option maxHeartbeats 8000000 in
theorem bIS0 (P : Program) (hs : List (Nat × Nat × List Nat)) {a0 a1 a2 a3 a4 a5 a6 a7 a8 a9 a10 a11 a12 s : Int} {gi : Nat → Nat → Int} {ki : Nat} {ci : Int} {gl : Nat → Nat → Int} {kl : Nat} {cl : Int} {x20 x21 x22 x23 x24 x25 x26 x27 x28 x29 : EV U} {M : MemSt} {o0 o1 o2 : Option InsSt} {i : Int} (h1 : 0 ≤ i) (h2 : i ≤ kl) (h3 : kl ≤ 200) (h4 : 1 ≤ M.W.length) (hM : M.fine) (ht : okT a0 a1 a2 a5 = true) (hw : ∀ j, j < kl → isW (gl j 2)) (k0 : ihOk o0) (k1 : ihOk o1) (k2 : ihOk o2) (hp : (gl i.toNat 0).emod 3 = 0) :
 tIStepsL0.sat { cxHd P [lIS1, lIS2] with hints := hs } (ctrR cISteps) [.i a0, .i a1, .i a2, .i a3, .i a4, .i a5, .i a6, .i a7, .i a8, .i a9, .i a10, .i a11, .i a12, .i s, .f gi ki, .i ki, .i ci, .f gl kl, .i kl, .i cl, x20, x21, x22, x23, x24, x25, x26, x27, x28, x29, .u (.mem M), .u (.rmem M), .u (ihA o0), .u (ihB o0), .u (ihA o1), .u (ihB o1), .u (ihA o2), .u (ihB o2), .i i] := by
 by_cases hi : i < kl
 · have hw3 := hw i.toNat (by omega)
   rcases o0 with _ | L
   (have hL : True := trivial
    unfold tIStepsL0
    simp only [ihA_n, ihA_s, ihB_n, ihB_s])
   rotate_left
   (have hL := k0 L rfl
    unfold tIStepsL0
    simp only [ihA_n, ihA_s, ihB_n, ihB_s])
   rotate_left
   all_goals
    repeat' (first
     | (first
       | (with_reducible refine st_need ?_ ?_
          focus (simp only [dn, reduceCtorEq, hp, va_map] <;> first | omega | assumption))
       | (with_reducible refine st_and ?_ ?_)
       | (with_reducible exact st_ok)
       | (with_reducible refine st_br (fun hc => ?_) (fun hc => ?_) <;> (simp only [dn, reduceCtorEq, hp, va_map] at hc) <;> (try (exfalso; first | contradiction | omega)))
       | (refine st_call (by rfl) (by simp only [dn, reduceCtorEq, hp, va_map] <;> rfl) ?_ (by simp only [out_pick, hp, out_inew, out_qinew, out_istep, out_qistep, out_ialike, out_last, out_qlast, out_count, out_qcount, out_words, out_swm, out_awk] <;> rfl) (by simp only [dn] <;> rfl) ?_
          focus (first | exact pre_pick (by decide) (by decide) | exact ⟨_, _, _, _, _, _, _, _, _, _, _, _, _, _, _, _, rfl, ht, hw3⟩ | exact ⟨_, _, rfl, hM⟩ | exact .inl ⟨_, rfl⟩ | exact .inr rfl | exact ⟨_, rfl⟩ | rfl | exact pre_swm (by first | exact hM.1 | exact (ins_fine hL hM).1)))
       | (with_reducible refine st_ret (by simp only [dn, reduceCtorEq, hp, va_map] <;> rfl) ?_
          (first | rfl | exact ⟨_, rfl⟩)))
     | (refine qwords (by rfl) (by simp only [dn, reduceCtorEq, hp] <;> rfl) ?_ ?_ (fun cc env' he => ?_)
        focus exact (by first | assumption | (rw [ins_len]; assumption))
        focus exact (by first | exact hM.1 | exact (ins_fine hL hM).1)
        simp only [List.cons_append, List.nil_append] at he
        subst he)
     | (refine st_back (by rfl) (by simp only [dn, reduceCtorEq, hp, va_map] <;> rfl) (by simp only [dn] <;> rfl) (by rfl) ?_ ?_
        focus (rw [wrap_small (n := i + 1) (by omega) (by omega)]
               first
                | exact ⟨_, _, _, _, _, _, _, _, _, _, _, _, _, _, _, _, _, _, _, _, _, _, _, _, _, _, _, _, _, _, _, (some _), _, _, _, rfl, by omega, by omega, h3, (by first | assumption | (rw [ins_len]; assumption)), (by first | exact hM | exact ins_fine hL hM), ht, hw, (ih_some (by first | exact inew_ok hw3 | exact ins_ok hL hM | exact hL)), k1, k2⟩
                | exact ⟨_, _, _, _, _, _, _, _, _, _, _, _, _, _, _, _, _, _, _, _, _, _, _, _, _, _, _, _, _, _, _, none, _, _, _, rfl, by omega, by omega, h3, (by first | assumption | (rw [ins_len]; assumption)), (by first | exact hM | exact ins_fine hL hM), ht, hw, ih_none, k1, k2⟩)
        focus (rw [wrap_small (n := i + 1) (by omega) (by omega)]; show ((kl : Int) - (i + 1)).toNat < ((kl : Int) - i).toNat; omega))
     | fail "no step")
 · have hi' : (kl : Int) ≤ i := by omega
   unfold tIStepsL0
   repeat' (first
    | (first
      | (with_reducible refine st_need ?_ ?_
         focus (simp only [dn, reduceCtorEq, hp, va_map] <;> first | omega | assumption))
      | (with_reducible refine st_and ?_ ?_)
      | (with_reducible exact st_ok)
      | (with_reducible refine st_br (fun hc => ?_) (fun hc => ?_) <;> (simp only [dn, reduceCtorEq, hp, va_map] at hc) <;> (try (exfalso; first | contradiction | omega)))
      | (refine st_call (by rfl) (by simp only [dn, reduceCtorEq, hp, va_map] <;> rfl) ?_ (by simp only [out_awk] <;> rfl) (by simp only [dn] <;> rfl) ?_
         focus (first | rfl))
      | (with_reducible refine st_ret (by simp only [dn, reduceCtorEq, hp, va_map] <;> rfl) ?_
         (first | rfl | exact ⟨_, rfl⟩)))
    | fail "no step")
set_option maxRecDepth 10000 in
set_option maxHeartbeats 8000000 in
theorem bIS1 (P : Program) (hs : List (Nat × Nat × List Nat)) {a0 a1 a2 a3 a4 a5 a6 a7 a8 a9 a10 a11 a12 s : Int} {gi : Nat → Nat → Int} {ki : Nat} {ci : Int} {gl : Nat → Nat → Int} {kl : Nat} {cl : Int} {x20 x21 x22 x23 x24 x25 x26 x27 x28 x29 : EV U} {M : MemSt} {o0 o1 o2 : Option InsSt} {i : Int} (h1 : 0 ≤ i) (h2 : i ≤ kl) (h3 : kl ≤ 200) (h4 : 1 ≤ M.W.length) (hM : M.fine) (ht : okT a0 a1 a2 a5 = true) (hw : ∀ j, j < kl → isW (gl j 2)) (k0 : ihOk o0) (k1 : ihOk o1) (k2 : ihOk o2) (hp : (gl i.toNat 0).emod 3 = 1) :
 tIStepsL0.sat { cxHd P [lIS1, lIS2] with hints := hs } (ctrR cISteps) [.i a0, .i a1, .i a2, .i a3, .i a4, .i a5, .i a6, .i a7, .i a8, .i a9, .i a10, .i a11, .i a12, .i s, .f gi ki, .i ki, .i ci, .f gl kl, .i kl, .i cl, x20, x21, x22, x23, x24, x25, x26, x27, x28, x29, .u (.mem M), .u (.rmem M), .u (ihA o0), .u (ihB o0), .u (ihA o1), .u (ihB o1), .u (ihA o2), .u (ihB o2), .i i] := by
 by_cases hi : i < kl
 · have hw3 := hw i.toNat (by omega)
   rcases o1 with _ | L
   (have hL : True := trivial
    unfold tIStepsL0
    simp only [ihA_n, ihA_s, ihB_n, ihB_s])
   rotate_left
   (have hL := k1 L rfl
    unfold tIStepsL0
    simp only [ihA_n, ihA_s, ihB_n, ihB_s])
   rotate_left
   all_goals
    repeat' (first
     | (first
       | (with_reducible refine st_need ?_ ?_
          focus (simp only [dn, reduceCtorEq, hp, va_map] <;> first | omega | assumption))
       | (with_reducible refine st_and ?_ ?_)
       | (with_reducible exact st_ok)
       | (with_reducible refine st_br (fun hc => ?_) (fun hc => ?_) <;> (simp only [dn, reduceCtorEq, hp, va_map] at hc) <;> (try (exfalso; first | contradiction | omega)))
       | (refine st_call (by rfl) (by simp only [dn, reduceCtorEq, hp, va_map] <;> rfl) ?_ (by simp only [out_pick, hp, out_inew, out_qinew, out_istep, out_qistep, out_ialike, out_last, out_qlast, out_count, out_qcount, out_words, out_swm, out_awk] <;> rfl) (by simp only [dn] <;> rfl) ?_
          focus (first | exact pre_pick (by decide) (by decide) | exact ⟨_, _, _, _, _, _, _, _, _, _, _, _, _, _, _, _, rfl, ht, hw3⟩ | exact ⟨_, _, rfl, hM⟩ | exact .inl ⟨_, rfl⟩ | exact .inr rfl | exact ⟨_, rfl⟩ | rfl | exact pre_swm (by first | exact hM.1 | exact (ins_fine hL hM).1)))
       | (with_reducible refine st_ret (by simp only [dn, reduceCtorEq, hp, va_map] <;> rfl) ?_
          (first | rfl | exact ⟨_, rfl⟩)))
     | (refine qwords (by rfl) (by simp only [dn, reduceCtorEq, hp] <;> rfl) ?_ ?_ (fun cc env' he => ?_)
        focus exact (by first | assumption | (rw [ins_len]; assumption))
        focus exact (by first | exact hM.1 | exact (ins_fine hL hM).1)
        simp only [List.cons_append, List.nil_append] at he
        subst he)
     | (refine st_back (by rfl) (by simp only [dn, reduceCtorEq, hp, va_map] <;> rfl) (by simp only [dn] <;> rfl) (by rfl) ?_ ?_
        focus (rw [wrap_small (n := i + 1) (by omega) (by omega)]
               first
                | exact ⟨_, _, _, _, _, _, _, _, _, _, _, _, _, _, _, _, _, _, _, _, _, _, _, _, _, _, _, _, _, _, _, _, (some _), _, _, rfl, by omega, by omega, h3, (by first | assumption | (rw [ins_len]; assumption)), (by first | exact hM | exact ins_fine hL hM), ht, hw, k0, (ih_some (by first | exact inew_ok hw3 | exact ins_ok hL hM | exact hL)), k2⟩
                | exact ⟨_, _, _, _, _, _, _, _, _, _, _, _, _, _, _, _, _, _, _, _, _, _, _, _, _, _, _, _, _, _, _, _, none, _, _, rfl, by omega, by omega, h3, (by first | assumption | (rw [ins_len]; assumption)), (by first | exact hM | exact ins_fine hL hM), ht, hw, k0, ih_none, k2⟩)
        focus (rw [wrap_small (n := i + 1) (by omega) (by omega)]; show ((kl : Int) - (i + 1)).toNat < ((kl : Int) - i).toNat; omega))
     | fail "no step")
 · have hi' : (kl : Int) ≤ i := by omega
   unfold tIStepsL0
   repeat' (first
    | (first
      | (with_reducible refine st_need ?_ ?_
         focus (simp only [dn, reduceCtorEq, hp, va_map] <;> first | omega | assumption))
      | (with_reducible refine st_and ?_ ?_)
      | (with_reducible exact st_ok)
      | (with_reducible refine st_br (fun hc => ?_) (fun hc => ?_) <;> (simp only [dn, reduceCtorEq, hp, va_map] at hc) <;> (try (exfalso; first | contradiction | omega)))
      | (refine st_call (by rfl) (by simp only [dn, reduceCtorEq, hp, va_map] <;> rfl) ?_ (by simp only [out_awk] <;> rfl) (by simp only [dn] <;> rfl) ?_
         focus (first | rfl))
      | (with_reducible refine st_ret (by simp only [dn, reduceCtorEq, hp, va_map] <;> rfl) ?_
         (first | rfl | exact ⟨_, rfl⟩)))
    | fail "no step")
set_option maxRecDepth 10000 in
set_option maxHeartbeats 8000000 in
theorem bIS2 (P : Program) (hs : List (Nat × Nat × List Nat)) {a0 a1 a2 a3 a4 a5 a6 a7 a8 a9 a10 a11 a12 s : Int} {gi : Nat → Nat → Int} {ki : Nat} {ci : Int} {gl : Nat → Nat → Int} {kl : Nat} {cl : Int} {x20 x21 x22 x23 x24 x25 x26 x27 x28 x29 : EV U} {M : MemSt} {o0 o1 o2 : Option InsSt} {i : Int} (h1 : 0 ≤ i) (h2 : i ≤ kl) (h3 : kl ≤ 200) (h4 : 1 ≤ M.W.length) (hM : M.fine) (ht : okT a0 a1 a2 a5 = true) (hw : ∀ j, j < kl → isW (gl j 2)) (k0 : ihOk o0) (k1 : ihOk o1) (k2 : ihOk o2) (hp : (gl i.toNat 0).emod 3 = 2) :
 tIStepsL0.sat { cxHd P [lIS1, lIS2] with hints := hs } (ctrR cISteps) [.i a0, .i a1, .i a2, .i a3, .i a4, .i a5, .i a6, .i a7, .i a8, .i a9, .i a10, .i a11, .i a12, .i s, .f gi ki, .i ki, .i ci, .f gl kl, .i kl, .i cl, x20, x21, x22, x23, x24, x25, x26, x27, x28, x29, .u (.mem M), .u (.rmem M), .u (ihA o0), .u (ihB o0), .u (ihA o1), .u (ihB o1), .u (ihA o2), .u (ihB o2), .i i] := by
 by_cases hi : i < kl
 · have hw3 := hw i.toNat (by omega)
   rcases o2 with _ | L
   (have hL : True := trivial
    unfold tIStepsL0
    simp only [ihA_n, ihA_s, ihB_n, ihB_s])
   rotate_left
   (have hL := k2 L rfl
    unfold tIStepsL0
    simp only [ihA_n, ihA_s, ihB_n, ihB_s])
   rotate_left
   all_goals
    repeat' (first
     | (first
       | (with_reducible refine st_need ?_ ?_
          focus (simp only [dn, reduceCtorEq, hp, va_map] <;> first | omega | assumption))
       | (with_reducible refine st_and ?_ ?_)
       | (with_reducible exact st_ok)
       | (with_reducible refine st_br (fun hc => ?_) (fun hc => ?_) <;> (simp only [dn, reduceCtorEq, hp, va_map] at hc) <;> (try (exfalso; first | contradiction | omega)))
       | (refine st_call (by rfl) (by simp only [dn, reduceCtorEq, hp, va_map] <;> rfl) ?_ (by simp only [out_pick, hp, out_inew, out_qinew, out_istep, out_qistep, out_ialike, out_last, out_qlast, out_count, out_qcount, out_words, out_swm, out_awk] <;> rfl) (by simp only [dn] <;> rfl) ?_
          focus (first | exact pre_pick (by decide) (by decide) | exact ⟨_, _, _, _, _, _, _, _, _, _, _, _, _, _, _, _, rfl, ht, hw3⟩ | exact ⟨_, _, rfl, hM⟩ | exact .inl ⟨_, rfl⟩ | exact .inr rfl | exact ⟨_, rfl⟩ | rfl | exact pre_swm (by first | exact hM.1 | exact (ins_fine hL hM).1)))
       | (with_reducible refine st_ret (by simp only [dn, reduceCtorEq, hp, va_map] <;> rfl) ?_
          (first | rfl | exact ⟨_, rfl⟩)))
     | (refine qwords (by rfl) (by simp only [dn, reduceCtorEq, hp] <;> rfl) ?_ ?_ (fun cc env' he => ?_)
        focus exact (by first | assumption | (rw [ins_len]; assumption))
        focus exact (by first | exact hM.1 | exact (ins_fine hL hM).1)
        simp only [List.cons_append, List.nil_append] at he
        subst he)
     | (refine st_back (by rfl) (by simp only [dn, reduceCtorEq, hp, va_map] <;> rfl) (by simp only [dn] <;> rfl) (by rfl) ?_ ?_
        focus (rw [wrap_small (n := i + 1) (by omega) (by omega)]
               first
                | exact ⟨_, _, _, _, _, _, _, _, _, _, _, _, _, _, _, _, _, _, _, _, _, _, _, _, _, _, _, _, _, _, _, _, _, (some _), _, rfl, by omega, by omega, h3, (by first | assumption | (rw [ins_len]; assumption)), (by first | exact hM | exact ins_fine hL hM), ht, hw, k0, k1, (ih_some (by first | exact inew_ok hw3 | exact ins_ok hL hM | exact hL))⟩
                | exact ⟨_, _, _, _, _, _, _, _, _, _, _, _, _, _, _, _, _, _, _, _, _, _, _, _, _, _, _, _, _, _, _, _, _, none, _, rfl, by omega, by omega, h3, (by first | assumption | (rw [ins_len]; assumption)), (by first | exact hM | exact ins_fine hL hM), ht, hw, k0, k1, ih_none⟩)
        focus (rw [wrap_small (n := i + 1) (by omega) (by omega)]; show ((kl : Int) - (i + 1)).toNat < ((kl : Int) - i).toNat; omega))
     | fail "no step")
 · have hi' : (kl : Int) ≤ i := by omega
   unfold tIStepsL0
   repeat' (first
    | (first
      | (with_reducible refine st_need ?_ ?_
         focus (simp only [dn, reduceCtorEq, hp, va_map] <;> first | omega | assumption))
      | (with_reducible refine st_and ?_ ?_)
      | (with_reducible exact st_ok)
      | (with_reducible refine st_br (fun hc => ?_) (fun hc => ?_) <;> (simp only [dn, reduceCtorEq, hp, va_map] at hc) <;> (try (exfalso; first | contradiction | omega)))
      | (refine st_call (by rfl) (by simp only [dn, reduceCtorEq, hp, va_map] <;> rfl) ?_ (by simp only [out_awk] <;> rfl) (by simp only [dn] <;> rfl) ?_
         focus (first | rfl))
      | (with_reducible refine st_ret (by simp only [dn, reduceCtorEq, hp, va_map] <;> rfl) ?_
         (first | rfl | exact ⟨_, rfl⟩)))
    | fail "no step")
end Go.Proofs.YtdldcofddfkkbaaGreat
