/- Finds: what is made and told (printed by gen_qw.py). -/
import Derived.Test.YtbmbiiiacajolaaGreatQaV
namespace Go.Proofs.YtbmbiiiacajolaaGreat
set_option linter.unusedVariables false
set_option linter.unusedSimpArgs false
set_option linter.unusedSectionVars false
open Go Go.RowKit

theorem nomore_find {F : FindSt} : ∀ (t : Nat) (T : ObjT U) (ps : List (EV U)), objs[t]? = some T → t ∉ [5, 6, 7, 8, 9, 10, 11, 12, 13, 14] → ps.length = T.nv → T.ok ps → some (EV.u (U.find F)) ≠ some (EV.u (T.obj ps)) :=
  nomore_kind (by show ∀ t, t < 18 → t ∉ [5, 6, 7, 8, 9, 10, 11, 12, 13, 14] → kinds.getD t 0 ≠ 6; decide)
theorem nomore_rfind {F : FindSt} : ∀ (t : Nat) (T : ObjT U) (ps : List (EV U)), objs[t]? = some T → t ∉ [16] → ps.length = T.nv → T.ok ps → some (EV.u (U.rfind F)) ≠ some (EV.u (T.obj ps)) :=
  nomore_kind (by show ∀ t, t < 18 → t ∉ [16] → kinds.getD t 0 ≠ 8; decide)
section
variable {k : Tree} {env : List (EV U)} {X : Cx U} {R : List (EV U) → List (EV U) → Prop}
theorem st_opn {i t : Nat} {T : ObjT U} (hT : X.objs[t]? = some T) (hk : ∀ ps, ps.length = T.nv → T.ok ps → env[i]? = some (.u (T.obj ps)) → k.sat X R (env ++ ps)) : (Tree.opn i t k).sat X R env := by
  simp only [Tree.sat, hT]
  exact hk
end
theorem lo0 {a1 a5 : Int} {a0 h : Int} (ht : okT a0 a1 h a5 = true) : ¬ nextT a0 a1 h a5 (-1) 0 < 0 := by
  obtain ⟨h1, h2, h3, h4, h5, h6, h7, h8⟩ := okT_facts ht
  unfold nextT
  rw [if_neg (by omega), atT, if_pos ⟨ht, by omega, by omega, by omega, by omega, by omega⟩, if_pos (by omega)]
  omega
theorem isWd0 : isWd 0 := ⟨by decide, by decide⟩
set_option maxRecDepth 10000
set_option maxHeartbeats 2000000 in
theorem vFNew1 (P : Program) (hs : List (Nat × Nat × List Nat)) : ∀ ins, ins.length = (cFNewH 1).nin → (cFNewH 1).pre ins → tFNew1.sat { cxQn P with hints := hs } (ctrR (cFNewH 1)) ins := by
  rintro ins _ ⟨a0, a1, a2, a3, a4, a5, a6, a7, a8, a9, a10, a11, a12, key, rfl, rfl, ht⟩
  have h0 := lo0 ht
  unfold tFNew1
  repeat' (first
    | (first
      | (with_reducible refine st_need ?_ ?_
         focus (simp only [dn, reduceCtorEq, h0, va_map] <;> first | omega | assumption))
      | (with_reducible refine st_and ?_ ?_)
      | (with_reducible exact st_ok)
      | (with_reducible refine st_br (fun hc => ?_) (fun hc => ?_) <;> (simp only [dn, reduceCtorEq, h0, va_map] at hc) <;> (try (exfalso; first | contradiction | omega)))
      | (refine st_call (by rfl) (by simp only [dn, reduceCtorEq, h0, va_map] <;> rfl) ?_ (by simp only [out_nextP] <;> rfl) (by simp only [dn] <;> rfl) ?_
         focus (first | exact ⟨_, _, _, _, _, _, _, _, _, _, _, _, _, _, _, rfl⟩)))
    | (refine st_rngX (fun L env' he => ?_)
       simp only [dn] at he
       subst he)
    | (refine st_mk (by rfl) (by simp only [dn, reduceCtorEq, va_map] <;> rfl) ?_ (by simp only [dn] <;> rfl) ?_
       focus exact ⟨_, _, _, _, _, _, _, _, _, _, _, _, _, _, _, _, _, _, _, _, _, _, _, rfl, .inl rfl, isWd0, isWd0⟩)
    | (refine st_ret (by simp only [dn, reduceCtorEq, va_map] <;> rfl) ?_
       rfl)
    | fail "no step")
theorem hFNew1 : (cFNewH 1).Holds objs Tryz.prog := runCtr_holds (X := { cxQn Tryz.prog with hints := hsFNew1 }) objsOk mixed (by
  intro ci c h
  match ci, h with
  | 0, h => cases h; exact hNextP
  | n + 1, h => cases h) (callable _ Tryz.func9 (by kernel_rfl) (by kernel_rfl)) (by rintro ins _ ⟨_, _, _, _, _, _, _, _, _, _, _, _, _, _, rfl, _⟩; rfl) (by rw [rFNew1]; exact vFNew1 _ _)
set_option maxHeartbeats 2000000 in
theorem vFNew2 (P : Program) (hs : List (Nat × Nat × List Nat)) : ∀ ins, ins.length = (cFNewH 2).nin → (cFNewH 2).pre ins → tFNew2.sat { cxQn P with hints := hs } (ctrR (cFNewH 2)) ins := by
  rintro ins _ ⟨a0, a1, a2, a3, a4, a5, a6, a7, a8, a9, a10, a11, a12, key, rfl, rfl, ht⟩
  have h0 := lo0 ht
  unfold tFNew2
  repeat' (first
    | (first
      | (with_reducible refine st_need ?_ ?_
         focus (simp only [dn, reduceCtorEq, h0, va_map] <;> first | omega | assumption))
      | (with_reducible refine st_and ?_ ?_)
      | (with_reducible exact st_ok)
      | (with_reducible refine st_br (fun hc => ?_) (fun hc => ?_) <;> (simp only [dn, reduceCtorEq, h0, va_map] at hc) <;> (try (exfalso; first | contradiction | omega)))
      | (refine st_call (by rfl) (by simp only [dn, reduceCtorEq, h0, va_map] <;> rfl) ?_ (by simp only [out_nextP] <;> rfl) (by simp only [dn] <;> rfl) ?_
         focus (first | exact ⟨_, _, _, _, _, _, _, _, _, _, _, _, _, _, _, rfl⟩)))
    | (refine st_rngX (fun L env' he => ?_)
       simp only [dn] at he
       subst he)
    | (refine st_mk (by rfl) (by simp only [dn, reduceCtorEq, va_map] <;> rfl) ?_ (by simp only [dn] <;> rfl) ?_
       focus exact ⟨_, _, _, _, _, _, _, _, _, _, _, _, _, _, _, _, _, _, _, _, _, _, _, _, _, _, _, rfl, .inl rfl, isWd0, isWd0⟩)
    | (refine st_ret (by simp only [dn, reduceCtorEq, va_map] <;> rfl) ?_
       rfl)
    | fail "no step")
theorem hFNew2 : (cFNewH 2).Holds objs Tryz.prog := runCtr_holds (X := { cxQn Tryz.prog with hints := hsFNew2 }) objsOk mixed (by
  intro ci c h
  match ci, h with
  | 0, h => cases h; exact hNextP
  | n + 1, h => cases h) (callable _ Tryz.func9 (by kernel_rfl) (by kernel_rfl)) (by rintro ins _ ⟨_, _, _, _, _, _, _, _, _, _, _, _, _, _, rfl, _⟩; rfl) (by rw [rFNew2]; exact vFNew2 _ _)
set_option maxHeartbeats 2000000 in
theorem vFNew3 (P : Program) (hs : List (Nat × Nat × List Nat)) : ∀ ins, ins.length = (cFNewH 3).nin → (cFNewH 3).pre ins → tFNew3.sat { cxQn P with hints := hs } (ctrR (cFNewH 3)) ins := by
  rintro ins _ ⟨a0, a1, a2, a3, a4, a5, a6, a7, a8, a9, a10, a11, a12, key, rfl, rfl, ht⟩
  have h0 := lo0 ht
  unfold tFNew3
  repeat' (first
    | (first
      | (with_reducible refine st_need ?_ ?_
         focus (simp only [dn, reduceCtorEq, h0, va_map] <;> first | omega | assumption))
      | (with_reducible refine st_and ?_ ?_)
      | (with_reducible exact st_ok)
      | (with_reducible refine st_br (fun hc => ?_) (fun hc => ?_) <;> (simp only [dn, reduceCtorEq, h0, va_map] at hc) <;> (try (exfalso; first | contradiction | omega)))
      | (refine st_call (by rfl) (by simp only [dn, reduceCtorEq, h0, va_map] <;> rfl) ?_ (by simp only [out_nextP] <;> rfl) (by simp only [dn] <;> rfl) ?_
         focus (first | exact ⟨_, _, _, _, _, _, _, _, _, _, _, _, _, _, _, rfl⟩)))
    | (refine st_rngX (fun L env' he => ?_)
       simp only [dn] at he
       subst he)
    | (refine st_mk (by rfl) (by simp only [dn, reduceCtorEq, va_map] <;> rfl) ?_ (by simp only [dn] <;> rfl) ?_
       focus exact ⟨_, _, _, _, _, _, _, _, _, _, _, _, _, _, _, _, _, _, _, _, _, _, _, _, _, _, _, _, _, _, _, rfl, .inl rfl, isWd0, isWd0⟩)
    | (refine st_ret (by simp only [dn, reduceCtorEq, va_map] <;> rfl) ?_
       rfl)
    | fail "no step")
theorem hFNew3 : (cFNewH 3).Holds objs Tryz.prog := runCtr_holds (X := { cxQn Tryz.prog with hints := hsFNew3 }) objsOk mixed (by
  intro ci c h
  match ci, h with
  | 0, h => cases h; exact hNextP
  | n + 1, h => cases h) (callable _ Tryz.func9 (by kernel_rfl) (by kernel_rfl)) (by rintro ins _ ⟨_, _, _, _, _, _, _, _, _, _, _, _, _, _, rfl, _⟩; rfl) (by rw [rFNew3]; exact vFNew3 _ _)
set_option maxHeartbeats 2000000 in
theorem vFNew4 (P : Program) (hs : List (Nat × Nat × List Nat)) : ∀ ins, ins.length = (cFNewH 4).nin → (cFNewH 4).pre ins → tFNew4.sat { cxQn P with hints := hs } (ctrR (cFNewH 4)) ins := by
  rintro ins _ ⟨a0, a1, a2, a3, a4, a5, a6, a7, a8, a9, a10, a11, a12, key, rfl, rfl, ht⟩
  have h0 := lo0 ht
  unfold tFNew4
  repeat' (first
    | (first
      | (with_reducible refine st_need ?_ ?_
         focus (simp only [dn, reduceCtorEq, h0, va_map] <;> first | omega | assumption))
      | (with_reducible refine st_and ?_ ?_)
      | (with_reducible exact st_ok)
      | (with_reducible refine st_br (fun hc => ?_) (fun hc => ?_) <;> (simp only [dn, reduceCtorEq, h0, va_map] at hc) <;> (try (exfalso; first | contradiction | omega)))
      | (refine st_call (by rfl) (by simp only [dn, reduceCtorEq, h0, va_map] <;> rfl) ?_ (by simp only [out_nextP] <;> rfl) (by simp only [dn] <;> rfl) ?_
         focus (first | exact ⟨_, _, _, _, _, _, _, _, _, _, _, _, _, _, _, rfl⟩)))
    | (refine st_rngX (fun L env' he => ?_)
       simp only [dn] at he
       subst he)
    | (refine st_mk (by rfl) (by simp only [dn, reduceCtorEq, va_map] <;> rfl) ?_ (by simp only [dn] <;> rfl) ?_
       focus exact ⟨_, _, _, _, _, _, _, _, _, _, _, _, _, _, _, _, _, _, _, _, _, _, _, _, _, _, _, _, _, _, _, _, _, _, _, rfl, .inl rfl, isWd0, isWd0⟩)
    | (refine st_ret (by simp only [dn, reduceCtorEq, va_map] <;> rfl) ?_
       rfl)
    | fail "no step")
theorem hFNew4 : (cFNewH 4).Holds objs Tryz.prog := runCtr_holds (X := { cxQn Tryz.prog with hints := hsFNew4 }) objsOk mixed (by
  intro ci c h
  match ci, h with
  | 0, h => cases h; exact hNextP
  | n + 1, h => cases h) (callable _ Tryz.func9 (by kernel_rfl) (by kernel_rfl)) (by rintro ins _ ⟨_, _, _, _, _, _, _, _, _, _, _, _, _, _, rfl, _⟩; rfl) (by rw [rFNew4]; exact vFNew4 _ _)
theorem vQFNew (P : Program) (hs : List (Nat × Nat × List Nat)) : ∀ ins, ins.length = cQFNew.nin → cQFNew.pre ins → tQFNew.sat { cxQq P with hints := hs } (ctrR cQFNew) ins := by
  rintro ins _ ⟨a0, a1, a2, a3, a4, a5, a6, a7, a8, a9, a10, a11, a12, key, rfl, ht⟩
  obtain ⟨h1, h2, h3, h4, h5, h6, h7, h8⟩ := okT_facts ht
  have hw : IntKind.i64.wrap (a2 - 1) = a2 - 1 := wrap_small (by omega) (by omega)
  unfold tQFNew
  repeat' (first
    | (first
      | (with_reducible refine st_need ?_ ?_
         focus (simp only [dn, reduceCtorEq, ht, hw, va_map] <;> first | omega | assumption))
      | (with_reducible refine st_and ?_ ?_)
      | (with_reducible exact st_ok)
      | (with_reducible refine st_br (fun hc => ?_) (fun hc => ?_) <;> (simp only [dn, reduceCtorEq, ht, hw, va_map] at hc) <;> (try (exfalso; first | contradiction | omega)))
      | (refine st_call (by rfl) (by simp only [dn, reduceCtorEq, ht, hw, va_map] <;> rfl) ?_ (by simp only [out_DSnd, ht] <;> rfl) (by simp only [dn] <;> rfl) ?_
         focus (first | exact ⟨_, _, _, _, _, _, _, _, _, _, _, _, _, rfl⟩)))
    | (refine st_repl (by simp only [dn, reduceCtorEq, va_map] <;> rfl) ?_)
    | (refine st_mk (by rfl) (by simp only [dn, reduceCtorEq, hw, va_map] <;> rfl) ?_ (by simp only [dn] <;> rfl) ?_
       focus exact ⟨_, _, _, _, _, _, _, _, _, _, _, _, _, _, _, _, _, _, _, _, _, _, _, _, rfl, .inl ⟨.inl rfl, by omega, by omega⟩, isWd0, isWd0, by omega, h1, h2, by rw [List.length_replicate]; omega, by rw [List.length_replicate]; omega, by rw [List.length_replicate]; omega⟩)
    | (refine st_ret (by simp only [dn, reduceCtorEq, va_map] <;> rfl) ?_
       rfl)
    | fail "no step")
theorem hQFNew : cQFNew.Holds objs Tryz.prog := runCtr_holds (X := { cxQq Tryz.prog with hints := hsQFNew }) objsOk mixed (by
  intro ci c h
  match ci, h with
  | 0, h => cases h; exact hDSnd
  | n + 1, h => cases h) (callable _ Tryz.func10 (by kernel_rfl) (by kernel_rfl)) (by rintro ins _ ⟨_, _, _, _, _, _, _, _, _, _, _, _, _, _, rfl, _⟩; rfl) (by rw [rQFNew]; exact vQFNew _ _)
end Go.Proofs.YtbmbiiiacajolaaGreat
