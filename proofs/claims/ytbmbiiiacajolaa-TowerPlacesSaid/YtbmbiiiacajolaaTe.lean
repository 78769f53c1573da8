/- Towers: TowerPlaces: its walk. -/
import Derived.Test.YtbmbiiiacajolaaTdV
namespace Go.Proofs.Ytbmbiiiacajolaa
set_option linter.unusedVariables false
set_option linter.unusedSimpArgs false
set_option linter.unusedSectionVars false
open Go Go.RowKit

set_option maxRecDepth 100000 in
theorem hAt : cAt.Holds objs Try.prog := runCtr_holds (X := cx Try.prog []) (fuel := 40) (opens := []) (folds := []) objsOk mixed noCtsJ (callable _ Try.func14 (by kernel_rfl) (by kernel_rfl)) (by rintro ins _ ⟨_, _, _, _, _, _, _, _, _, _, _, _, _, _, _, rfl⟩; rfl) (by intro ins h1 h2; rw [rAt]; exact vAt _ [] ins h1 h2)
set_option maxRecDepth 100000 in
theorem hRAt : cRAt.Holds objs Try.prog := runCtr_holds (X := cx Try.prog []) (fuel := 40) (opens := []) (folds := []) objsOk mixed noCtsJ (callable _ Try.func15 (by kernel_rfl) (by kernel_rfl)) (by rintro ins _ ⟨_, _, _, _, _, _, _, _, _, _, _, _, _, _, _, rfl⟩; rfl) (by intro ins h1 h2; rw [rRAt]; exact vRAt _ [] ins h1 h2)
set_option maxRecDepth 100000 in
theorem hWho : cWho.Holds objs Try.prog := runCtr_holds (X := cx Try.prog []) (fuel := 40) (opens := []) (folds := []) objsOk mixed noCtsJ (callable _ Try.func12 (by kernel_rfl) (by kernel_rfl)) (by rintro ins _ ⟨_, _, _, _, _, _, _, _, _, _, _, _, _, _, rfl⟩; rfl) (by intro ins h1 h2; rw [rWho]; exact vWho _ [] ins h1 h2)
set_option maxRecDepth 100000 in
theorem hRWho : cRWho.Holds objs Try.prog := runCtr_holds (X := cx Try.prog []) (fuel := 40) (opens := []) (folds := []) objsOk mixed noCtsJ (callable _ Try.func13 (by kernel_rfl) (by kernel_rfl)) (by rintro ins _ ⟨_, _, _, _, _, _, _, _, _, _, _, _, _, _, rfl⟩; rfl) (by intro ins h1 h2; rw [rRWho]; exact vRWho _ [] ins h1 h2)
theorem hctsTP : ∀ (ci : Nat) (c : Ctr U), ctsTP[ci]? = some c → c.Holds objs Try.prog := by
  intro ci c h
  match ci, h with
  | 0, h => cases h; exact hAt
  | 1, h => cases h; exact hRAt
  | 2, h => cases h; exact hWho
  | 3, h => cases h; exact hRWho
  | 4, h => cases h; exact hTAwake
  | n + 5, h => cases h
set_option maxHeartbeats 4000000 in
theorem vPlaces (P : Program) (hs : List (Nat × Nat × List Nat)) : ∀ ins, ins.length = cPlaces.nin → cPlaces.pre ins → tPlaces.sat { cx P ctsTP with hints := hs } (ctrR cPlaces) ins := by
  rintro ins _ ⟨a0, a1, a2, a3, a4, a5, a6, a7, a8, a9, a10, a11, a12, i, p, l, c, rfl⟩
  simp only [Tree.sat, Bx.den, Ex.den, Bnd.den, gI, gB, gL, gF, gN, gNil, List.map_cons, List.map_nil, List.cons_append, List.nil_append, List.getElem?_cons_zero, List.getElem?_cons_succ, List.getD, Option.getD_some, cmp_eql_t, cmp_eql_f, cmp_neq_t, cmp_neq_f, cmp_lss_t, cmp_lss_f, cmp_leq_t, cmp_leq_f, cmp_gtr_t, cmp_gtr_f, cmp_geq_t, cmp_geq_f, Bool.not_eq_true', Bool.not_eq_false', Bool.and_eq_true, Bool.and_eq_false_iff, binDen, ctrR, Ctr.may, List.take_succ_cons, List.take_zero, Option.some.injEq, EV.u.injEq, tPlaces, cx, ctsTP, cAt, cRAt, cWho, cRWho, cTAwake, cPlaces, atOut, whoOut]
  repeat' (first | with_reducible apply And.intro | intro _)
  all_goals first
    | exact ⟨_, _, _, _, _, _, _, _, _, _, _, _, _, _, _, rfl⟩
    | exact ⟨_, _, _, _, _, _, _, _, _, _, _, _, _, _, rfl⟩
    | rfl
    | (simp_all; done)
set_option maxRecDepth 100000 in
theorem hPlaces : cPlaces.Holds objs Try.prog := runCtr_holds (X := cx Try.prog ctsTP) (fuel := 40) (opens := []) (folds := []) objsOk mixed hctsTP (callable _ Try.func3 (by kernel_rfl) (by kernel_rfl)) (by rintro ins _ ⟨_, _, _, _, _, _, _, _, _, _, _, _, _, _, _, _, _, rfl⟩; rfl) (by intro ins h1 h2; rw [rPlaces]; exact vPlaces _ [] ins h1 h2)
theorem towerPlaces_walk (a0 a1 a2 a3 a4 a5 a6 a7 a8 a9 a10 a11 a12 i p l c : Int) (W : World) : Calls Try.prog 3 #[.agg #[.int .i64 a0, .int .i64 a1, .int .i64 a2, .int .i64 a3, .int .i64 a4, .int .i64 a5, .int .i64 a6, .int .i64 a7, .int .i64 a8, .int .i64 a9, .int .i64 a10, .int .i64 a11, .int .i64 a12], .int .i64 i, .int .i64 p, .int .i64 l, .int .i64 c] W fun e W' => e = .returned (.bool true) ∧ Below W.heap.size W W' :=
  hPlaces.law rfl (ins := [.i a0, .i a1, .i a2, .i a3, .i a4, .i a5, .i a6, .i a7, .i a8, .i a9, .i a10, .i a11, .i a12, .i i, .i p, .i l, .i c]) (ρ := []) (vals := [.agg #[.int .i64 a0, .int .i64 a1, .int .i64 a2, .int .i64 a3, .int .i64 a4, .int .i64 a5, .int .i64 a6, .int .i64 a7, .int .i64 a8, .int .i64 a9, .int .i64 a10, .int .i64 a11, .int .i64 a12], .int .i64 i, .int .i64 p, .int .i64 l, .int .i64 c]) rfl ⟨_, _, _, _, _, _, _, _, _, _, _, _, _, _, _, _, _, rfl⟩ rfl
    ⟨fun _ _ => rfl, ⟨⟨trivial, trivial, trivial, trivial, trivial, trivial, trivial, trivial, trivial, trivial, trivial, trivial, trivial, trivial⟩, trivial, trivial, trivial, trivial, trivial⟩⟩ (Sat.inputs rfl (by intro n e h; simp [cPlaces] at h))
end Go.Proofs.Ytbmbiiiacajolaa
