/- The chapter's law beside the document: it holds. -/
import Derived.Test.YtjohihkbampbgaaGtT
namespace Go.Proofs.Ytjohihkbampbgaa
set_option linter.unusedVariables false
set_option linter.unusedSimpArgs false
set_option linter.unusedSectionVars false
open Go Go.RowKit

theorem out_qstepP (P : PassSt) (M : MemSt) : cQStepP.out [.u (.rpass P), .u (.rmem M)] = [.u (.rpass (stepP P M).1), .u (.rmem (stepP P M).2), .b ((stepP P M).1.line == 9)] := rfl
theorem out_qerrP (P : PassSt) : cQErrP.out [.u (.rpass P)] = [.u (.rpass P), .i (errP P)] := rfl
theorem out_newP (f n t a w : Int) : cNewP.out [.i f, .i n, .i t, .i a, .i w] = [.u (.pass (newP f n t a w))] := rfl
theorem out_qnewP (f n t a w : Int) : cQNewP.out [.i f, .i n, .i t, .i a, .i w] = [.u (.rpass (newP f n t a w))] := rfl
theorem out_lastG (M : MemSt) (f n t : Int) : cLastG.out [.u (.mem M), .i f, .i n, .i t] = [.u (.mem M), .i ((gLast M f n t).getD 0), .b (gLast M f n t).isSome] := rfl
theorem out_qlastG (M : MemSt) (f n t : Int) : cQLastG.out [.u (.rmem M), .i f, .i n, .i t] = [.u (.rmem M), .i ((gLast M f n t).getD 0), .b (gLast M f n t).isSome] := rfl
theorem out_qfill (M : MemSt) (f n : Int) : cQFill.out [.u (.rmem M), .i f, .i n] = [.u (.rmem (if 1 ≤ n ∧ n ≤ 32 then fillM M f n.toNat else M))] := rfl
theorem out_qlast (M : MemSt) : cQLast.out [.u (.rmem M)] = [.u (.rmem M), .i M.k, .i M.a, .i M.o, .i M.n, .b M.h] := rfl
theorem out_qcount (M : MemSt) : cQCount.out [.u (.rmem M)] = [.u (.rmem M), .i M.N] := rfl
theorem out_qnew {n : Int} (h : 1 ≤ n) (h1 : n ≤ 4096) : cQNew.out [.i n] = [.u (.rmem (.new n)), .i 0] := by simp [cQNew, h, h1]
theorem pre_qstepP {P : PassSt} {M : MemSt} (h : P.ok) (h1 : M.W.length ≤ 4096) : cQStepP.pre [.u (.rpass P), .u (.rmem M)] := ⟨P, M, rfl, h, h1⟩
theorem pre_qlastG {M : MemSt} {f n t : Int} (h : M.W.length ≤ 4096) : cQLastG.pre [.u (.rmem M), .i f, .i n, .i t] := ⟨_, _, _, _, rfl, h⟩
theorem pre_qfill {M : MemSt} {f n : Int} (h : M.W.length ≤ 4096) : cQFill.pre [.u (.rmem M), .i f, .i n] := ⟨_, _, _, rfl, h⟩
theorem pre_sw {M : MemSt} {c : Nat} (h : M.W.length ≤ 4096) : cSameWords.pre [.l M.W, .l (M.W ++ List.replicate c 0), .i M.W.length, .i M.W.length, .i M.W.length, .i ((M.W.length + c : Nat) : Int)] :=
  pre_same (by omega) (by omega) (by omega) (by simp; omega) (by omega)
theorem out_sw {M : MemSt} {c : Nat} : cSameWords.out [.l M.W, .l (M.W ++ List.replicate c 0), .i M.W.length, .i M.W.length, .i M.W.length, .i ((M.W.length + c : Nat) : Int)] = [.b true] := by
  rw [out_same]; simp
theorem out_fitsG (f n s : Int) : cFitsG.out [.i f, .i n, .i s] = [.i (fitsF f n s)] := rfl
theorem out_qfits (f n s : Int) : cQFits.out [.i f, .i n, .i s] = [.i (fitsF f n s)] := rfl
theorem newP_okP {f n t a w : Int} : (newP f n t a w).ok := by
  unfold newP; split
  · exact .inr (.inr rfl)
  · exact .inl ⟨rfl, rfl⟩
theorem stepP_ok {P : PassSt} {M : MemSt} (h : P.ok) : (stepP P M).1.ok := by
  unfold stepP
  split
  · split
    · exact .inr (.inr rfl)
    · exact .inr (.inl ⟨rfl, rfl⟩)
  · split
    · split
      · exact .inr (.inr rfl)
      · exact .inl ⟨rfl, rfl⟩
    · exact h
theorem len_stepP {P : PassSt} {M : MemSt} : (stepP P M).2.W.length = M.W.length := by
  unfold stepP
  split
  · split <;> exact len_load _ _
  · split
    · split <;> exact len_cas _ _ _ _
    · rfl
theorem cpl_some {P : PassSt} (h : P.ok) : cplOk (some P) := fun Q e => by cases e; exact h
theorem cpl_none : cplOk none := fun Q e => by cases e

theorem pick4 {x : Int} : x.emod 4 = 0 ∨ x.emod 4 = 1 ∨ x.emod 4 = 2 ∨ x.emod 4 = 3 := by
  have := Int.emod_nonneg x (show (4 : Int) ≠ 0 by decide)
  have := Int.emod_lt_of_pos x (show (0 : Int) < 4 by decide)
  show x % 4 = 0 ∨ x % 4 = 1 ∨ x % 4 = 2 ∨ x % 4 = 3
  omega
theorem cplA_n : cplA none = .passNil := rfl
theorem cplA_s {P : PassSt} : cplA (some P) = .pass P := rfl
theorem cplB_n : cplB none = .rpassNil := rfl
theorem cplB_s {P : PassSt} : cplB (some P) = .rpass P := rfl
theorem qwords {M : MemSt} {k : Tree} {env : List (EV U)} {X : Cx U} {R : List (EV U) → List (EV U) → Prop} {ci : Nat} {β : List Bnd} (hc : X.cts[ci]? = some cQWords) (ha : β.map (Bnd.den env) = [.u (.rmem M)]) (h : 1 ≤ M.W.length) (h1 : M.W.length ≤ 4096)
    (hk : ∀ (c : Nat) (env' : List (EV U)), env ++ [.u (.rmem M), .l (M.W ++ List.replicate c 0), .i M.W.length, .i ((M.W.length + c : Nat) : Int)] = env' → k.sat X R env') : (Tree.callm ci β k).sat X R env :=
  st_callm hc ha ⟨_, rfl, h, h1⟩ (fun o env' ho he => by obtain ⟨c, rfl⟩ := ho; exact hk c env' he)
end Go.Proofs.Ytjohihkbampbgaa
