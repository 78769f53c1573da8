/- The chapter's laws without loops hold. -/
import Derived.Test.YtjohihkbampbgaaGlT
namespace Go.Proofs.Ytjohihkbampbgaa
set_option linter.unusedVariables false
set_option linter.unusedSimpArgs false
set_option linter.unusedSectionVars false
open Go Go.RowKit

set_option maxRecDepth 100000 in
theorem vKnown (P : Program) (hs : List (Nat × Nat × List Nat)) : ∀ ins, ins.length = cKnown.nin → cKnown.pre ins → tKnown.sat { cxH P with hints := hs } (ctrR cKnown) ins := by
  rintro ins _ rfl
  refine satB_sound (preB := preG) (RB := fun _ o => oneB o) preH_spec (fun e o h => ?_) _ _ (by kernel_rfl)
  exact oneB_spec h
theorem hKnown : cKnown.Holds objs Try.prog := runCtr_holds (X := cxH Try.prog) objsOk mixed hctsH (callable _ Try.func5 (by kernel_rfl) (by kernel_rfl)) (by rintro ins _ rfl; rfl) (by rw [rKnown]; exact vKnown _ _)
theorem gateKnown_walk (W : World) : Calls Try.prog 5 #[] W fun e W' => e = .returned (.bool true) ∧ Below W.heap.size W W' :=
  hKnown.law0 rfl rfl rfl rfl rfl rfl W
theorem pre_awake : cAwake.pre [] = True := eq_true rfl
theorem out_awake : cAwake.out [] = [.b true] := rfl
set_option maxHeartbeats 1000000 in
theorem vGNew (P : Program) (hs : List (Nat × Nat × List Nat)) : ∀ ins, ins.length = cGNew.nin → cGNew.pre ins → tGNew.sat { cxH P with hints := hs } (ctrR cGNew) ins := by
  rintro ins _ ⟨a, b, c, d, e, rfl⟩
  simp only [Tree.sat, Bx.den, Ex.den, Bnd.den, gI, gB, gL, gF, gN, gNil, List.map_cons, List.map_nil, List.cons_append, List.nil_append, List.getElem?_cons_zero, List.getElem?_cons_succ, List.getD, Option.getD_some, cmp_eql_t, cmp_eql_f, cmp_neq_t, cmp_neq_f, cmp_lss_t, cmp_lss_f, cmp_leq_t, cmp_leq_f, cmp_gtr_t, cmp_gtr_f, cmp_geq_t, cmp_geq_f, Bool.not_eq_true', Bool.not_eq_false', Bool.and_eq_true, Bool.and_eq_false_iff, binDen, ctrR, Ctr.may, List.take_succ_cons, List.take_zero, Option.some.injEq, EV.u.injEq, tGNew, cxH, cx, ctsH, ctsG, cGNew, pre_awake, out_awake, true_and, ne_eq, not_true_eq_false, false_implies, true_implies, implies_true]
  repeat' (first | with_reducible apply And.intro | intro _)
  all_goals first | trivial | omega
theorem hGNew : cGNew.Holds objs Try.prog := runCtr_holds (X := cxH Try.prog) objsOk mixed hctsH (callable _ Try.func3 (by kernel_rfl) (by kernel_rfl)) (by rintro ins _ ⟨_, _, _, _, _, rfl⟩; rfl) (by rw [rGNew]; exact vGNew _ _)
theorem gateNew_walk (a b c d e : Int) (W : World) : Calls Try.prog 3 #[.agg #[.int .i64 a, .int .i64 b], .int .i64 c, .int .i64 d, .int .i64 e] W fun e W' => e = .returned (.bool true) ∧ Below W.heap.size W W' :=
  hGNew.law rfl (ins := [.i a, .i b, .i c, .i d, .i e]) (ρ := []) (vals := [.agg #[.int .i64 a, .int .i64 b], .int .i64 c, .int .i64 d, .int .i64 e]) rfl ⟨_, _, _, _, _, rfl⟩ rfl
    ⟨fun _ _ => rfl, ⟨trivial, trivial, trivial⟩, trivial, trivial, trivial, trivial⟩ (Sat.inputs rfl (by intro n e h; simp [cGNew] at h))
set_option maxHeartbeats 1000000 in
theorem vGNone (P : Program) (hs : List (Nat × Nat × List Nat)) : ∀ ins, ins.length = cGNone.nin → cGNone.pre ins → tGNone.sat { cxH P with hints := hs } (ctrR cGNone) ins := by
  rintro ins _ ⟨n, rfl⟩
  have hp1 : 0 ≤ n.emod 9 := Int.emod_nonneg _ (by decide)
  have hp2 : n.emod 9 < 9 := Int.emod_lt_of_pos _ (by decide)
  have hw : IntKind.i64.wrap (3 + n.emod 9) = 3 + n.emod 9 := wrap_small (by omega) (by omega)
  have hw2 : IntKind.i64.wrap (33 + n.emod 9) = 33 + n.emod 9 := wrap_small (by omega) (by omega)
  have hN : (MemSt.new 6).N = 0 := rfl
  have hf : cFill.out [.u (.mem (MemSt.new 6)), .i 0, .i (33 + n.emod 9)] = [.u (.mem (MemSt.new 6))] := by
    show [EV.u (U.mem (if 1 ≤ 33 + n.emod 9 ∧ 33 + n.emod 9 ≤ 32 then fillM (MemSt.new 6) 0 (33 + n.emod 9).toNat else MemSt.new 6))] = _
    rw [if_neg (by omega)]
  have hfp : ∀ M f n, cFill.pre [.u (.mem M), .i f, .i n] = True := fun M f n => eq_true ⟨_, _, _, rfl⟩
  simp only [Tree.sat, Bx.den, Ex.den, Bnd.den, gI, gB, gL, gF, gN, gNil, List.map_cons, List.map_nil, List.cons_append, List.nil_append, List.getElem?_cons_zero, List.getElem?_cons_succ, List.getD, Option.getD_some, cmp_eql_t, cmp_eql_f, cmp_neq_t, cmp_neq_f, cmp_lss_t, cmp_lss_f, cmp_leq_t, cmp_leq_f, cmp_gtr_t, cmp_gtr_f, cmp_geq_t, cmp_geq_f, Bool.not_eq_true', Bool.not_eq_false', Bool.and_eq_true, Bool.and_eq_false_iff, binDen, ctrR, Ctr.may, List.take_succ_cons, List.take_zero, Option.some.injEq, EV.u.injEq, tGNone, cxH, cx, ctsH, ctsG, cGNone, pre_awake, out_awake, pre_new, out_new (show (1:Int) ≤ 6 by decide) (show (6:Int) ≤ 4096 by decide), out_pick, hw, hw2, hf, hfp, pre_count, out_count, hN, Nil.isNil, true_and, ne_eq, not_true_eq_false, false_implies, true_implies, implies_true, List.append_assoc, reduceCtorEq]
  repeat' (first | with_reducible apply And.intro | intro _)
  all_goals first
    | trivial
    | omega
    | exact pre_pick (by decide) (by decide)
theorem hGNone : cGNone.Holds objs Try.prog := runCtr_holds (X := cxH Try.prog) objsOk mixed hctsH (callable _ Try.func4 (by kernel_rfl) (by kernel_rfl)) (by rintro ins _ ⟨_, rfl⟩; rfl) (by rw [rGNone]; exact vGNone _ _)
theorem gateNone_walk (a : Int) (W : World) : Calls Try.prog 4 #[.int .i64 a] W fun e W' => e = .returned (.bool true) ∧ Below W.heap.size W W' :=
  hGNone.law rfl (ins := [.i a]) (ρ := []) (vals := [.int .i64 a]) rfl ⟨_, rfl⟩ rfl
    ⟨fun _ _ => rfl, trivial, trivial⟩ (Sat.inputs rfl (by intro n e h; simp [cGNone] at h))
end Go.Proofs.Ytjohihkbampbgaa
