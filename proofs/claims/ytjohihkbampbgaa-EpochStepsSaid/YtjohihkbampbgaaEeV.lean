/- Epochs: the law on operations that are none holds. -/
import Derived.Test.YtjohihkbampbgaaEeT
namespace Go.Proofs.Ytjohihkbampbgaa
set_option linter.unusedVariables false
set_option linter.unusedSimpArgs false
set_option linter.unusedSectionVars false
open Go Go.RowKit

theorem fitsE_ok {a b n s : Int} (h : fitsE a b n s = 0) : 1 ≤ s ∧ s ≤ 4096 ∧ 1 ≤ n ∧ n ≤ 64 ∧ 0 ≤ a ∧ a < s ∧ 0 ≤ b ∧ b + n ≤ s ∧ ¬ (b ≤ a ∧ a < b + n) := by
  unfold fitsE at h
  split at h
  · omega
  · split at h
    · omega
    · rename_i h1 h2
      have e := wrap_small (n := s - n)
      have e2 := wrap_small (n := b + n)
      have hn : 1 ≤ n ∧ n ≤ 64 := by omega
      rw [e (by omega) (by omega)] at h2
      have hb : 0 ≤ b ∧ b ≤ s - n := by omega
      rw [e2 (by omega) (by omega)] at h2
      omega
theorem rep_get {k i : Nat} {x : Int} {l : List Int} (h : i < k) : (List.replicate k x ++ l)[i]?.getD 0 = x := by
  rw [List.getElem?_append_left (by simpa using h), List.getElem?_replicate, if_pos h]; rfl
theorem pre_eawake : cEAwake.pre [] = True := eq_true rfl
theorem out_eawake : cEAwake.out [] = [.b true] := rfl
set_option maxHeartbeats 2000000 in
theorem vENone (P : Program) (hs : List (Nat × Nat × List Nat)) : ∀ ins, ins.length = cENone.nin → cENone.pre ins → tENone.sat { cx P ctsEN with hints := hs } (ctrR cENone) ins := by
  rintro ins _ ⟨a, b, n, c, p, rfl⟩
  have hf : ∀ a b n s, cQEFits.pre [.i a, .i b, .i n, .i s] = True := fun _ _ _ _ => eq_true ⟨_, _, _, _, rfl⟩
  have ho : ∀ a b n s, cQEFits.out [.i a, .i b, .i n, .i s] = [.i (fitsE a b n s)] := fun _ _ _ _ => rfl
  have hpf : ∀ a b n, cEFillNil.pre [.i a, .i b, .i n] = True := fun _ _ _ => eq_true ⟨_, _, _, rfl⟩
  have hpo : ∀ a b n, cEFillNil.out [.i a, .i b, .i n] = [] := fun _ _ _ => rfl
  have hpp : ∀ a b n, cEPinnedNil.pre [.i a, .i b, .i n] = True := fun _ _ _ => eq_true ⟨_, _, _, rfl⟩
  have hN : (MemSt.new 9).N = 0 := rfl
  have hmany : cEPinnedNil.many = some fun c ins => match ins with | [.i a, .i b, .i n] => [.l (List.replicate (manyE n) (-1) ++ c), .i (manyE n), .i ((manyE n + c.length : Nat) : Int)] | _ => [] := rfl
  simp only [Tree.sat, Bx.den, Ex.den, Bnd.den, gI, gB, gL, gF, gN, gNil, List.map_cons, List.map_nil, List.cons_append, List.nil_append, List.getElem?_cons_zero, List.getElem?_cons_succ, List.getD, Option.getD_some, cmp_eql_t, cmp_eql_f, cmp_neq_t, cmp_neq_f, cmp_lss_t, cmp_lss_f, cmp_leq_t, cmp_leq_f, cmp_gtr_t, cmp_gtr_f, cmp_geq_t, cmp_geq_f, Bool.not_eq_true', Bool.not_eq_false', Bool.and_eq_true, Bool.and_eq_false_iff, binDen, ctrR, Ctr.may, List.take_succ_cons, List.take_zero, Option.some.injEq, EV.u.injEq, tENone, cx, ctsEN, ctsEA, ctsM, cENone, pre_new, out_new (show (1:Int) ≤ 9 by decide) (show (9:Int) ≤ 4096 by decide), pre_eawake, out_eawake, hf, ho, hpf, hpo, hpp, pre_count, out_count, hN, hmany, Nil.isNil, Int.reduceEq, Int.reduceNeg, reduceIte, not_true_eq_false, not_false_eq_true, false_implies, true_implies, implies_true, and_true, true_and, ne_eq, false_or, or_false, true_or, or_true, false_and, and_false, and_self, Int.reduceBEq, beq_self_eq_true, Bool.false_eq_true, Bool.true_eq_false, List.append_nil, List.append_assoc, forall_exists_index, forall_eq_apply_imp_iff]
  repeat' (first | with_reducible apply And.intro | intro _)
  all_goals first
    | omega
    | rfl
    | (rw [List.length_append, List.length_replicate]; omega)
    | (exfalso
       rename_i h
       apply h
       exact rep_get (by omega))
    | (exfalso
       rename_i hz _ _ _ _ h
       have g := fitsE_ok hz
       exact h (manyE_is g.2.2.1 g.2.2.2.1))
theorem hENone : cENone.Holds objs Try.prog := runCtr_holds (X := { cx Try.prog ctsEN with hints := hsENone }) objsOk mixed hctsEN (callable _ Try.func12 (by kernel_rfl) (by kernel_rfl)) (by rintro ins _ ⟨_, _, _, _, _, rfl⟩; rfl) (by rw [rENone]; exact vENone _ _)
theorem epochNone_walk (a b n c p : Int) (W : World) : Calls Try.prog 12 #[.agg #[.int .i64 a, .int .i64 b, .int .i64 n], .int .i64 c, .int .i64 p] W fun e W' => e = .returned (.bool true) ∧ Below W.heap.size W W' :=
  hENone.law rfl (ins := [.i a, .i b, .i n, .i c, .i p]) (ρ := []) (vals := [.agg #[.int .i64 a, .int .i64 b, .int .i64 n], .int .i64 c, .int .i64 p]) rfl ⟨_, _, _, _, _, rfl⟩ rfl
    ⟨fun _ _ => rfl, ⟨trivial, trivial, trivial, trivial⟩, trivial, trivial, trivial⟩ (Sat.inputs rfl (by intro n e h; simp [cENone] at h))
end Go.Proofs.Ytjohihkbampbgaa
