/- Jobs of none: it holds; the walk of JobNone. -/
import Derived.Test.YtdabdbbgaekmdaaJnT
import Derived.Test.YtdabdbbgaekmdaaJb
import Derived.Test.YtdabdbbgaekmdaaSy
namespace Go.Proofs.Ytdabdbbgaekmdaa
set_option linter.unusedVariables false
set_option linter.unusedSimpArgs false
set_option linter.unusedSectionVars false
open Go Go.RowKit

theorem st_apps {X : Cx U} {R : List (EV U) → List (EV U) → Prop} {i : Option Nat} {e : Ex} {xs : List Ex} {k : Tree} {env : List (EV U)} {l ys : List Int} {n : Int} (hl : (match i with | none => [] | some i => gL env i) = l) (hn : e.den env = n) (hx : xs.map (Ex.den env) = ys)
    (hk : ∀ (r : List Int) (env' : List (EV U)), env ++ [.l (l.take n.toNat ++ ys ++ r), .i ((n.toNat + ys.length + r.length : Nat) : Int)] = env' → k.sat X R env') : (Tree.apps i e xs k).sat X R env := by
  intro r
  subst hl hn hx
  have h := hk r _ rfl
  rw [List.length_map] at h
  exact h
theorem litPre {l : Lit} : (lit l).pre [] := by unfold lit; split <;> rfl
theorem litOut {l : Lit} {ins : List (EV U)} (h : l.told = false) : (lit l).out ins = [] := by rw [lit_eq h]; rfl
theorem litOutT {l : Lit} {ins : List (EV U)} (h : l.told = true) : (lit l).out ins = [.b true] := by unfold lit; rw [h]; rfl
set_option maxRecDepth 10000 in
set_option maxHeartbeats 8000000 in
theorem vJNone (P : Program) : ∀ ins, ins.length = cJNone.nin → cJNone.pre ins → tJNone.sat (cxJN P) (ctrR cJNone) ins := by
  rintro ins _ ⟨i, f, t, c, rfl⟩
  unfold tJNone
  repeat' (first
    | (first
      | (with_reducible refine st_need ?_ ?_
         focus (simp only [Bx.den, Ex.den, Bnd.den, gI, gB, gL, gF, gN, gNil, List.map_cons, List.map_nil, List.cons_append, List.nil_append, List.getElem?_cons_zero, List.getElem?_cons_succ, List.getD, Option.getD_some, cmp_eql_t, cmp_eql_f, cmp_neq_t, cmp_neq_f, cmp_lss_t, cmp_lss_f, cmp_leq_t, cmp_leq_f, cmp_gtr_t, cmp_gtr_f, cmp_geq_t, cmp_geq_f, Bool.not_eq_true', Bool.not_eq_false', Bool.and_eq_true, Bool.and_eq_false_iff, binDen, Option.some.injEq, EV.u.injEq, Nil.isNil, beq_self_eq_true, and_self, true_and, and_true, or_false, false_or, or_self, not_true_eq_false, not_false_eq_true, ne_eq, Bool.true_eq_false, Bool.false_eq_true, reduceCtorEq, List.length_append, List.length_take, List.length_cons, List.length_nil, List.take_nil, Int.toNat_zero] <;> first | omega | assumption))
      | (with_reducible refine st_and ?_ ?_)
      | (with_reducible exact st_ok)
      | (with_reducible refine st_br (fun hc => ?_) (fun hc => ?_) <;> (simp only [Bx.den, Ex.den, Bnd.den, gI, gB, gL, gF, gN, gNil, List.map_cons, List.map_nil, List.cons_append, List.nil_append, List.getElem?_cons_zero, List.getElem?_cons_succ, List.getD, Option.getD_some, cmp_eql_t, cmp_eql_f, cmp_neq_t, cmp_neq_f, cmp_lss_t, cmp_lss_f, cmp_leq_t, cmp_leq_f, cmp_gtr_t, cmp_gtr_f, cmp_geq_t, cmp_geq_f, Bool.not_eq_true', Bool.not_eq_false', Bool.and_eq_true, Bool.and_eq_false_iff, binDen, Option.some.injEq, EV.u.injEq, Nil.isNil, beq_self_eq_true, and_self, true_and, and_true, or_false, false_or, or_self, not_true_eq_false, not_false_eq_true, ne_eq, Bool.true_eq_false, Bool.false_eq_true, reduceCtorEq, List.length_append, List.length_take, List.length_cons, List.length_nil, List.take_nil, Int.toNat_zero] at hc) <;> (try (exfalso; first | contradiction | omega)))
      | (refine st_call (by rfl) (by simp only [Bx.den, Ex.den, Bnd.den, gI, gB, gL, gF, gN, gNil, List.map_cons, List.map_nil, List.cons_append, List.nil_append, List.getElem?_cons_zero, List.getElem?_cons_succ, List.getD, Option.getD_some, cmp_eql_t, cmp_eql_f, cmp_neq_t, cmp_neq_f, cmp_lss_t, cmp_lss_f, cmp_leq_t, cmp_leq_f, cmp_gtr_t, cmp_gtr_f, cmp_geq_t, cmp_geq_f, Bool.not_eq_true', Bool.not_eq_false', Bool.and_eq_true, Bool.and_eq_false_iff, binDen, Option.some.injEq, EV.u.injEq, Nil.isNil, beq_self_eq_true, and_self, true_and, and_true, or_false, false_or, or_self, not_true_eq_false, not_false_eq_true, ne_eq, Bool.true_eq_false, Bool.false_eq_true, reduceCtorEq, List.length_append, List.length_take, List.length_cons, List.length_nil, List.take_nil, Int.toNat_zero] <;> rfl) ?_ (by first | exact litOut rfl | exact litOutT rfl <;> rfl) (by simp only [List.cons_append, List.nil_append] <;> rfl) ?_
         focus (first | exact litPre))
      | (with_reducible refine st_ret (by simp only [Bx.den, Ex.den, Bnd.den, gI, gB, gL, gF, gN, gNil, List.map_cons, List.map_nil, List.cons_append, List.nil_append, List.getElem?_cons_zero, List.getElem?_cons_succ, List.getD, Option.getD_some, cmp_eql_t, cmp_eql_f, cmp_neq_t, cmp_neq_f, cmp_lss_t, cmp_lss_f, cmp_leq_t, cmp_leq_f, cmp_gtr_t, cmp_gtr_f, cmp_geq_t, cmp_geq_f, Bool.not_eq_true', Bool.not_eq_false', Bool.and_eq_true, Bool.and_eq_false_iff, binDen, Option.some.injEq, EV.u.injEq, Nil.isNil, beq_self_eq_true, and_self, true_and, and_true, or_false, false_or, or_self, not_true_eq_false, not_false_eq_true, ne_eq, Bool.true_eq_false, Bool.false_eq_true, reduceCtorEq, List.length_append, List.length_take, List.length_cons, List.length_nil, List.take_nil, Int.toNat_zero] <;> rfl) ?_
         (first | rfl | exact ⟨_, rfl⟩)))
    | (refine st_apps (by rfl) (by simp only [Bx.den, Ex.den, Bnd.den, gI, gB, gL, gF, gN, gNil, List.map_cons, List.map_nil, List.cons_append, List.nil_append, List.getElem?_cons_zero, List.getElem?_cons_succ, List.getD, Option.getD_some, cmp_eql_t, cmp_eql_f, cmp_neq_t, cmp_neq_f, cmp_lss_t, cmp_lss_f, cmp_leq_t, cmp_leq_f, cmp_gtr_t, cmp_gtr_f, cmp_geq_t, cmp_geq_f, Bool.not_eq_true', Bool.not_eq_false', Bool.and_eq_true, Bool.and_eq_false_iff, binDen, Option.some.injEq, EV.u.injEq, Nil.isNil, beq_self_eq_true, and_self, true_and, and_true, or_false, false_or, or_self, not_true_eq_false, not_false_eq_true, ne_eq, Bool.true_eq_false, Bool.false_eq_true, reduceCtorEq, List.map_nil] <;> rfl) (by simp only [Bx.den, Ex.den, Bnd.den, gI, gB, gL, gF, gN, gNil, List.map_cons, List.map_nil, List.cons_append, List.nil_append, List.getElem?_cons_zero, List.getElem?_cons_succ, List.getD, Option.getD_some, cmp_eql_t, cmp_eql_f, cmp_neq_t, cmp_neq_f, cmp_lss_t, cmp_lss_f, cmp_leq_t, cmp_leq_f, cmp_gtr_t, cmp_gtr_f, cmp_geq_t, cmp_geq_f, Bool.not_eq_true', Bool.not_eq_false', Bool.and_eq_true, Bool.and_eq_false_iff, binDen, Option.some.injEq, EV.u.injEq, Nil.isNil, beq_self_eq_true, and_self, true_and, and_true, or_false, false_or, or_self, not_true_eq_false, not_false_eq_true, ne_eq, Bool.true_eq_false, Bool.false_eq_true, reduceCtorEq, List.map_nil] <;> rfl) (fun rr env' he => ?_)
       simp only [List.cons_append, List.nil_append] at he
       subst he)
    | fail "no step")
set_option maxRecDepth 100000 in
theorem hJNone : cJNone.Holds objs Try.prog := runCtr_holds (X := cxJN Try.prog) (fuel := 60) (opens := []) (folds := []) objsOk mixed hlsJl.cts (callable _ Try.func9 (by kernel_rfl) (by kernel_rfl)) (by rintro ins _ ⟨_, _, _, _, rfl⟩; rfl) (by rw [rJNone]; exact vJNone _)
theorem jobNone_walk (i f t c : Int) (W : World) : Calls Try.prog 9 #[.int .i64 i, .int .i64 f, .int .i64 t, .int .i64 c] W fun e W' => e = .returned (.bool true) ∧ Below W.heap.size W W' :=
  hJNone.law rfl (ins := [.i i, .i f, .i t, .i c]) (ρ := []) (vals := [.int .i64 i, .int .i64 f, .int .i64 t, .int .i64 c]) rfl ⟨_, _, _, _, rfl⟩ rfl ⟨fun _ _ => rfl, trivial, trivial, trivial, trivial, trivial⟩ (Sat.inputs rfl (by intro n e h; simp [cJNone] at h))
end Go.Proofs.Ytdabdbbgaekmdaa
