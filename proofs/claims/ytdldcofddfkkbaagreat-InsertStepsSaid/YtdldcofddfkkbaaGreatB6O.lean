/- Texts of this proof. -/
import Derived.Test.YtdldcofddfkkbaaGreatB3O
import Derived.KernelRfl
import Derived.Test.YtdldcofddfkkbaaGreatB1O
namespace Go.Proofs.YtdldcofddfkkbaaGreat
set_option linter.unusedVariables false
set_option linter.unusedSimpArgs false
set_option linter.unusedSectionVars false
open Go
set_option maxRecDepth 100000
def tAt : Tree := (.br (.cmp .geq (.var 2) (.lit 1))
 (.br (.cmp .leq (.var 2) (.lit 4))
 (.br (.cmp .geq (.var 5) (.lit 1))
 (.br (.cmp .leq (.var 5) (.lit 128))
 (.br (.cmp .geq (.var 0) (.lit 0))
 (.br (.cmp .lss (.var 0) (.lit 4096))
 (.br (.cmp .geq (.var 1) (.lit 0))
 (.br (.cmp .lss (.var 1) (.lit 4096))
 (.br (.cmp .eql (.var 13) (.lit (-1)))
 (.br (.cmp .lss (.var 14) (.lit 4))
 (.ret [.ex (.lit (-1))])
 (.br (.cmp .geq (.var 14) (.bin .add .i64 (.lit 4) (.var 2)))
 (.ret [.ex (.lit (-1))])
 (.br (.cmp .lss (.bin .sub .i64 (.var 14) (.lit 4)) (.lit 0))
 (.ret [.ex (.lit (-1))])
 (.br (.cmp .geq (.bin .sub .i64 (.var 14) (.lit 4)) (.var 2))
 (.ret [.ex (.lit (-1))])
 (.and (.ret [.ex (.bin .add .i64 (.bin .add .i64 (.var 1) (.bin .mul .i64 (.lit 0) (.var 2))) (.bin .sub .i64 (.var 14) (.lit 4)))]) .ok)))))
 (.br (.cmp .lss (.var 13) (.lit 0))
 (.ret [.ex (.lit (-1))])
 (.br (.cmp .geq (.var 13) (.var 5))
 (.ret [.ex (.lit (-1))])
 (.br (.cmp .lss (.var 14) (.lit 0))
 (.ret [.ex (.lit (-1))])
 (.br (.cmp .geq (.var 14) (.bin .add .i64 (.lit 4) (.var 2)))
 (.ret [.ex (.lit (-1))])
 (.and (.ret [.ex (.bin .add .i64 (.bin .add .i64 (.var 0) (.bin .mul .i64 (.var 13) (.bin .add .i64 (.lit 4) (.var 2)))) (.var 14))]) .ok))))))
 (.ret [.ex (.lit (-1))]))
 (.ret [.ex (.lit (-1))]))
 (.ret [.ex (.lit (-1))]))
 (.ret [.ex (.lit (-1))]))
 (.ret [.ex (.lit (-1))]))
 (.ret [.ex (.lit (-1))]))
 (.ret [.ex (.lit (-1))]))
 (.ret [.ex (.lit (-1))]))
theorem rAt : runCtr (cx Tryz.prog []) 40 cAt [] [] = tAt := by kernel_rfl
def tRAt : Tree := (.br (.cmp .geq (.var 2) (.lit 1))
 (.br (.cmp .leq (.var 2) (.lit 4))
 (.br (.cmp .geq (.var 5) (.lit 1))
 (.br (.cmp .leq (.var 5) (.lit 128))
 (.br (.cmp .geq (.var 0) (.lit 0))
 (.br (.cmp .lss (.var 0) (.lit 4096))
 (.br (.cmp .geq (.var 1) (.lit 0))
 (.br (.cmp .lss (.var 1) (.lit 4096))
 (.br (.cmp .lss (.var 13) (.lit (-1)))
 (.ret [.ex (.lit (-1))])
 (.br (.cmp .geq (.var 13) (.var 5))
 (.ret [.ex (.lit (-1))])
 (.br (.cmp .lss (.var 14) (.lit 0))
 (.ret [.ex (.lit (-1))])
 (.br (.cmp .geq (.var 14) (.bin .add .i64 (.lit 4) (.var 2)))
 (.ret [.ex (.lit (-1))])
 (.br (.cmp .lss (.var 13) (.lit 0))
 (.br (.cmp .lss (.var 14) (.lit 4))
 (.ret [.ex (.lit (-1))])
 (.ret [.ex (.bin .sub .i64 (.bin .add .i64 (.var 1) (.var 14)) (.lit 4))]))
 (.ret [.ex (.bin .add .i64 (.bin .add .i64 (.var 0) (.bin .mul .i64 (.var 13) (.bin .add .i64 (.lit 4) (.var 2)))) (.var 14))]))))))
 (.ret [.ex (.lit (-1))]))
 (.ret [.ex (.lit (-1))]))
 (.ret [.ex (.lit (-1))]))
 (.ret [.ex (.lit (-1))]))
 (.ret [.ex (.lit (-1))]))
 (.ret [.ex (.lit (-1))]))
 (.ret [.ex (.lit (-1))]))
 (.ret [.ex (.lit (-1))]))
theorem rRAt : runCtr (cx Tryz.prog []) 40 cRAt [] [] = tRAt := by kernel_rfl
open Go Go.RowKit
theorem at_eq {n h w s i p x : Int} (hx : x = atT n h w s i p) : ([EV.i x] : List (EV U)) = [EV.i (atT n h w s i p)] := by rw [hx]
theorem at_bad {n h w s i p : Int} (hb : ¬ (1 ≤ w ∧ w ≤ 4 ∧ 1 ≤ s ∧ s ≤ 128 ∧ 0 ≤ n ∧ n < 4096 ∧ 0 ≤ h ∧ h < 4096)) : -1 = atT n h w s i p := by
 unfold atT okT
 rw [decide_eq_false hb, if_neg (by simp)]
theorem at_out {n h w s i p : Int} (hb : ¬ (-1 ≤ i ∧ i < s ∧ 0 ≤ p ∧ p < 4 + w ∧ (0 ≤ i ∨ 4 ≤ p))) : -1 = atT n h w s i p := by
 unfold atT
 rw [if_neg (fun g => hb g.2)]
theorem at_in {n h w s i p : Int} (hb : 1 ≤ w ∧ w ≤ 4 ∧ 1 ≤ s ∧ s ≤ 128 ∧ 0 ≤ n ∧ n < 4096 ∧ 0 ≤ h ∧ h < 4096) (hc : -1 ≤ i ∧ i < s ∧ 0 ≤ p ∧ p < 4 + w ∧ (0 ≤ i ∨ 4 ≤ p)) : atT n h w s i p = if i < 0 then h + p - 4 else n + i * (4 + w) + p := by
 unfold atT okT
 rw [decide_eq_true hb, if_pos ⟨rfl, hc⟩]
set_option maxHeartbeats 4000000 in
theorem vAt (P : Program) (hs : List (Nat × Nat × List Nat)) : ∀ ins, ins.length = cAt.nin → cAt.pre ins → tAt.sat { cx P [] with hints := hs } (ctrR cAt) ins := by
 rintro ins _ ⟨a0, a1, a2, a3, a4, a5, a6, a7, a8, a9, a10, a11, a12, i, p, rfl⟩
 simp only [Tree.sat, Bx.den, Ex.den, Bnd.den, gI, gB, gL, gF, gN, gNil, List.map_cons, List.map_nil, List.cons_append, List.nil_append, List.getElem?_cons_zero, List.getElem?_cons_succ, List.getD, Option.getD_some, cmp_eql_t, cmp_eql_f, cmp_neq_t, cmp_neq_f, cmp_lss_t, cmp_lss_f, cmp_leq_t, cmp_leq_f, cmp_gtr_t, cmp_gtr_f, cmp_geq_t, cmp_geq_f, Bool.not_eq_true', Bool.not_eq_false', Bool.and_eq_true, Bool.and_eq_false_iff, binDen, ctrR, Ctr.may, List.take_succ_cons, List.take_zero, Option.some.injEq, EV.u.injEq, tAt, cx, cAt, atOut]
 repeat' (first | with_reducible apply And.intro | intro _)
 all_goals (first | trivial | refine at_eq ?_)
 all_goals first
  | exact at_bad (by omega)
  | exact at_out (by (try simp only [IntKind.wrap_i64] at *); omega)
  | skip
 all_goals
  rw [at_in (by omega) (by (try simp only [IntKind.wrap_i64] at *); omega)]
  have hw : a2 = 1 ∨ a2 = 2 ∨ a2 = 3 ∨ a2 = 4 := by omega
  rcases hw with rfl | rfl | rfl | rfl
  all_goals
   try simp only [IntKind.wrap_i64] at *
   split <;> omega
set_option maxHeartbeats 4000000 in
theorem vRAt (P : Program) (hs : List (Nat × Nat × List Nat)) : ∀ ins, ins.length = cRAt.nin → cRAt.pre ins → tRAt.sat { cx P [] with hints := hs } (ctrR cRAt) ins := by
 rintro ins _ ⟨a0, a1, a2, a3, a4, a5, a6, a7, a8, a9, a10, a11, a12, i, p, rfl⟩
 simp only [Tree.sat, Bx.den, Ex.den, Bnd.den, gI, gB, gL, gF, gN, gNil, List.map_cons, List.map_nil, List.cons_append, List.nil_append, List.getElem?_cons_zero, List.getElem?_cons_succ, List.getD, Option.getD_some, cmp_eql_t, cmp_eql_f, cmp_neq_t, cmp_neq_f, cmp_lss_t, cmp_lss_f, cmp_leq_t, cmp_leq_f, cmp_gtr_t, cmp_gtr_f, cmp_geq_t, cmp_geq_f, Bool.not_eq_true', Bool.not_eq_false', Bool.and_eq_true, Bool.and_eq_false_iff, binDen, ctrR, Ctr.may, List.take_succ_cons, List.take_zero, Option.some.injEq, EV.u.injEq, tRAt, cx, cRAt, atOut]
 repeat' (first | with_reducible apply And.intro | intro _)
 all_goals (first | trivial | refine at_eq ?_)
 all_goals first
  | exact at_bad (by omega)
  | exact at_out (by (try simp only [IntKind.wrap_i64] at *); omega)
  | skip
 all_goals
  rw [at_in (by omega) (by (try simp only [IntKind.wrap_i64] at *); omega)]
  have hw : a2 = 1 ∨ a2 = 2 ∨ a2 = 3 ∨ a2 = 4 := by omega
  rcases hw with rfl | rfl | rfl | rfl
  all_goals
   try simp only [IntKind.wrap_i64] at *
   split <;> omega
theorem hAt : cAt.Holds objs Tryz.prog := runCtr_holds (X := cx Tryz.prog []) (fuel := 40) (opens := []) (folds := []) objsOk mixed noCts (callable _ Tryz.func120 (by kernel_rfl) (by kernel_rfl)) (by rintro ins _ ⟨_, _, _, _, _, _, _, _, _, _, _, _, _, _, _, rfl⟩; rfl) (by intro ins h1 h2; rw [rAt]; exact vAt _ [] ins h1 h2)
theorem hRAt : cRAt.Holds objs Tryz.prog := runCtr_holds (X := cx Tryz.prog []) (fuel := 40) (opens := []) (folds := []) objsOk mixed noCts (callable _ Tryz.func231 (by kernel_rfl) (by kernel_rfl)) (by rintro ins _ ⟨_, _, _, _, _, _, _, _, _, _, _, _, _, _, _, rfl⟩; rfl) (by intro ins h1 h2; rw [rRAt]; exact vRAt _ [] ins h1 h2)
end Go.Proofs.YtdldcofddfkkbaaGreat
