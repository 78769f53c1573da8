/- Texts of this proof. -/
import Derived.Test.YtbmbiiiacajolaaB3K
import Derived.KernelRfl
import Derived.Test.YtbmbiiiacajolaaB1K
namespace Go.Proofs.Ytbmbiiiacajolaa
set_option linter.unusedVariables false
set_option linter.unusedSimpArgs false
set_option linter.unusedSectionVars false
open Go
set_option maxRecDepth 100000
def tAt : Tree := (.br (.cmp .geq (.var 2) (.lit 1))
 (.br (.cmp .leq (.var 2) (.lit 4))
 (.br (.cmp .geq (.var 5) (.lit 1))
 (.br (.cmp .leq (.var 5) (.lit 128))
 (.br (.cmp .geq (.var 0) (.lit 0))
 (.br (.cmp .lss (.var 0) (.lit 4096))
 (.br (.cmp .geq (.var 1) (.lit 0))
 (.br (.cmp .lss (.var 1) (.lit 4096))
 (.br (.cmp .eql (.var 13) (.lit (-1)))
 (.br (.cmp .lss (.var 14) (.lit 4))
 (.ret [.ex (.lit (-1))])
 (.br (.cmp .geq (.var 14) (.bin .add .i64 (.lit 4) (.var 2)))
 (.ret [.ex (.lit (-1))])
 (.br (.cmp .lss (.bin .sub .i64 (.var 14) (.lit 4)) (.lit 0))
 (.ret [.ex (.lit (-1))])
 (.br (.cmp .geq (.bin .sub .i64 (.var 14) (.lit 4)) (.var 2))
 (.ret [.ex (.lit (-1))])
 (.and (.ret [.ex (.bin .add .i64 (.bin .add .i64 (.var 1) (.bin .mul .i64 (.lit 0) (.var 2))) (.bin .sub .i64 (.var 14) (.lit 4)))]) .ok)))))
 (.br (.cmp .lss (.var 13) (.lit 0))
 (.ret [.ex (.lit (-1))])
 (.br (.cmp .geq (.var 13) (.var 5))
 (.ret [.ex (.lit (-1))])
 (.br (.cmp .lss (.var 14) (.lit 0))
 (.ret [.ex (.lit (-1))])
 (.br (.cmp .geq (.var 14) (.bin .add .i64 (.lit 4) (.var 2)))
 (.ret [.ex (.lit (-1))])
 (.and (.ret [.ex (.bin .add .i64 (.bin .add .i64 (.var 0) (.bin .mul .i64 (.var 13) (.bin .add .i64 (.lit 4) (.var 2)))) (.var 14))]) .ok))))))
 (.ret [.ex (.lit (-1))]))
 (.ret [.ex (.lit (-1))]))
 (.ret [.ex (.lit (-1))]))
 (.ret [.ex (.lit (-1))]))
 (.ret [.ex (.lit (-1))]))
 (.ret [.ex (.lit (-1))]))
 (.ret [.ex (.lit (-1))]))
 (.ret [.ex (.lit (-1))]))
theorem rAt : runCtr (cx Try.prog []) 40 cAt [] [] = tAt := by kernel_rfl
def tWho : Tree := (.br (.cmp .geq (.var 2) (.lit 1))
 (.br (.cmp .leq (.var 2) (.lit 4))
 (.br (.cmp .geq (.var 5) (.lit 1))
 (.br (.cmp .leq (.var 5) (.lit 128))
 (.br (.cmp .geq (.var 0) (.lit 0))
 (.br (.cmp .lss (.var 0) (.lit 4096))
 (.br (.cmp .geq (.var 1) (.lit 0))
 (.br (.cmp .lss (.var 1) (.lit 4096))
 (.br (.cmp .lss (.var 13) (.var 0))
 (.br (.cmp .lss (.var 13) (.var 1))
 (.ret [.ex (.lit 0), .ex (.lit 0), .bx (.lit false)])
 (.and (.br (.cmp .geq (.var 13) (.bin .add .i64 (.var 1) (.bin .mul .i64 (.lit 1) (.var 2))))
 (.ret [.ex (.lit 0), .ex (.lit 0), .bx (.lit false)])
 (.and (.need (.cmp .neq (.var 2) (.lit 0)) (.and (.need (.cmp .neq (.var 2) (.lit 0)) (.ret [.ex (.lit (-1)), .ex (.bin .add .i64 (.lit 4) (.bin .rem .i64 (.bin .sub .i64 (.var 13) (.var 1)) (.var 2))), .bx (.lit true)])) .ok)) .ok)) .ok))
 (.and (.br (.cmp .geq (.var 13) (.bin .add .i64 (.var 0) (.bin .mul .i64 (.var 5) (.bin .add .i64 (.lit 4) (.var 2)))))
 (.br (.cmp .lss (.var 13) (.var 1))
 (.ret [.ex (.lit 0), .ex (.lit 0), .bx (.lit false)])
 (.and (.br (.cmp .geq (.var 13) (.bin .add .i64 (.var 1) (.bin .mul .i64 (.lit 1) (.var 2))))
 (.ret [.ex (.lit 0), .ex (.lit 0), .bx (.lit false)])
 (.and (.need (.cmp .neq (.var 2) (.lit 0)) (.and (.need (.cmp .neq (.var 2) (.lit 0)) (.ret [.ex (.lit (-1)), .ex (.bin .add .i64 (.lit 4) (.bin .rem .i64 (.bin .sub .i64 (.var 13) (.var 1)) (.var 2))), .bx (.lit true)])) .ok)) .ok)) .ok))
 (.and (.need (.cmp .neq (.bin .add .i64 (.lit 4) (.var 2)) (.lit 0)) (.and (.need (.cmp .neq (.bin .add .i64 (.lit 4) (.var 2)) (.lit 0)) (.ret [.ex (.bin .quo .i64 (.bin .sub .i64 (.var 13) (.var 0)) (.bin .add .i64 (.lit 4) (.var 2))), .ex (.bin .rem .i64 (.bin .sub .i64 (.var 13) (.var 0)) (.bin .add .i64 (.lit 4) (.var 2))), .bx (.lit true)])) .ok)) .ok)) .ok))
 (.ret [.ex (.lit 0), .ex (.lit 0), .bx (.lit false)]))
 (.ret [.ex (.lit 0), .ex (.lit 0), .bx (.lit false)]))
 (.ret [.ex (.lit 0), .ex (.lit 0), .bx (.lit false)]))
 (.ret [.ex (.lit 0), .ex (.lit 0), .bx (.lit false)]))
 (.ret [.ex (.lit 0), .ex (.lit 0), .bx (.lit false)]))
 (.ret [.ex (.lit 0), .ex (.lit 0), .bx (.lit false)]))
 (.ret [.ex (.lit 0), .ex (.lit 0), .bx (.lit false)]))
 (.ret [.ex (.lit 0), .ex (.lit 0), .bx (.lit false)]))
theorem rWho : runCtr (cx Try.prog []) 40 cWho [] [] = tWho := by kernel_rfl
open Go Go.RowKit
theorem at_eq {n h w s i p x : Int} (hx : x = atT n h w s i p) : ([EV.i x] : List (EV U)) = [EV.i (atT n h w s i p)] := by rw [hx]
theorem at_bad {n h w s i p : Int} (hb : ¬ (1 ≤ w ∧ w ≤ 4 ∧ 1 ≤ s ∧ s ≤ 128 ∧ 0 ≤ n ∧ n < 4096 ∧ 0 ≤ h ∧ h < 4096)) : -1 = atT n h w s i p := by
 unfold atT okT
 rw [decide_eq_false hb, if_neg (by simp)]
theorem at_out {n h w s i p : Int} (hb : ¬ (-1 ≤ i ∧ i < s ∧ 0 ≤ p ∧ p < 4 + w ∧ (0 ≤ i ∨ 4 ≤ p))) : -1 = atT n h w s i p := by
 unfold atT
 rw [if_neg (fun g => hb g.2)]
theorem at_in {n h w s i p : Int} (hb : 1 ≤ w ∧ w ≤ 4 ∧ 1 ≤ s ∧ s ≤ 128 ∧ 0 ≤ n ∧ n < 4096 ∧ 0 ≤ h ∧ h < 4096) (hc : -1 ≤ i ∧ i < s ∧ 0 ≤ p ∧ p < 4 + w ∧ (0 ≤ i ∨ 4 ≤ p)) : atT n h w s i p = if i < 0 then h + p - 4 else n + i * (4 + w) + p := by
 unfold atT okT
 rw [decide_eq_true hb, if_pos ⟨rfl, hc⟩]
set_option maxHeartbeats 4000000 in
theorem vAt (P : Program) (hs : List (Nat × Nat × List Nat)) : ∀ ins, ins.length = cAt.nin → cAt.pre ins → tAt.sat { cx P [] with hints := hs } (ctrR cAt) ins := by
 rintro ins _ ⟨a0, a1, a2, a3, a4, a5, a6, a7, a8, a9, a10, a11, a12, i, p, rfl⟩
 simp only [Tree.sat, Bx.den, Ex.den, Bnd.den, gI, gB, gL, gF, gN, gNil, List.map_cons, List.map_nil, List.cons_append, List.nil_append, List.getElem?_cons_zero, List.getElem?_cons_succ, List.getD, Option.getD_some, cmp_eql_t, cmp_eql_f, cmp_neq_t, cmp_neq_f, cmp_lss_t, cmp_lss_f, cmp_leq_t, cmp_leq_f, cmp_gtr_t, cmp_gtr_f, cmp_geq_t, cmp_geq_f, Bool.not_eq_true', Bool.not_eq_false', Bool.and_eq_true, Bool.and_eq_false_iff, binDen, ctrR, Ctr.may, List.take_succ_cons, List.take_zero, Option.some.injEq, EV.u.injEq, tAt, cx, cAt, atOut]
 repeat' (first | with_reducible apply And.intro | intro _)
 all_goals (first | trivial | refine at_eq ?_)
 all_goals first
  | exact at_bad (by omega)
  | exact at_out (by (try simp only [IntKind.wrap_i64] at *); omega)
  | skip
 all_goals
  rw [at_in (by omega) (by (try simp only [IntKind.wrap_i64] at *); omega)]
  have hw : a2 = 1 ∨ a2 = 2 ∨ a2 = 3 ∨ a2 = 4 := by omega
  rcases hw with rfl | rfl | rfl | rfl
  all_goals
   try simp only [IntKind.wrap_i64] at *
   split <;> omega
theorem hAt : cAt.Holds objs Try.prog := runCtr_holds (X := cx Try.prog []) (fuel := 40) (opens := []) (folds := []) objsOk mixed noCts (callable _ Try.func14 (by kernel_rfl) (by kernel_rfl)) (by rintro ins _ ⟨_, _, _, _, _, _, _, _, _, _, _, _, _, _, _, rfl⟩; rfl) (by intro ins h1 h2; rw [rAt]; exact vAt _ [] ins h1 h2)
theorem who_eq {n h w s c x y : Int} {b : Bool} (hx : (x, y, b) = whoT n h w s c) : ([EV.i x, EV.i y, EV.b b] : List (EV U)) = [EV.i (whoT n h w s c).1, EV.i (whoT n h w s c).2.1, EV.b (whoT n h w s c).2.2] := by rw [← hx]
theorem who_bad {n h w s c : Int} (hb : ¬ (1 ≤ w ∧ w ≤ 4 ∧ 1 ≤ s ∧ s ≤ 128 ∧ 0 ≤ n ∧ n < 4096 ∧ 0 ≤ h ∧ h < 4096)) : (0, 0, false) = whoT n h w s c := by
 unfold whoT okT
 rw [decide_eq_false hb, if_neg (by simp)]
theorem who_out {n h w s c : Int} (hb : ¬ (n ≤ c ∧ c < n + s * (4 + w))) (hc : ¬ (h ≤ c ∧ c < h + w)) : (0, 0, false) = whoT n h w s c := by
 unfold whoT
 rw [if_neg hb, if_neg hc]
 split <;> rfl
theorem who_node {n h w s c x y : Int} (ho : 1 ≤ w ∧ w ≤ 4 ∧ 1 ≤ s ∧ s ≤ 128 ∧ 0 ≤ n ∧ n < 4096 ∧ 0 ≤ h ∧ h < 4096) (hb : n ≤ c ∧ c < n + s * (4 + w)) (hx : x = (c - n) / (4 + w)) (hy : y = (c - n) % (4 + w)) : (x, y, true) = whoT n h w s c := by
 unfold whoT okT
 rw [decide_eq_true ho, if_pos rfl, if_pos hb, hx, hy]
theorem who_head {n h w s c x : Int} (ho : 1 ≤ w ∧ w ≤ 4 ∧ 1 ≤ s ∧ s ≤ 128 ∧ 0 ≤ n ∧ n < 4096 ∧ 0 ≤ h ∧ h < 4096) (hb : ¬ (n ≤ c ∧ c < n + s * (4 + w))) (hc : h ≤ c ∧ c < h + w) (hx : x = c - h + 4) : (-1, x, true) = whoT n h w s c := by
 unfold whoT okT
 rw [decide_eq_true ho, if_pos rfl, if_neg hb, if_pos hc, hx]
set_option maxHeartbeats 4000000 in
theorem vWho (P : Program) (hs : List (Nat × Nat × List Nat)) : ∀ ins, ins.length = cWho.nin → cWho.pre ins → tWho.sat { cx P [] with hints := hs } (ctrR cWho) ins := by
 rintro ins _ ⟨a0, a1, a2, a3, a4, a5, a6, a7, a8, a9, a10, a11, a12, c, rfl⟩
 simp only [Tree.sat, Bx.den, Ex.den, Bnd.den, gI, gB, gL, gF, gN, gNil, List.map_cons, List.map_nil, List.cons_append, List.nil_append, List.getElem?_cons_zero, List.getElem?_cons_succ, List.getD, Option.getD_some, cmp_eql_t, cmp_eql_f, cmp_neq_t, cmp_neq_f, cmp_lss_t, cmp_lss_f, cmp_leq_t, cmp_leq_f, cmp_gtr_t, cmp_gtr_f, cmp_geq_t, cmp_geq_f, Bool.not_eq_true', Bool.not_eq_false', Bool.and_eq_true, Bool.and_eq_false_iff, binDen, ctrR, Ctr.may, List.take_succ_cons, List.take_zero, Option.some.injEq, EV.u.injEq, tWho, cx, cWho, whoOut]
 repeat' (first | with_reducible apply And.intro | intro _)
 all_goals first
  | trivial
  | (refine who_eq (who_bad ?_); omega)
  | skip
 all_goals
  have hw : a2 = 1 ∨ a2 = 2 ∨ a2 = 3 ∨ a2 = 4 := by omega
  have e1 : IntKind.i64.wrap (4 + a2) = 4 + a2 := wrap_small (by omega) (by omega)
  have e2 : IntKind.i64.wrap (1 * a2) = a2 := by rw [Int.one_mul]; exact wrap_small (by omega) (by omega)
  have e3 : IntKind.i64.wrap (a5 * (4 + a2)) = a5 * (4 + a2) := by rcases hw with rfl | rfl | rfl | rfl <;> exact wrap_small (by omega) (by omega)
  have e4 : IntKind.i64.wrap (a0 + a5 * (4 + a2)) = a0 + a5 * (4 + a2) := by rcases hw with rfl | rfl | rfl | rfl <;> exact wrap_small (by omega) (by omega)
  have e5 : IntKind.i64.wrap (a1 + a2) = a1 + a2 := wrap_small (by omega) (by omega)
  have e6 : a5 * (4 + a2) ≤ 1024 ∧ 0 ≤ a5 * (4 + a2) := by rcases hw with rfl | rfl | rfl | rfl <;> omega
  try simp only [e1, e2, e3, e4, e5] at *
 all_goals generalize hq : a5 * (4 + a2) = q at *
 all_goals first
  | omega
  | (refine who_eq (who_out (by rw [hq]; omega) (by omega)); done)
  | (have g1 : IntKind.i64.wrap (c - a0) = c - a0 := wrap_small (by omega) (by omega)
     simp only [g1]
     refine who_eq (who_node (by omega) (by rw [hq]; omega) ?_ ?_)
     focus
      rw [Int.tdiv_eq_ediv_of_nonneg (by omega)]
      have hd := Int.ediv_le_self (4 + a2) (show 0 ≤ c - a0 by omega)
      have hd2 := Int.ediv_nonneg (show 0 ≤ c - a0 by omega) (show 0 ≤ 4 + a2 by omega)
      exact wrap_small (by omega) (by omega)
     focus exact Int.tmod_eq_emod_of_nonneg (by omega))
  | (have g1 : IntKind.i64.wrap (c - a1) = c - a1 := wrap_small (by omega) (by omega)
     have g2 : (c - a1).tmod a2 = c - a1 := Int.tmod_eq_of_lt (by omega) (by omega)
     have g3 : IntKind.i64.wrap (4 + (c - a1)) = 4 + (c - a1) := wrap_small (by omega) (by omega)
     have g4 : IntKind.i64.wrap (c - a1 + 4) = c - a1 + 4 := wrap_small (by omega) (by omega)
     simp only [g1, g2, g3, g4]
     exact who_eq (who_head (by omega) (by rw [hq]; omega) (by omega) (by omega)))
theorem hWho : cWho.Holds objs Try.prog := runCtr_holds (X := cx Try.prog []) (fuel := 40) (opens := []) (folds := []) objsOk mixed noCts (callable _ Try.func12 (by kernel_rfl) (by kernel_rfl)) (by rintro ins _ ⟨_, _, _, _, _, _, _, _, _, _, _, _, _, _, rfl⟩; rfl) (by intro ins h hp; rw [rWho]; exact vWho _ [] _ h hp)
theorem out_who (a0 a1 a2 a3 a4 a5 a6 a7 a8 a9 a10 a11 a12 c : Int) : cWho.out [.i a0, .i a1, .i a2, .i a3, .i a4, .i a5, .i a6, .i a7, .i a8, .i a9, .i a10, .i a11, .i a12, .i c] = [.i (whoT a0 a1 a2 a5 c).1, .i (whoT a0 a1 a2 a5 c).2.1, .b (whoT a0 a1 a2 a5 c).2.2] := rfl
end Go.Proofs.Ytbmbiiiacajolaa
