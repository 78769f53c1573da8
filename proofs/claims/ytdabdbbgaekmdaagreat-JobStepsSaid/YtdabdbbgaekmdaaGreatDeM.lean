import Derived.Test.YtdabdbbgaekmdaaGreatDaM
import Derived.KernelRfl
import Derived.Test.YtdabdbbgaekmdaaGreatDdM
/- The ways of the runs, as a program of ours printed them. -/
namespace Go.Proofs.YtdabdbbgaekmdaaGreat
set_option linter.unusedVariables false
set_option linter.unusedSimpArgs false
set_option linter.unusedSectionVars false
open Go
set_option maxRecDepth 100000

def hsBStep : List (Nat × Nat × List Nat) := []
def tBStep : Tree := (.br (.isnil 0)
 (.br (.isnil 1)
 (.br (.isnil 2)
 (.br (.isnil 3)
 (.br (.isnil 4)
 (.br (.isnil 5)
 (.ret [.var 0, .var 1, .var 2, .var 3, .var 4, .var 5, .var 6, .var 7, .var 8, .bx (.isnil 6)])
 (.ret [.var 0, .var 1, .var 2, .var 3, .var 4, .var 5, .var 6, .var 7, .var 8, .bx (.lit false)]))
 (.and (.call 4 [.var 4, .var 7] (.and (.call 6 [.var 6, .var 8] (.ret [.var 0, .var 1, .var 2, .var 3, .var 9, .var 5, .var 12, .var 10, .var 13, .bx (.beq (.var 11) (.var 14))])) .ok)) .ok))
 (.and (.call 3 [.var 3, .var 7] (.and (.call 6 [.var 6, .var 8] (.ret [.var 0, .var 1, .var 2, .var 9, .var 4, .var 5, .var 12, .var 10, .var 13, .bx (.beq (.var 11) (.var 14))])) .ok)) .ok))
 (.and (.call 2 [.var 2, .var 7] (.and (.call 5 [.var 5, .var 8] (.ret [.var 0, .var 1, .var 9, .var 3, .var 4, .var 12, .var 6, .var 10, .var 13, .bx (.beq (.var 11) (.var 14))])) .ok)) .ok))
 (.and (.call 1 [.var 1, .var 7] (.and (.call 5 [.var 5, .var 8] (.ret [.var 0, .var 9, .var 2, .var 3, .var 4, .var 12, .var 6, .var 10, .var 13, .bx (.beq (.var 11) (.var 14))])) .ok)) .ok))
 (.and (.call 0 [.var 0, .var 7] (.and (.call 5 [.var 5, .var 8] (.ret [.var 9, .var 1, .var 2, .var 3, .var 4, .var 12, .var 6, .var 10, .var 13, .bx (.beq (.var 11) (.var 14))])) .ok)) .ok))
theorem rBStep : runCtr { (cxDb Tryz.prog) with hints := hsBStep } 20 cBStep [] [] = tBStep := by kernel_rfl

def hsBAlike : List (Nat × Nat × List Nat) := []
def tBAlike : Tree := (.br (.isnil 0)
 (.br (.isnil 1)
 (.br (.isnil 2)
 (.br (.isnil 3)
 (.br (.isnil 4)
 (.br (.isnil 5)
 (.ret [.var 0, .var 1, .var 2, .var 3, .var 4, .var 5, .var 6, .bx (.isnil 6)])
 (.ret [.var 0, .var 1, .var 2, .var 3, .var 4, .var 5, .var 6, .bx (.lit false)]))
 (.call 11 [.var 4] (.call 15 [.var 6] (.br (.cmp .eql (.var 8) (.var 11))
 (.ret [.var 0, .var 1, .var 2, .var 3, .var 7, .var 5, .var 10, .bx (.cmp .eql (.var 9) (.var 12))])
 (.ret [.var 0, .var 1, .var 2, .var 3, .var 7, .var 5, .var 10, .bx (.lit false)])))))
 (.and (.call 10 [.var 3] (.and (.call 14 [.var 6] (.ret [.var 0, .var 1, .var 2, .var 7, .var 4, .var 5, .var 9, .bx (.cmp .eql (.var 8) (.var 10))])) .ok)) .ok))
 (.and (.call 9 [.var 2] (.and (.call 13 [.var 5] (.ret [.var 0, .var 1, .var 7, .var 3, .var 4, .var 9, .var 6, .bx (.cmp .eql (.var 8) (.var 10))])) .ok)) .ok))
 (.and (.call 8 [.var 1] (.and (.call 13 [.var 5] (.ret [.var 0, .var 7, .var 2, .var 3, .var 4, .var 9, .var 6, .bx (.cmp .eql (.var 8) (.var 10))])) .ok)) .ok))
 (.call 7 [.var 0] (.call 12 [.var 5] (.br (.cmp .eql (.var 8) (.var 11))
 (.ret [.var 7, .var 1, .var 2, .var 3, .var 4, .var 10, .var 6, .bx (.cmp .eql (.var 9) (.var 12))])
 (.ret [.var 7, .var 1, .var 2, .var 3, .var 4, .var 10, .var 6, .bx (.lit false)])))))
theorem rBAlike : runCtr { (cxDb Tryz.prog) with hints := hsBAlike } 20 cBAlike [] [] = tBAlike := by kernel_rfl

def hsAlA : List (Nat × Nat × List Nat) := []
def tAlA : Tree := (.br (.isnil 0)
 (.br (.isnil 1)
 (.ret [.var 0, .var 1, .bx (.lit true)])
 (.ret [.var 0, .var 1, .bx (.lit false)]))
 (.call 7 [.var 0] (.call 12 [.var 1] (.br (.cmp .eql (.var 3) (.var 6))
 (.ret [.var 2, .var 5, .bx (.cmp .eql (.var 4) (.var 7))])
 (.ret [.var 2, .var 5, .bx (.lit false)])))))
theorem rAlA : runCtr { (cxDb Tryz.prog) with hints := hsAlA } 20 cAlA [] [] = tAlA := by kernel_rfl

def hsAlB : List (Nat × Nat × List Nat) := []
def tAlB : Tree := (.br (.isnil 0)
 (.br (.isnil 1)
 (.ret [.var 0, .var 1, .bx (.lit true)])
 (.ret [.var 0, .var 1, .bx (.lit false)]))
 (.and (.call 8 [.var 0] (.and (.call 13 [.var 1] (.ret [.var 2, .var 4, .bx (.cmp .eql (.var 3) (.var 5))])) .ok)) .ok))
theorem rAlB : runCtr { (cxDb Tryz.prog) with hints := hsAlB } 20 cAlB [] [] = tAlB := by kernel_rfl

def hsAlC : List (Nat × Nat × List Nat) := []
def tAlC : Tree := (.br (.isnil 0)
 (.br (.isnil 1)
 (.ret [.var 0, .var 1, .bx (.lit true)])
 (.ret [.var 0, .var 1, .bx (.lit false)]))
 (.and (.call 9 [.var 0] (.and (.call 13 [.var 1] (.ret [.var 2, .var 4, .bx (.cmp .eql (.var 3) (.var 5))])) .ok)) .ok))
theorem rAlC : runCtr { (cxDb Tryz.prog) with hints := hsAlC } 20 cAlC [] [] = tAlC := by kernel_rfl

def hsAlD : List (Nat × Nat × List Nat) := []
def tAlD : Tree := (.br (.isnil 0)
 (.ret [.var 0, .var 1, .bx (.isnil 1)])
 (.and (.call 10 [.var 0] (.and (.call 14 [.var 1] (.ret [.var 2, .var 4, .bx (.cmp .eql (.var 3) (.var 5))])) .ok)) .ok))
theorem rAlD : runCtr { (cxDb Tryz.prog) with hints := hsAlD } 20 cAlD [] [] = tAlD := by kernel_rfl

def hsAlE : List (Nat × Nat × List Nat) := []
def tAlE : Tree := (.br (.isnil 0)
 (.ret [.var 0, .var 1, .bx (.isnil 1)])
 (.call 11 [.var 0] (.call 15 [.var 1] (.br (.cmp .eql (.var 3) (.var 6))
 (.ret [.var 2, .var 5, .bx (.cmp .eql (.var 4) (.var 7))])
 (.ret [.var 2, .var 5, .bx (.lit false)])))))
theorem rAlE : runCtr { (cxDb Tryz.prog) with hints := hsAlE } 20 cAlE [] [] = tAlE := by kernel_rfl

end Go.Proofs.YtdabdbbgaekmdaaGreat
/- Operations of jobs: the document's steps; both (printed by gen_db.py). -/
namespace Go.Proofs.YtdabdbbgaekmdaaGreat
set_option linter.unusedVariables false
set_option linter.unusedSimpArgs false
set_option linter.unusedSectionVars false
open Go Go.RowKit

theorem hctsDq : ∀ (ci : Nat) (c : Ctr U), ctsDq[ci]? = some c → c.Holds objs Tryz.prog := by
  intro ci c h
  match ci, h with
  | 0, h => cases h; exact hQLoad
  | 1, h => cases h; exact hQStore
  | 2, h => cases h; exact hQCAS
  | 3, h => cases h; exact hQIdx
  | 4, h => cases h; exact hQTop
  | 5, h => cases h; exact hQRd
  | 6, h => cases h; exact hQWd
  | n + 7, h => cases h
theorem idx1 {s w : Int} : IntKind.u64.wrap (IntKind.i64.wrap (idxW s w + 1)) = idxW s w + 1 := by
  have := idxW_lo' s w
  rw [wrap_small (by omega) (by omega), wrap_u64' (by omega) (by omega)]
set_option maxRecDepth 10000
set_option maxHeartbeats 32000000 in
theorem vQOStep (P : Program) (hs : List (Nat × Nat × List Nat)) : ∀ ins, ins.length = cQOStep.nin → cQOStep.pre ins → tQOStep.sat { cxDq P with hints := hs } (ctrR cQOStep) ins := by
  rintro ins _ ⟨F, M, rfl, hM⟩
  unfold tQOStep
  refine st_and (st_opn (T := ropT) (by rfl) ?_) (st_and (st_opn (T := ropG1) (by rfl) ?_) (st_and (st_opn (T := ropG2) (by rfl) ?_) (st_and (st_opn (T := ropU) (by rfl) ?_) (st_and (st_opn (T := ropN) (by rfl) ?_) (nomore_rop)))))
  (rintro ps hl ⟨st, ks, t, ls, s, line, i, w, e, pl, pw, pi, pj, rfl, g1, g2, hn⟩ he
   simp only [List.getElem?_cons_zero, ropT, ropTObj, Option.some.injEq, EV.u.injEq, U.rop.injEq] at he
   subst he
   simp only [List.cons_append, List.nil_append]
   rcases hn with ⟨rfl, rfl, hpw, rfl | ⟨rfl, rfl, hpi⟩ | ⟨rfl, rfl, hpi, hj1, hj2⟩⟩ | ⟨rfl, rfl, hi0, hi1⟩ | ⟨rfl, rfl, hi0, hi1, hw⟩ | rfl)
  (have hG : True := trivial
   have hJ : True := trivial)
  rotate_left
  (have hG : True := trivial
   have hJ : True := trivial)
  rotate_left
  (have hG : True := trivial
   have hJ : True := trivial)
  rotate_left
  (have hG : True := trivial
   have hJ : True := trivial)
  rotate_left
  (have hG := gen_nextq hw
   have hJ : True := trivial)
  rotate_left
  (have hG : True := trivial
   have hJ : True := trivial)
  rotate_left
  (rintro ps hl ⟨st, ks, t, ls, s, line, i, w, e, rfl, g1, g2, g3, hn⟩ he
   simp only [List.getElem?_cons_zero, ropG1, ropG1Obj, Option.some.injEq, EV.u.injEq, U.rop.injEq] at he
   subst he
   simp only [List.cons_append, List.nil_append]
   rcases hn with ⟨rfl, rfl⟩ | ⟨rfl, rfl, hw⟩ | ⟨rfl, hne⟩)
  (have hG : True := trivial
   have hJ : True := trivial
   skip)
  rotate_left
  (have hG : True := trivial
   have hJ : True := trivial
   skip)
  rotate_left
  (have hG : True := trivial
   have hJ : True := trivial
   skip)
  rotate_left
  (rintro ps hl ⟨st, ks, t, ls, s, line, i, w, e, pl, pw, rfl, g1, g2, g3, rfl, hpw, hn⟩ he
   simp only [List.getElem?_cons_zero, ropG2, ropG2Obj, Option.some.injEq, EV.u.injEq, U.rop.injEq] at he
   subst he
   simp only [List.cons_append, List.nil_append]
   rcases hn with ⟨rfl, rfl | rfl | rfl⟩ | rfl)
  (have hG : True := trivial
   have hJ : True := trivial)
  rotate_left
  (have hG : True := trivial
   have hJ := idx1 (s := s) (w := pw))
  rotate_left
  (have hG : True := trivial
   have hJ : True := trivial)
  rotate_left
  (have hG : True := trivial
   have hJ : True := trivial)
  rotate_left
  (rintro ps hl ⟨st, ks, t, ls, s, line, i, w, fr, to, co, e, rfl, g1, g2, g3, g4, g5, g6, hn⟩ he
   simp only [List.getElem?_cons_zero, ropU, ropUObj, Option.some.injEq, EV.u.injEq, U.rop.injEq] at he
   subst he
   simp only [List.cons_append, List.nil_append]
   rcases hn with ⟨rfl, rfl⟩ | ⟨rfl, rfl, hw⟩ | rfl)
  (have hG : True := trivial
   have hJ : True := trivial
   have hr := may_rng g4
   skip)
  rotate_left
  (have hG : True := trivial
   have hJ : True := trivial
   have hr := may_rng g4
   skip)
  rotate_left
  (have hG : True := trivial
   have hJ : True := trivial
   have hr := may_rng g4
   skip)
  rotate_left
  (rintro ps hl ⟨e, rfl, hne⟩ he
   simp only [List.getElem?_cons_zero, ropN, ropNObj, Option.some.injEq, EV.u.injEq, U.rop.injEq] at he
   subst he
   simp only [List.cons_append, List.nil_append]
   have hG : True := trivial
   have hJ : True := trivial
   skip)
  rotate_left
  all_goals try simp only [reduceIte, Int.reduceEq, Int.reduceSub, not_true_eq_false, not_false_eq_true, and_true, and_false, true_and, false_and, or_false, false_or, or_true, true_or, reduceCtorEq, if_true, if_false, ne_eq]
  all_goals
    repeat' (first
      | (first
        | (with_reducible refine st_need ?_ ?_
           focus (simp only [dn, reduceCtorEq, hG, hJ, va_map] <;> first | omega | assumption))
        | (with_reducible refine st_and ?_ ?_)
        | (with_reducible exact st_ok)
        | (with_reducible refine st_br (fun hc => ?_) (fun hc => ?_) <;> (simp only [dn, reduceCtorEq, hG, hJ, va_map] at hc) <;> (try (exfalso; first | contradiction | omega)))
        | (refine st_call (by rfl) (by simp only [dn, reduceCtorEq, hG, hJ, va_map] <;> rfl) ?_ (by simp only [fo_load, fo_store, fo_cas, out_qIdx, out_qTop, out_qrd, out_qwd] <;> rfl) (by simp only [dn] <;> rfl) ?_
           focus (first | exact ⟨_, _, rfl, hM.1⟩ | exact ⟨_, _, _, rfl, hM.1⟩ | exact ⟨_, _, _, _, rfl, hM.1⟩ | exact ⟨_, _, _, _, rfl, n_load hM _⟩ | exact ⟨_, _, _, _, rfl, hpw⟩ | exact ⟨_, rfl, hw⟩ | exact ⟨_, rfl, n_load hM _⟩ | exact ⟨_, _, rfl, by first | omega | exact (idxW_lo' _ _).1, by first | omega | exact (idxW_lo' _ _).2, hpw⟩ | exact ⟨_, _, _, rfl, by omega, by omega, by omega, by omega, by first | omega | (have h9 := hw.1; omega), by first | omega | (have h9 := hw.2; omega)⟩)))
      | (refine st_mk (by rfl) (by simp only [dn, reduceCtorEq, hG, hJ, va_map] <;> rfl) ?_ (by simp only [dn] <;> rfl) ?_
         focus
           (first | refine ⟨_, rfl, ?_⟩ | refine ⟨_, _, _, _, _, _, _, _, _, rfl, ?_⟩ | refine ⟨_, _, _, _, _, _, _, _, _, _, _, rfl, ?_⟩ | refine ⟨_, _, _, _, _, _, _, _, _, _, _, _, rfl, ?_⟩ | refine ⟨_, _, _, _, _, _, _, _, _, _, _, _, _, rfl, ?_⟩); (repeat' with_reducible apply And.intro) <;> first | rfl | assumption | exact n_load hM _ | exact isWd0 | omega | exact (idxW_lo' _ _).1 | exact (idxW_lo' _ _).2 | exact idxW_hi (by omega) _ | trivial | ((with_reducible refine .inl ?_); ((repeat' with_reducible apply And.intro) <;> first | rfl | assumption | exact n_load hM _ | exact isWd0 | omega | exact (idxW_lo' _ _).1 | exact (idxW_lo' _ _).2 | exact idxW_hi (by omega) _ | trivial | exact .inl rfl | exact .inr (.inl ⟨rfl, rfl, by omega⟩) | exact .inr (.inr ⟨rfl, rfl, by omega, (idxW_lo' _ _).1, (idxW_lo' _ _).2⟩) | exact .inr (.inr ⟨rfl, rfl, by omega, by omega, by omega⟩) | exact .inr (.inl rfl) | exact .inr (.inr rfl)); done) | ((with_reducible refine .inr (.inl ?_)); ((repeat' with_reducible apply And.intro) <;> first | rfl | assumption | exact n_load hM _ | exact isWd0 | omega | exact (idxW_lo' _ _).1 | exact (idxW_lo' _ _).2 | exact idxW_hi (by omega) _ | trivial | exact .inl rfl | exact .inr (.inl ⟨rfl, rfl, by omega⟩) | exact .inr (.inr ⟨rfl, rfl, by omega, (idxW_lo' _ _).1, (idxW_lo' _ _).2⟩) | exact .inr (.inr ⟨rfl, rfl, by omega, by omega, by omega⟩) | exact .inr (.inl rfl) | exact .inr (.inr rfl)); done) | ((with_reducible refine .inr (.inr (.inl ?_))); ((repeat' with_reducible apply And.intro) <;> first | rfl | assumption | exact n_load hM _ | exact isWd0 | omega | exact (idxW_lo' _ _).1 | exact (idxW_lo' _ _).2 | exact idxW_hi (by omega) _ | trivial | exact .inl rfl | exact .inr (.inl ⟨rfl, rfl, by omega⟩) | exact .inr (.inr ⟨rfl, rfl, by omega, (idxW_lo' _ _).1, (idxW_lo' _ _).2⟩) | exact .inr (.inr ⟨rfl, rfl, by omega, by omega, by omega⟩) | exact .inr (.inl rfl) | exact .inr (.inr rfl)); done) | ((with_reducible refine .inr (.inr (.inr ?_))); ((repeat' with_reducible apply And.intro) <;> first | rfl | assumption | exact n_load hM _ | exact isWd0 | omega | exact (idxW_lo' _ _).1 | exact (idxW_lo' _ _).2 | exact idxW_hi (by omega) _ | trivial | exact .inl rfl | exact .inr (.inl ⟨rfl, rfl, by omega⟩) | exact .inr (.inr ⟨rfl, rfl, by omega, (idxW_lo' _ _).1, (idxW_lo' _ _).2⟩) | exact .inr (.inr ⟨rfl, rfl, by omega, by omega, by omega⟩) | exact .inr (.inl rfl) | exact .inr (.inr rfl)); done) | ((with_reducible refine .inr (.inr ?_)); ((repeat' with_reducible apply And.intro) <;> first | rfl | assumption | exact n_load hM _ | exact isWd0 | omega | exact (idxW_lo' _ _).1 | exact (idxW_lo' _ _).2 | exact idxW_hi (by omega) _ | trivial | exact .inl rfl | exact .inr (.inl ⟨rfl, rfl, by omega⟩) | exact .inr (.inr ⟨rfl, rfl, by omega, (idxW_lo' _ _).1, (idxW_lo' _ _).2⟩) | exact .inr (.inr ⟨rfl, rfl, by omega, by omega, by omega⟩) | exact .inr (.inl rfl) | exact .inr (.inr rfl)); done) | ((with_reducible refine .inr ?_); ((repeat' with_reducible apply And.intro) <;> first | rfl | assumption | exact n_load hM _ | exact isWd0 | omega | exact (idxW_lo' _ _).1 | exact (idxW_lo' _ _).2 | exact idxW_hi (by omega) _ | trivial | exact .inl rfl | exact .inr (.inl ⟨rfl, rfl, by omega⟩) | exact .inr (.inr ⟨rfl, rfl, by omega, (idxW_lo' _ _).1, (idxW_lo' _ _).2⟩) | exact .inr (.inr ⟨rfl, rfl, by omega, by omega, by omega⟩) | exact .inr (.inl rfl) | exact .inr (.inr rfl)); done))
      | (refine st_ret (by simp only [dn, reduceCtorEq, va_map] <;> rfl) ?_
         show _ = [EV.u (U.rop (OpSt.step _ M).1), .u (.rmem (OpSt.step _ M).2), .b ((OpSt.step _ M).1.line == 9)]
         first
           | rfl
           | (rw [tk0y (by assumption)]; rfl)
           | (rw [tk3y (by assumption)]; rfl)
           | (rw [tk3n (by assumption)]; rfl)
           | (rw [tk2y (by assumption)]; rfl)
           | (rw [tk2n (by assumption)]; rfl)
           | (rw [gv2y (by assumption)]; rfl)
           | (rw [gv2n (by assumption)]; rfl)
           | (rw [gv3y (by assumption)]; rfl)
           | (rw [gv3n (by assumption)]; rfl)
           | (rw [tu1n (by assumption)]; rfl)
           | (rw [tk0n (by omega)]; rfl)
           | (rw [tk1]; rfl)
           | (rw [gv1y (.inl (by assumption))]; rfl)
           | (rw [gv1y (.inr (by assumption))]; rfl)
           | (rw [gv1n (by assumption) (by assumption)]; rfl)
           | (rw [tu1y (by assumption) (fun e => absurd e (by assumption))]; rfl)
           | (rw [tu1y (by assumption) (fun _ => by assumption)]; rfl)
           | (rw [tu1m (by assumption) (by assumption)]; rfl)
           | (rw [tu24y (by assumption) (by assumption)]; rfl)
           | (rw [tu24n (by assumption) (by assumption)]; rfl)
           | (rw [tu20y (by omega) (by assumption)]; rfl)
           | (rw [tu20n (by omega) (by assumption)]; rfl))
      | fail "no step")
theorem hQOStep : cQOStep.Holds objs Tryz.prog := runCtr_holds (X := { cxDq Tryz.prog with hints := hsQOStep }) objsOk mixed hctsDq (callable _ Tryz.func70 (by kernel_rfl) (by kernel_rfl)) (by rintro ins _ ⟨_, _, rfl, _⟩; rfl) (by rw [rQOStep]; exact vQOStep _ _)
theorem put_1 {a w : Int} {M : MemSt} : KeySt.put ⟨a, w, 1, 0⟩ M = (⟨0, 0, 9, 0⟩, M.store a w) := rfl
theorem put_9 {K : KeySt} {M : MemSt} (h : ¬ K.line = 1) : K.put M = (K, M) := if_neg h
theorem get_9 {K : KeySt} {M : MemSt} (h : ¬ K.line = 1) : K.get M = (K, M) := if_neg h
set_option maxHeartbeats 8000000 in
theorem vQKStep (P : Program) (hs : List (Nat × Nat × List Nat)) : ∀ ins, ins.length = cQKStep.nin → cQKStep.pre ins → tQKStep.sat { cxDq P with hints := hs } (ctrR cQKStep) ins := by
  rintro ins _ ⟨ld, F, M, rfl, hM⟩
  unfold tQKStep
  refine st_and (st_opn (T := rkeyS) (by rfl) ?_) (st_and (st_opn (T := rkeyL) (by rfl) ?_) (nomore_rkey))
  (rintro ps hl ⟨at_, w, line, e, rfl, hn⟩ he
   simp only [List.getElem?_cons_zero, rkeyS, rkeySObj, Option.some.injEq, EV.u.injEq, U.rkey.injEq] at he
   obtain ⟨rfl, rfl⟩ := he
   simp only [List.cons_append, List.nil_append]
   rcases hn with ⟨rfl, rfl⟩ | rfl)
  rotate_left 2
  (rintro ps hl ⟨at_, w, line, e, rfl, hn⟩ he
   simp only [List.getElem?_cons_zero, rkeyL, rkeyLObj, Option.some.injEq, EV.u.injEq, U.rkey.injEq] at he
   obtain ⟨rfl, rfl⟩ := he
   simp only [List.cons_append, List.nil_append]
   rcases hn with ⟨rfl, rfl, rfl⟩ | ⟨rfl, hew⟩)
  rotate_left 2
  all_goals
    repeat' (first
      | (first
        | (with_reducible refine st_need ?_ ?_
           focus (simp only [dn, reduceCtorEq, va_map] <;> first | omega | assumption))
        | (with_reducible refine st_and ?_ ?_)
        | (with_reducible exact st_ok)
        | (with_reducible refine st_br (fun hc => ?_) (fun hc => ?_) <;> (simp only [dn, reduceCtorEq, va_map] at hc) <;> (try (exfalso; first | contradiction | omega)))
        | (refine st_call (by rfl) (by simp only [dn, reduceCtorEq, va_map] <;> rfl) ?_ (by simp only [fo_load, fo_store, fo_cas] <;> rfl) (by simp only [dn] <;> rfl) ?_
           focus (first | exact ⟨_, _, rfl, hM.1⟩ | exact ⟨_, _, _, rfl, hM.1⟩ | exact ⟨_, _, _, _, rfl, hM.1⟩ | exact ⟨_, _, _, _, rfl, n_load hM _⟩ | exact ⟨_, _, _, _, rfl, hpw⟩ | exact ⟨_, rfl, hw⟩ | exact ⟨_, rfl, n_load hM _⟩ | exact ⟨_, _, rfl, by first | omega | exact (idxW_lo' _ _).1, by first | omega | exact (idxW_lo' _ _).2, hpw⟩ | exact ⟨_, _, _, rfl, by omega, by omega, by omega, by omega, by first | omega | (have h9 := hw.1; omega), by first | omega | (have h9 := hw.2; omega)⟩)))
      | (refine st_mk (by rfl) (by simp only [dn, reduceCtorEq, va_map] <;> rfl) ?_ (by simp only [dn] <;> rfl) ?_
         focus
           first | exact ⟨_, _, _, _, rfl, .inr rfl⟩ | exact ⟨_, _, _, _, rfl, .inr ⟨rfl, .inl rfl⟩⟩ | exact ⟨_, _, _, _, rfl, .inr ⟨rfl, hew⟩⟩)
      | (refine st_ret (by simp only [dn, reduceCtorEq, va_map] <;> rfl) ?_
         rfl)
      | fail "no step")
theorem hQKStep : cQKStep.Holds objs Tryz.prog := runCtr_holds (X := { cxDq Tryz.prog with hints := hsQKStep }) objsOk mixed hctsDq (callable _ Tryz.func72 (by kernel_rfl) (by kernel_rfl)) (by rintro ins _ ⟨_, _, _, rfl, _⟩; rfl) (by rw [rQKStep]; exact vQKStep _ _)
theorem hctsDb : ∀ (ci : Nat) (c : Ctr U), ctsDb[ci]? = some c → c.Holds objs Tryz.prog := by
  intro ci c h
  match ci, h with
  | 0, h => cases h; exact hTkStep
  | 1, h => cases h; exact hGvStep
  | 2, h => cases h; exact hTuStep
  | 3, h => cases h; exact hKyStep
  | 4, h => cases h; exact hKoStep
  | 5, h => cases h; exact hQOStep
  | 6, h => cases h; exact hQKStep
  | 7, h => cases h; exact hTkIdx
  | 8, h => cases h; exact hGvErr
  | 9, h => cases h; exact hTuErr
  | 10, h => cases h; exact hKyErr
  | 11, h => cases h; exact hKoWd
  | 12, h => cases h; exact hQOIdx
  | 13, h => cases h; exact hQOErr
  | 14, h => cases h; exact hQKErr
  | 15, h => cases h; exact hQKWd
  | n + 16, h => cases h
theorem o_tk (O : OpSt) (M : MemSt) : cTkStep.out [.u (.take O), .u (.mem M)] = [.u (.take (O.step M).1), .u (.mem (O.step M).2), .b ((O.step M).1.line == 9)] := rfl
theorem o_gv (O : OpSt) (M : MemSt) : cGvStep.out [.u (.give O), .u (.mem M)] = [.u (.give (O.step M).1), .u (.mem (O.step M).2), .b ((O.step M).1.line == 9)] := rfl
theorem o_tu (O : OpSt) (M : MemSt) : cTuStep.out [.u (.turn O), .u (.mem M)] = [.u (.turn (O.step M).1), .u (.mem (O.step M).2), .b ((O.step M).1.line == 9)] := rfl
theorem o_ky (O : KeySt) (M : MemSt) : cKyStep.out [.u (.key O), .u (.mem M)] = [.u (.key (O.put M).1), .u (.mem (O.put M).2), .b ((O.put M).1.line == 9)] := rfl
theorem o_ko (O : KeySt) (M : MemSt) : cKoStep.out [.u (.keyOf O), .u (.mem M)] = [.u (.keyOf (O.get M).1), .u (.mem (O.get M).2), .b ((O.get M).1.line == 9)] := rfl
theorem o_qo (O : OpSt) (M : MemSt) : cQOStep.out [.u (.rop O), .u (.rmem M)] = [.u (.rop (O.step M).1), .u (.rmem (O.step M).2), .b ((O.step M).1.line == 9)] := rfl
theorem o_qkf (O : KeySt) (M : MemSt) : cQKStep.out [.u (.rkey false O), .u (.rmem M)] = [.u (.rkey false (O.put M).1), .u (.rmem (O.put M).2), .b ((O.put M).1.line == 9)] := rfl
theorem o_qkt (O : KeySt) (M : MemSt) : cQKStep.out [.u (.rkey true O), .u (.rmem M)] = [.u (.rkey true (O.get M).1), .u (.rmem (O.get M).2), .b ((O.get M).1.line == 9)] := rfl
theorem o_tki (O : OpSt) : cTkIdx.out [.u (.take O)] = [.u (.take O), .i O.index, .i O.told] := rfl
theorem o_gve (O : OpSt) : cGvErr.out [.u (.give O)] = [.u (.give O), .i O.told] := rfl
theorem o_tue (O : OpSt) : cTuErr.out [.u (.turn O)] = [.u (.turn O), .i O.told] := rfl
theorem o_kye (O : KeySt) : cKyErr.out [.u (.key O)] = [.u (.key O), .i O.told] := rfl
theorem o_kow (O : KeySt) : cKoWd.out [.u (.keyOf O)] = [.u (.keyOf O), .i O.word, .i O.told] := rfl
theorem o_qoi (O : OpSt) : cQOIdx.out [.u (.rop O)] = [.u (.rop O), .i O.index, .i O.told] := rfl
theorem o_qoe (O : OpSt) : cQOErr.out [.u (.rop O)] = [.u (.rop O), .i O.told] := rfl
theorem o_qke (ld : Bool) (O : KeySt) : cQKErr.out [.u (.rkey ld O)] = [.u (.rkey ld O), .i O.told] := rfl
theorem o_qkw (O : KeySt) : cQKWd.out [.u (.rkey true O)] = [.u (.rkey true O), .i O.word, .i O.told] := rfl
set_option maxHeartbeats 8000000 in
theorem vBStep (P : Program) (hs : List (Nat × Nat × List Nat)) : ∀ ins, ins.length = cBStep.nin → cBStep.pre ins → tBStep.sat { cxDb P with hints := hs } (ctrR cBStep) ins := by
  rintro ins _ ⟨_ | O | O | O | O | O, M, rfl, hM⟩
  all_goals
    unfold tBStep
    simp only [o7, oA, oB, oC, oD, oE, oF, oG, List.cons_append, List.nil_append]
  all_goals
    repeat' (first
      | (first
        | (with_reducible refine st_need ?_ ?_
           focus (simp only [dn, reduceCtorEq, cmp_self, va_map] <;> first | omega | assumption))
        | (with_reducible refine st_and ?_ ?_)
        | (with_reducible exact st_ok)
        | (with_reducible refine st_br (fun hc => ?_) (fun hc => ?_) <;> (simp only [dn, reduceCtorEq, cmp_self, va_map] at hc) <;> (try (exfalso; first | contradiction | omega)))
        | (refine st_call (by rfl) (by simp only [dn, reduceCtorEq, cmp_self, va_map] <;> rfl) ?_ (by simp only [o_tk, o_gv, o_tu, o_ky, o_ko, o_qo, o_qkf, o_qkt, o_tki, o_gve, o_tue, o_kye, o_kow, o_qoi, o_qoe, o_qke, o_qkw] <;> rfl) (by simp only [dn] <;> rfl) ?_
           focus (first | exact ⟨_, _, rfl, hM⟩ | exact ⟨_, _, _, rfl, hM⟩ | exact ⟨_, rfl⟩ | exact ⟨_, _, rfl⟩)))
      | (refine st_ret (by simp only [dn, reduceCtorEq, cmp_self, va_map] <;> rfl) ?_
         first | rfl | (simp only [cmp_self, beq_self_eq_true]; rfl))
      | fail "no step")
theorem hBStep : cBStep.Holds objs Tryz.prog := runCtr_holds (X := { cxDb Tryz.prog with hints := hsBStep }) objsOk mixed hctsDb (callable _ Tryz.func19 (by kernel_rfl) (by kernel_rfl)) (by rintro ins _ ⟨_, _, rfl, _⟩; rfl) (by rw [rBStep]; exact vBStep _ _)
set_option maxHeartbeats 8000000 in
theorem vBAlike (P : Program) (hs : List (Nat × Nat × List Nat)) : ∀ ins, ins.length = cBAlike.nin → cBAlike.pre ins → tBAlike.sat { cxDb P with hints := hs } (ctrR cBAlike) ins := by
  rintro ins _ ⟨_ | O | O | O | O | O, rfl⟩
  all_goals
    unfold tBAlike
    simp only [o7, oA, oB, oC, oD, oE, oF, oG]
  all_goals
    repeat' (first
      | (first
        | (with_reducible refine st_need ?_ ?_
           focus (simp only [dn, reduceCtorEq, cmp_self, va_map] <;> first | omega | assumption))
        | (with_reducible refine st_and ?_ ?_)
        | (with_reducible exact st_ok)
        | (with_reducible refine st_br (fun hc => ?_) (fun hc => ?_) <;> (simp only [dn, reduceCtorEq, cmp_self, va_map] at hc) <;> (try (exfalso; first | contradiction | omega)))
        | (refine st_call (by rfl) (by simp only [dn, reduceCtorEq, cmp_self, va_map] <;> rfl) ?_ (by simp only [o_tk, o_gv, o_tu, o_ky, o_ko, o_qo, o_qkf, o_qkt, o_tki, o_gve, o_tue, o_kye, o_kow, o_qoi, o_qoe, o_qke, o_qkw] <;> rfl) (by simp only [dn] <;> rfl) ?_
           focus (first | exact ⟨_, _, rfl, hM⟩ | exact ⟨_, _, _, rfl, hM⟩ | exact ⟨_, rfl⟩ | exact ⟨_, _, rfl⟩)))
      | (refine st_ret (by simp only [dn, reduceCtorEq, cmp_self, va_map] <;> rfl) ?_
         first | rfl | (simp only [cmp_self, beq_self_eq_true]; rfl))
      | fail "no step")
theorem hBAlike : cBAlike.Holds objs Tryz.prog := runCtr_holds (X := { cxDb Tryz.prog with hints := hsBAlike }) objsOk mixed hctsDb (callable _ Tryz.func20 (by kernel_rfl) (by kernel_rfl)) (by rintro ins _ ⟨_, rfl⟩; rfl) (by rw [rBAlike]; exact vBAlike _ _)
theorem vAlA (P : Program) (hs : List (Nat × Nat × List Nat)) : ∀ ins, ins.length = cAlA.nin → cAlA.pre ins → tAlA.sat { cxDb P with hints := hs } (ctrR cAlA) ins := by
  rintro ins _ ⟨O, rfl⟩
  unfold tAlA
  all_goals
    repeat' (first
      | (first
        | (with_reducible refine st_need ?_ ?_
           focus (simp only [dn, reduceCtorEq, cmp_self, va_map] <;> first | omega | assumption))
        | (with_reducible refine st_and ?_ ?_)
        | (with_reducible exact st_ok)
        | (with_reducible refine st_br (fun hc => ?_) (fun hc => ?_) <;> (simp only [dn, reduceCtorEq, cmp_self, va_map] at hc) <;> (try (exfalso; first | contradiction | omega)))
        | (refine st_call (by rfl) (by simp only [dn, reduceCtorEq, cmp_self, va_map] <;> rfl) ?_ (by simp only [o_tk, o_gv, o_tu, o_ky, o_ko, o_qo, o_qkf, o_qkt, o_tki, o_gve, o_tue, o_kye, o_kow, o_qoi, o_qoe, o_qke, o_qkw] <;> rfl) (by simp only [dn] <;> rfl) ?_
           focus (first | exact ⟨_, _, rfl, hM⟩ | exact ⟨_, _, _, rfl, hM⟩ | exact ⟨_, rfl⟩ | exact ⟨_, _, rfl⟩)))
      | (refine st_ret (by simp only [dn, reduceCtorEq, cmp_self, va_map] <;> rfl) ?_
         first | rfl | (simp only [cmp_self, beq_self_eq_true]; rfl))
      | fail "no step")
theorem hAlA : cAlA.Holds objs Tryz.prog := runCtr_holds (X := { cxDb Tryz.prog with hints := hsAlA }) objsOk mixed hctsDb (callable _ Tryz.func20 (by kernel_rfl) (by kernel_rfl)) (by rintro ins _ ⟨_, rfl⟩; rfl) (by rw [rAlA]; exact vAlA _ _)
theorem vAlB (P : Program) (hs : List (Nat × Nat × List Nat)) : ∀ ins, ins.length = cAlB.nin → cAlB.pre ins → tAlB.sat { cxDb P with hints := hs } (ctrR cAlB) ins := by
  rintro ins _ ⟨O, rfl⟩
  unfold tAlB
  all_goals
    repeat' (first
      | (first
        | (with_reducible refine st_need ?_ ?_
           focus (simp only [dn, reduceCtorEq, cmp_self, va_map] <;> first | omega | assumption))
        | (with_reducible refine st_and ?_ ?_)
        | (with_reducible exact st_ok)
        | (with_reducible refine st_br (fun hc => ?_) (fun hc => ?_) <;> (simp only [dn, reduceCtorEq, cmp_self, va_map] at hc) <;> (try (exfalso; first | contradiction | omega)))
        | (refine st_call (by rfl) (by simp only [dn, reduceCtorEq, cmp_self, va_map] <;> rfl) ?_ (by simp only [o_tk, o_gv, o_tu, o_ky, o_ko, o_qo, o_qkf, o_qkt, o_tki, o_gve, o_tue, o_kye, o_kow, o_qoi, o_qoe, o_qke, o_qkw] <;> rfl) (by simp only [dn] <;> rfl) ?_
           focus (first | exact ⟨_, _, rfl, hM⟩ | exact ⟨_, _, _, rfl, hM⟩ | exact ⟨_, rfl⟩ | exact ⟨_, _, rfl⟩)))
      | (refine st_ret (by simp only [dn, reduceCtorEq, cmp_self, va_map] <;> rfl) ?_
         first | rfl | (simp only [cmp_self, beq_self_eq_true]; rfl))
      | fail "no step")
theorem hAlB : cAlB.Holds objs Tryz.prog := runCtr_holds (X := { cxDb Tryz.prog with hints := hsAlB }) objsOk mixed hctsDb (callable _ Tryz.func20 (by kernel_rfl) (by kernel_rfl)) (by rintro ins _ ⟨_, rfl⟩; rfl) (by rw [rAlB]; exact vAlB _ _)
theorem vAlC (P : Program) (hs : List (Nat × Nat × List Nat)) : ∀ ins, ins.length = cAlC.nin → cAlC.pre ins → tAlC.sat { cxDb P with hints := hs } (ctrR cAlC) ins := by
  rintro ins _ ⟨O, rfl⟩
  unfold tAlC
  all_goals
    repeat' (first
      | (first
        | (with_reducible refine st_need ?_ ?_
           focus (simp only [dn, reduceCtorEq, cmp_self, va_map] <;> first | omega | assumption))
        | (with_reducible refine st_and ?_ ?_)
        | (with_reducible exact st_ok)
        | (with_reducible refine st_br (fun hc => ?_) (fun hc => ?_) <;> (simp only [dn, reduceCtorEq, cmp_self, va_map] at hc) <;> (try (exfalso; first | contradiction | omega)))
        | (refine st_call (by rfl) (by simp only [dn, reduceCtorEq, cmp_self, va_map] <;> rfl) ?_ (by simp only [o_tk, o_gv, o_tu, o_ky, o_ko, o_qo, o_qkf, o_qkt, o_tki, o_gve, o_tue, o_kye, o_kow, o_qoi, o_qoe, o_qke, o_qkw] <;> rfl) (by simp only [dn] <;> rfl) ?_
           focus (first | exact ⟨_, _, rfl, hM⟩ | exact ⟨_, _, _, rfl, hM⟩ | exact ⟨_, rfl⟩ | exact ⟨_, _, rfl⟩)))
      | (refine st_ret (by simp only [dn, reduceCtorEq, cmp_self, va_map] <;> rfl) ?_
         first | rfl | (simp only [cmp_self, beq_self_eq_true]; rfl))
      | fail "no step")
theorem hAlC : cAlC.Holds objs Tryz.prog := runCtr_holds (X := { cxDb Tryz.prog with hints := hsAlC }) objsOk mixed hctsDb (callable _ Tryz.func20 (by kernel_rfl) (by kernel_rfl)) (by rintro ins _ ⟨_, rfl⟩; rfl) (by rw [rAlC]; exact vAlC _ _)
theorem vAlD (P : Program) (hs : List (Nat × Nat × List Nat)) : ∀ ins, ins.length = cAlD.nin → cAlD.pre ins → tAlD.sat { cxDb P with hints := hs } (ctrR cAlD) ins := by
  rintro ins _ ⟨O, rfl⟩
  unfold tAlD
  all_goals
    repeat' (first
      | (first
        | (with_reducible refine st_need ?_ ?_
           focus (simp only [dn, reduceCtorEq, cmp_self, va_map] <;> first | omega | assumption))
        | (with_reducible refine st_and ?_ ?_)
        | (with_reducible exact st_ok)
        | (with_reducible refine st_br (fun hc => ?_) (fun hc => ?_) <;> (simp only [dn, reduceCtorEq, cmp_self, va_map] at hc) <;> (try (exfalso; first | contradiction | omega)))
        | (refine st_call (by rfl) (by simp only [dn, reduceCtorEq, cmp_self, va_map] <;> rfl) ?_ (by simp only [o_tk, o_gv, o_tu, o_ky, o_ko, o_qo, o_qkf, o_qkt, o_tki, o_gve, o_tue, o_kye, o_kow, o_qoi, o_qoe, o_qke, o_qkw] <;> rfl) (by simp only [dn] <;> rfl) ?_
           focus (first | exact ⟨_, _, rfl, hM⟩ | exact ⟨_, _, _, rfl, hM⟩ | exact ⟨_, rfl⟩ | exact ⟨_, _, rfl⟩)))
      | (refine st_ret (by simp only [dn, reduceCtorEq, cmp_self, va_map] <;> rfl) ?_
         first | rfl | (simp only [cmp_self, beq_self_eq_true]; rfl))
      | fail "no step")
theorem hAlD : cAlD.Holds objs Tryz.prog := runCtr_holds (X := { cxDb Tryz.prog with hints := hsAlD }) objsOk mixed hctsDb (callable _ Tryz.func20 (by kernel_rfl) (by kernel_rfl)) (by rintro ins _ ⟨_, rfl⟩; rfl) (by rw [rAlD]; exact vAlD _ _)
theorem vAlE (P : Program) (hs : List (Nat × Nat × List Nat)) : ∀ ins, ins.length = cAlE.nin → cAlE.pre ins → tAlE.sat { cxDb P with hints := hs } (ctrR cAlE) ins := by
  rintro ins _ ⟨O, rfl⟩
  unfold tAlE
  all_goals
    repeat' (first
      | (first
        | (with_reducible refine st_need ?_ ?_
           focus (simp only [dn, reduceCtorEq, cmp_self, va_map] <;> first | omega | assumption))
        | (with_reducible refine st_and ?_ ?_)
        | (with_reducible exact st_ok)
        | (with_reducible refine st_br (fun hc => ?_) (fun hc => ?_) <;> (simp only [dn, reduceCtorEq, cmp_self, va_map] at hc) <;> (try (exfalso; first | contradiction | omega)))
        | (refine st_call (by rfl) (by simp only [dn, reduceCtorEq, cmp_self, va_map] <;> rfl) ?_ (by simp only [o_tk, o_gv, o_tu, o_ky, o_ko, o_qo, o_qkf, o_qkt, o_tki, o_gve, o_tue, o_kye, o_kow, o_qoi, o_qoe, o_qke, o_qkw] <;> rfl) (by simp only [dn] <;> rfl) ?_
           focus (first | exact ⟨_, _, rfl, hM⟩ | exact ⟨_, _, _, rfl, hM⟩ | exact ⟨_, rfl⟩ | exact ⟨_, _, rfl⟩)))
      | (refine st_ret (by simp only [dn, reduceCtorEq, cmp_self, va_map] <;> rfl) ?_
         first | rfl | (simp only [cmp_self, beq_self_eq_true]; rfl))
      | fail "no step")
theorem hAlE : cAlE.Holds objs Tryz.prog := runCtr_holds (X := { cxDb Tryz.prog with hints := hsAlE }) objsOk mixed hctsDb (callable _ Tryz.func20 (by kernel_rfl) (by kernel_rfl)) (by rintro ins _ ⟨_, rfl⟩; rfl) (by rw [rAlE]; exact vAlE _ _)
end Go.Proofs.YtdabdbbgaekmdaaGreat
