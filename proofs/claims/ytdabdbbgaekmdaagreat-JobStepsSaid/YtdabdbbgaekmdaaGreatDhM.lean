import Derived.Test.YtdabdbbgaekmdaaGreatDfM
import Derived.KernelRfl
/- Laying jobs; what is told of all: contracts, loops (printed by gen_db.py). -/
namespace Go.Proofs.YtdabdbbgaekmdaaGreat
set_option linter.unusedVariables false
set_option linter.unusedSimpArgs false
set_option linter.unusedSectionVars false
open Go Go.RowKit

def fillK (M : MemSt) (t l s : Int) : Nat → MemSt
  | 0 => M.store t 1
  | k + 1 => (fillK M t l s k).store (IntKind.i64.wrap (l + k)) (if (k : Int) + 1 = s then 0 else k + 2)
def fill10 (M : MemSt) (t l s : Int) : MemSt := if 1 ≤ s ∧ s ≤ 4096 then fillK M t l s s.toNat else M
theorem len_fillK (M : MemSt) (t l s : Int) : ∀ k, (fillK M t l s k).W.length = M.W.length
  | 0 => len_store _ _ _
  | k + 1 => by rw [fillK, len_store, len_fillK M t l s k]
theorem len_fill10 (M : MemSt) (t l s : Int) : (fill10 M t l s).W.length = M.W.length := by
  unfold fill10; split
  · exact len_fillK ..
  · rfl
theorem fillK_succ (M : MemSt) (a b n : Int) {i : Int} (h : 0 ≤ i) : fillK M a b n (i + 1).toNat = (fillK M a b n i.toNat).store (IntKind.i64.wrap (b + i)) (if i + 1 = n then 0 else i + 2) := by
  rw [show (i + 1).toNat = i.toNat + 1 by omega, fillK, show ((i.toNat : Nat) : Int) = i by omega]
def fillJ (M : MemSt) (st ks : Int) : Nat → MemSt
  | 0 => M
  | k + 1 => ((fillJ M st ks k).store (IntKind.i64.wrap (st + k)) 4294967297).store (IntKind.i64.wrap (ks + k)) 0
def fill24 (M : MemSt) (st ks t ls s : Int) : MemSt := if 1 ≤ s ∧ s ≤ 64 then fillJ (fill10 M t ls s) st ks s.toNat else M
theorem len_fillJ (M : MemSt) (st ks : Int) : ∀ k, (fillJ M st ks k).W.length = M.W.length
  | 0 => rfl
  | k + 1 => by rw [fillJ, len_store, len_store, len_fillJ M st ks k]
theorem len_fill24 (M : MemSt) (st ks t ls s : Int) : (fill24 M st ks t ls s).W.length = M.W.length := by
  unfold fill24; split
  · rw [len_fillJ, len_fill10]
  · rfl
theorem fillJ_succ (M : MemSt) (st ks : Int) {i : Int} (h : 0 ≤ i) : fillJ M st ks (i + 1).toNat = ((fillJ M st ks i.toNat).store (IntKind.i64.wrap (st + i)) 4294967297).store (IntKind.i64.wrap (ks + i)) 0 := by
  rw [show (i + 1).toNat = i.toNat + 1 by omega, fillJ, show ((i.toNat : Nat) : Int) = i by omega]
def cSFill : Ctr U :=
  { fn := 91, nin := 4, args := [.agg [.int .i64 (.var 1), .int .i64 (.var 2), .int .i64 (.var 3)], .hnd 0], heap := [.abs 0]
    pre := fun ins => ∃ M a b n, ins = [.u (.mem M), .i a, .i b, .i n] ∧ M.W.length ≤ 4096, nout := 1
    out := fun ins => match ins with | [.u (.mem M), .i a, .i b, .i n] => [.u (.mem (fill10 M a b n))] | _ => []
    ret := .tuple [], post := [.abs 4] }
def cQSFill : Ctr U :=
  { fn := 98, nin := 4, args := [.agg [.int .i64 (.var 1), .int .i64 (.var 2), .int .i64 (.var 3)], .hnd 0], heap := [.abs 0]
    pre := fun ins => ∃ M a b n, ins = [.u (.rmem M), .i a, .i b, .i n] ∧ M.W.length ≤ 4096, nout := 1
    out := fun ins => match ins with | [.u (.rmem M), .i a, .i b, .i n] => [.u (.rmem (fill10 M a b n))] | _ => []
    ret := .tuple [], post := [.abs 4] }
def cJFill : Ctr U :=
  { fn := 48, nin := 6, args := [.agg [.int .i64 (.var 1), .int .i64 (.var 2), .int .i64 (.var 3), .int .i64 (.var 4), .int .i64 (.var 5)], .hnd 0], heap := [.abs 0]
    pre := fun ins => ∃ M, ∃ st ks t ls s : Int, ins = [.u (.mem M), .i st, .i ks, .i t, .i ls, .i s] ∧ M.W.length ≤ 4096, nout := 1
    out := fun ins => match ins with | [.u (.mem M), .i st, .i ks, .i t, .i ls, .i s] => [.u (.mem (fill24 M st ks t ls s))] | _ => []
    ret := .tuple [], post := [.abs 6] }
def cQJFill : Ctr U :=
  { fn := 61, nin := 6, args := [.agg [.int .i64 (.var 1), .int .i64 (.var 2), .int .i64 (.var 3), .int .i64 (.var 4), .int .i64 (.var 5)], .hnd 0], heap := [.abs 0]
    pre := fun ins => ∃ M, ∃ st ks t ls s : Int, ins = [.u (.rmem M), .i st, .i ks, .i t, .i ls, .i s] ∧ M.W.length ≤ 4096, nout := 1
    out := fun ins => match ins with | [.u (.rmem M), .i st, .i ks, .i t, .i ls, .i s] => [.u (.rmem (fill24 M st ks t ls s))] | _ => []
    ret := .tuple [], post := [.abs 6] }
def sfInv (env : List (EV U)) : Prop := ∃ M a b n, ∃ x0 x1 x2 : EV U, ∃ i : Int, env = [.u (.mem M), .i a, .i b, .i n, x0, x1, x2, .u (.mem (fillK M a b n i.toNat)), .i i] ∧ 0 ≤ i ∧ M.W.length ≤ 4096 ∧ i ≤ n ∧ 1 ≤ n ∧ n ≤ 4096
def lSFill : LoopS U :=
  { fn := 91, rid := 4, nv := 2, tm := [(16, .int .i64 (.var 8))], hp := [(0, .abs 7)], reb := [], inv := sfInv, mu := fun env => (gI env 3 - gI env 8).toNat }
def qsfInv (env : List (EV U)) : Prop := ∃ M a b n, ∃ x0 : EV U, ∃ i : Int, env = [.u (.rmem M), .i a, .i b, .i n, x0, .u (.rmem (fillK M a b n i.toNat)), .i i] ∧ 0 ≤ i ∧ M.W.length ≤ 4096 ∧ i + 1 ≤ n ∧ n ≤ 4096
def lQSFill : LoopS U :=
  { fn := 98, rid := 4, nv := 2, tm := [(4, .int .i64 (.var 6))], hp := [(0, .abs 5)], reb := [], inv := qsfInv, mu := fun env => (gI env 3 - gI env 6).toNat }
/-- a word read as a state -/
def readL (w : Int) : List Int := [w % 256, w / 256 % 256, w / 4294967296]
def jobsL (M : MemSt) (st : Int) : Nat → List Int
  | 0 => []
  | n + 1 => jobsL M st n ++ readL (M.at0 (IntKind.i64.wrap (st + n)))
theorem jobsL_len (M : MemSt) (st : Int) : ∀ n, (jobsL M st n).length = 3 * n
  | 0 => rfl
  | n + 1 => by rw [jobsL, List.length_append, jobsL_len M st n]; rfl
def cJAll : Ctr U :=
  { fn := 12, nin := 6, args := [.agg [.int .i64 (.var 1), .int .i64 (.var 2), .int .i64 (.var 3), .int .i64 (.var 4), .int .i64 (.var 5)], .hnd 0], heap := [.abs 0]
    pre := fun ins => ∃ M, ∃ st ks t ls s : Int, ins = [.u (.mem M), .i st, .i ks, .i t, .i ls, .i s] ∧ M.fine ∧ 1 ≤ s ∧ s ≤ 64, nout := 4, out := fun _ => []
    rel := some fun ins outs => ∃ M, ∃ st ks t ls s cp : Int, ∃ d : List Int, ins = [.u (.mem M), .i st, .i ks, .i t, .i ls, .i s] ∧ outs = [.u (.mem M), .l (jobsL M st s.toNat ++ d), .i s, .i cp]
    ret := .slice 1 (.var 8) (.var 9), post := [.abs 6, .row .i64 44 7] }
def cQAll : Ctr U :=
  { fn := 78, nin := 6, args := [.agg [.int .i64 (.var 1), .int .i64 (.var 2), .int .i64 (.var 3), .int .i64 (.var 4), .int .i64 (.var 5)], .hnd 0], heap := [.abs 0]
    pre := fun ins => ∃ M, ∃ st ks t ls s : Int, ins = [.u (.rmem M), .i st, .i ks, .i t, .i ls, .i s] ∧ M.fine ∧ 1 ≤ s ∧ s ≤ 64, nout := 4, out := fun _ => []
    rel := some fun ins outs => ∃ M, ∃ st ks t ls s cp : Int, ∃ d : List Int, ins = [.u (.rmem M), .i st, .i ks, .i t, .i ls, .i s] ∧ outs = [.u (.rmem M), .l (jobsL M st s.toNat ++ d), .i s, .i cp]
    ret := .slice 1 (.var 8) (.var 9), post := [.abs 6, .row .i64 44 7] }
def cAll : Ctr U :=
  { fn := 21, nin := 7, args := [.agg [.int .i64 (.var 2), .int .i64 (.var 3), .int .i64 (.var 4), .int .i64 (.var 5), .int .i64 (.var 6)], .hnd 0, .hnd 1], heap := [.abs 0, .abs 1]
    pre := fun ins => ∃ M, ∃ st ks t ls s : Int, ins = [.u (.mem M), .u (.rmem M), .i st, .i ks, .i t, .i ls, .i s] ∧ M.fine ∧ 1 ≤ s ∧ s ≤ 64, nout := 3
    out := fun ins => match ins with | [.u (.mem M), .u (.rmem W), .i st, .i ks, .i t, .i ls, .i s] => [.u (.mem M), .u (.rmem W), .b true] | _ => []
    ret := .bool (.var 9), post := [.abs 7, .abs 8] }
def jfInv (env : List (EV U)) : Prop := ∃ M, ∃ st ks t ls s : Int, ∃ x6 : EV U, ∃ i : Int, env = [.u (.mem M), .i st, .i ks, .i t, .i ls, .i s, x6, .u (.mem (fillJ (fill10 M t ls s) st ks i.toNat)), .i i] ∧ 0 ≤ i ∧ M.W.length ≤ 4096 ∧ i ≤ s ∧ 1 ≤ s ∧ s ≤ 64
def lJFill : LoopS U :=
  { fn := 48, rid := 4, nv := 2, tm := [(15, .int .i64 (.var 8))], hp := [(0, .abs 7)], reb := [], inv := jfInv, mu := fun env => (gI env 5 - gI env 8).toNat }
def qjfInv (env : List (EV U)) : Prop := ∃ M, ∃ st ks t ls s : Int, ∃ x6 : EV U, ∃ i : Int, env = [.u (.rmem M), .i st, .i ks, .i t, .i ls, .i s, x6, .u (.rmem (fillJ (fill10 M t ls s) st ks i.toNat)), .i i] ∧ 0 ≤ i ∧ M.W.length ≤ 4096 ∧ i ≤ s ∧ 1 ≤ s ∧ s ≤ 64
def lQJFill : LoopS U :=
  { fn := 61, rid := 4, nv := 2, tm := [(4, .int .i64 (.var 8))], hp := [(0, .abs 7)], reb := [], inv := qjfInv, mu := fun env => (gI env 5 - gI env 8).toNat }
def jaInv (env : List (EV U)) : Prop := ∃ M, ∃ st ks t ls s : Int, ∃ i cp : Int, ∃ d : List Int, env = [.u (.mem M), .i st, .i ks, .i t, .i ls, .i s, .u (.mem M), .l M.W, .i M.W.length, .i i, .l (jobsL M st i.toNat ++ d), .i i, .i cp] ∧ 0 ≤ i ∧ i ≤ s ∧ 1 ≤ s ∧ s ≤ 64 ∧ M.fine ∧ 3 * cp = 3 * i + d.length
def lJAll : LoopS U :=
  { fn := 12, rid := 6, nv := 4, tm := [(18, .int .i64 (.var 9)), (6, .slice 3 (.var 11) (.var 12))], hp := [(3, .row .i64 44 10)], reb := [(3, 0)], inv := jaInv, mu := fun env => (gI env 5 - gI env 9).toNat }
def qaInv (env : List (EV U)) : Prop := ∃ M, ∃ st ks t ls s : Int, ∃ i cp : Int, ∃ d : List Int, env = [.u (.rmem M), .i st, .i ks, .i t, .i ls, .i s, .i i, .u (.rmem M), .l (jobsL M st i.toNat ++ d), .i i, .i cp] ∧ 0 ≤ i ∧ i ≤ s ∧ 1 ≤ s ∧ s ≤ 64 ∧ M.fine ∧ 3 * cp = 3 * i + d.length
def lQAll : LoopS U :=
  { fn := 78, rid := 3, nv := 5, tm := [(6, .int .i64 (.var 6)), (5, .slice 2 (.var 9) (.var 10))], hp := [(0, .abs 7), (2, .row .i64 44 8)], reb := [(2, 0)], inv := qaInv, mu := fun env => (gI env 5 - gI env 6).toNat }
def al1Inv (env : List (EV U)) : Prop := ∃ M, ∃ st ks t ls s : Int, ∃ i ca cb : Int, ∃ d e P : List Int, env = [.u (.mem M), .u (.rmem M), .i st, .i ks, .i t, .i ls, .i s, .u (.mem M), .l (jobsL M st s.toNat ++ d), .i s, .i ca, .u (.rmem M), .l (jobsL M st s.toNat ++ e), .i s, .i cb, .b true, .i i, .l (P ++ ((jobsL M st s.toNat).drop (3 * i.toNat) ++ d))] ∧ P.length = 3 * i.toNat ∧ 0 ≤ i ∧ i ≤ s ∧ 1 ≤ s ∧ s ≤ 64 ∧ M.fine
def lAl1 : LoopS U :=
  { fn := 21, rid := 4, nv := 3, tm := [(9, .bool (.var 15)), (10, .int .i64 (.var 16))], hp := [(3, .row .i64 44 17)], reb := [], inv := al1Inv, mu := fun env => (gI env 9 - gI env 16).toNat }
def al2Inv (env : List (EV U)) : Prop := ∃ M, ∃ st ks t ls s : Int, ∃ i ca cb cc : Int, ∃ d e f : List Int, ∃ x15 x16 x17 : EV U, env = [.u (.mem M), .u (.rmem M), .i st, .i ks, .i t, .i ls, .i s, .u (.mem M), .l (jobsL M st s.toNat ++ d), .i s, .i ca, .u (.rmem M), .l (jobsL M st s.toNat ++ e), .i s, .i cb, x15, x16, x17, .u (.mem M), .l (jobsL M st s.toNat ++ f), .i s, .i cc, .b true, .i i] ∧ 0 ≤ i ∧ i ≤ s ∧ 1 ≤ s ∧ s ≤ 64 ∧ M.fine
def lAl2 : LoopS U :=
  { fn := 21, rid := 10, nv := 2, tm := [(9, .bool (.var 22)), (12, .int .i64 (.var 23))], hp := [], reb := [], inv := al2Inv, mu := fun env => (gI env 20 - gI env 23).toNat }
def cxDhl (P : Program) : Cx U := { cx P [cJAll, cQAll] with join := true, loops := [lAl1, lAl2] }
def cxDhs (P : Program) : Cx U := { cx P [cStore, cPuT] with join := true, loops := [lSFill] }
def cxDhq (P : Program) : Cx U := { cx P [cQStore] with join := true, loops := [lQSFill] }
def cxDhf (P : Program) : Cx U := { cx P [cStore, cSFill] with join := true, loops := [lJFill] }
def cxDhg (P : Program) : Cx U := { cx P [cQStore, cQSFill] with join := true, loops := [lQJFill] }
def cxDha (P : Program) : Cx U := { cx P [cWords, cJRd] with join := true, loops := [lJAll] }
def cxDhb (P : Program) : Cx U := { cx P [cQAt, cQRd] with join := true, loops := [lQAll] }
def cxDt (P : Program) (l : List (Ctr U)) : Cx U := { cx P l with join := true }
end Go.Proofs.YtdabdbbgaekmdaaGreat
/- The ways of the runs, as a program of ours printed them. -/
namespace Go.Proofs.YtdabdbbgaekmdaaGreat
set_option linter.unusedVariables false
set_option linter.unusedSimpArgs false
set_option linter.unusedSectionVars false
open Go
set_option maxRecDepth 100000

def hsSFill : List (Nat × Nat × List Nat) := []
def tSFillL0 : Tree := (.br (.cmp .lss (.var 8) (.var 3))
 (.br (.cmp .eql (.bin .add .i64 (.var 8) (.lit 1)) (.var 3))
 (.and (.call 1 [.ex (.lit (-1)), .ex (.lit 0)] (.and (.call 0 [.var 7, .ex (.bin .add .i64 (.var 2) (.var 8)), .ex (.var 9)] (.back 0 7 [.var 11, .ex (.bin .add .i64 (.var 8) (.lit 1))])) .ok)) .ok)
 (.and (.call 1 [.ex (.bin .add .i64 (.var 8) (.lit 1)), .ex (.lit 0)] (.and (.call 0 [.var 7, .ex (.bin .add .i64 (.var 2) (.var 8)), .ex (.var 9)] (.back 0 7 [.var 11, .ex (.bin .add .i64 (.var 8) (.lit 1))])) .ok)) .ok))
 (.ret [.var 7]))
def tSFill : Tree := (.br (.cmp .geq (.var 3) (.lit 1))
 (.br (.cmp .leq (.var 3) (.lit 4096))
 (.and (.call 1 [.ex (.lit 0), .ex (.lit 0)] (.and (.call 0 [.var 0, .ex (.var 1), .ex (.var 4)] (.loop 0 7 [.var 6, .ex (.lit 0)] tSFillL0)) .ok)) .ok)
 (.ret [.var 0]))
 (.ret [.var 0]))
theorem rSFill : runCtr { (cxDhs Tryz.prog) with hints := hsSFill } 20 cSFill [] [] = tSFill := by kernel_rfl

def hsQSFill : List (Nat × Nat × List Nat) := []
def tQSFillL0 : Tree := (.br (.cmp .lss (.var 6) (.bin .sub .i64 (.var 3) (.lit 1)))
 (.call 0 [.var 5, .ex (.bin .add .i64 (.var 2) (.var 6)), .ex (.conv .u64 (.bin .add .i64 (.var 6) (.lit 2)))] (.back 0 5 [.var 7, .ex (.bin .add .i64 (.var 6) (.lit 1))]))
 (.call 0 [.var 5, .ex (.bin .sub .i64 (.bin .add .i64 (.var 2) (.var 3)) (.lit 1)), .ex (.lit 0)] (.ret [.var 7])))
def tQSFill : Tree := (.br (.cmp .lss (.var 3) (.lit 1))
 (.ret [.var 0])
 (.br (.cmp .gtr (.var 3) (.lit 4096))
 (.ret [.var 0])
 (.call 0 [.var 0, .ex (.var 1), .ex (.lit 1)] (.loop 0 5 [.var 4, .ex (.lit 0)] tQSFillL0))))
theorem rQSFill : runCtr { (cxDhq Tryz.prog) with hints := hsQSFill } 20 cQSFill [] [] = tQSFill := by kernel_rfl

def hsJFill : List (Nat × Nat × List Nat) := []
def tJFillL0 : Tree := (.br (.cmp .lss (.var 8) (.var 5))
 (.and (.and (.call 0 [.var 7, .ex (.bin .add .i64 (.var 1) (.var 8)), .ex (.lit 4294967297)] (.call 0 [.var 9, .ex (.bin .add .i64 (.var 2) (.var 8)), .ex (.lit 0)] (.back 0 7 [.var 10, .ex (.bin .add .i64 (.var 8) (.lit 1))]))) .ok) .ok)
 (.ret [.var 7]))
def tJFill : Tree := (.br (.cmp .geq (.var 5) (.lit 1))
 (.br (.cmp .leq (.var 5) (.lit 64))
 (.call 1 [.var 0, .ex (.var 3), .ex (.var 4), .ex (.var 5)] (.loop 0 7 [.var 6, .ex (.lit 0)] tJFillL0))
 (.ret [.var 0]))
 (.ret [.var 0]))
theorem rJFill : runCtr { (cxDhf Tryz.prog) with hints := hsJFill } 20 cJFill [] [] = tJFill := by kernel_rfl

def hsQJFill : List (Nat × Nat × List Nat) := []
def tQJFillL0 : Tree := (.br (.cmp .lss (.var 8) (.var 5))
 (.and (.and (.call 0 [.var 7, .ex (.bin .add .i64 (.var 1) (.var 8)), .ex (.lit 4294967297)] (.call 0 [.var 9, .ex (.bin .add .i64 (.var 2) (.var 8)), .ex (.lit 0)] (.back 0 7 [.var 10, .ex (.bin .add .i64 (.var 8) (.lit 1))]))) .ok) .ok)
 (.ret [.var 7]))
def tQJFill : Tree := (.br (.cmp .geq (.var 5) (.lit 1))
 (.br (.cmp .leq (.var 5) (.lit 64))
 (.call 1 [.var 0, .ex (.var 3), .ex (.var 4), .ex (.var 5)] (.loop 0 7 [.var 6, .ex (.lit 0)] tQJFillL0))
 (.ret [.var 0]))
 (.ret [.var 0]))
theorem rQJFill : runCtr { (cxDhg Tryz.prog) with hints := hsQJFill } 20 cQJFill [] [] = tQJFill := by kernel_rfl

def hsJAll : List (Nat × Nat × List Nat) := []
def tJAllL0 : Tree := (.br (.cmp .lss (.var 9) (.var 5))
 (.br (.cmp .geq (.bin .add .i64 (.var 1) (.var 9)) (.lit 0))
 (.need (.cmp .leq (.lit 0) (.var 8)) (.br (.cmp .lss (.bin .add .i64 (.var 1) (.var 9)) (.var 8))
 (.need (.cmp .leq (.lit 0) (.bin .add .i64 (.var 1) (.var 9))) (.need (.cmp .lss (.bin .add .i64 (.var 1) (.var 9)) (.var 8)) (.need (.cmp .lss (.bin .add .i64 (.var 1) (.var 9)) (.len 7)) (.need (.cmp .leq (.lit 0) (.bin .add .i64 (.var 1) (.var 9))) (.need (.cmp .lss (.bin .add .i64 (.var 1) (.var 9)) (.len 7)) (.call 1 [.ex (.nth 7 (.bin .add .i64 (.var 1) (.var 9)))] (.need (.cmp .leq (.lit 0) (.var 11)) (.need (.cmp .leq (.var 11) (.var 12)) (.need (.rm 10 3 (.var 12)) (.need (.cmp .leq (.var 11) (.lit 1000000)) (.appf (some 10) (.var 11) 3 [(.var 13), (.var 14), (.var 15)] (.back 0 9 [.ex (.bin .add .i64 (.var 9) (.lit 1)), .var 16, .ex (.bin .add .i64 (.var 11) (.lit 1)), .ex (.var 17)]))))))))))))
 (.call 1 [.ex (.lit 0)] (.need (.cmp .leq (.lit 0) (.var 11)) (.need (.cmp .leq (.var 11) (.var 12)) (.need (.rm 10 3 (.var 12)) (.need (.cmp .leq (.var 11) (.lit 1000000)) (.appf (some 10) (.var 11) 3 [(.var 13), (.var 14), (.var 15)] (.back 0 9 [.ex (.bin .add .i64 (.var 9) (.lit 1)), .var 16, .ex (.bin .add .i64 (.var 11) (.lit 1)), .ex (.var 17)])))))))))
 (.call 1 [.ex (.lit 0)] (.need (.cmp .leq (.lit 0) (.var 11)) (.need (.cmp .leq (.var 11) (.var 12)) (.need (.rm 10 3 (.var 12)) (.need (.cmp .leq (.var 11) (.lit 1000000)) (.appf (some 10) (.var 11) 3 [(.var 13), (.var 14), (.var 15)] (.back 0 9 [.ex (.bin .add .i64 (.var 9) (.lit 1)), .var 16, .ex (.bin .add .i64 (.var 11) (.lit 1)), .ex (.var 17)]))))))))
 (.ret [.var 6, .var 10, .ex (.var 11), .ex (.var 12)]))
def tJAll : Tree := (.br (.cmp .geq (.var 5) (.lit 1))
 (.br (.cmp .leq (.var 5) (.lit 64))
 (.call 0 [.var 0] (.ext (.lst []) (.loop 0 9 [.ex (.lit 0), .var 9, .ex (.lit 0), .ex (.lit 0)] tJAllL0)))
 (.ext (.lst []) (.ret [.var 0, .var 6, .ex (.lit 0), .ex (.lit 0)])))
 (.ext (.lst []) (.ret [.var 0, .var 6, .ex (.lit 0), .ex (.lit 0)])))
theorem rJAll : runCtr { (cxDha Tryz.prog) with hints := hsJAll } 20 cJAll [] [] = tJAll := by kernel_rfl

def hsQAll : List (Nat × Nat × List Nat) := []
def tQAllL0 : Tree := (.br (.cmp .geq (.var 5) (.lit 1))
 (.br (.cmp .leq (.var 5) (.lit 64))
 (.br (.cmp .lss (.var 6) (.var 5))
 (.call 0 [.var 7, .ex (.bin .add .i64 (.var 1) (.var 6))] (.call 1 [.ex (.var 12)] (.need (.cmp .leq (.lit 0) (.var 9)) (.need (.cmp .leq (.var 9) (.var 10)) (.need (.rm 8 3 (.var 10)) (.need (.cmp .leq (.var 9) (.lit 1000000)) (.appf (some 8) (.var 9) 3 [(.var 13), (.var 14), (.var 15)] (.back 0 6 [.ex (.bin .add .i64 (.var 6) (.lit 1)), .var 11, .var 16, .ex (.bin .add .i64 (.var 9) (.lit 1)), .ex (.var 17)]))))))))
 (.ret [.var 7, .var 8, .ex (.var 9), .ex (.var 10)]))
 (.ret [.var 7, .var 8, .ex (.var 9), .ex (.var 10)]))
 (.ret [.var 7, .var 8, .ex (.var 9), .ex (.var 10)]))
def tQAll : Tree := (.ext (.lst []) (.loop 0 6 [.ex (.lit 0), .var 0, .var 6, .ex (.lit 0), .ex (.lit 0)] tQAllL0))
theorem rQAll : runCtr { (cxDhb Tryz.prog) with hints := hsQAll } 20 cQAll [] [] = tQAll := by kernel_rfl

def hsAll : List (Nat × Nat × List Nat) := []
def tAllL0 : Tree := (.br (.var 22)
 (.need (.cmp .leq (.lit 0) (.var 20)) (.br (.cmp .lss (.var 23) (.var 20))
 (.need (.cmp .leq (.lit 0) (.var 20)) (.need (.cmp .leq (.lit 0) (.var 13)) (.br (.cmp .eql (.var 20) (.var 13))
 (.need (.cmp .leq (.lit 0) (.var 23)) (.need (.cmp .lss (.var 23) (.var 20)) (.need (.cmp .lss (.lit 0) (.len 19)) (.need (.cmp .leq (.lit 0) (.var 23)) (.need (.cmp .leq (.var 23) (.lit 1000000)) (.need (.cmp .lss (.bin .add .i64 (.bin .mul .i64 (.var 23) (.lit 3)) (.lit 2)) (.len 19)) (.need (.cmp .leq (.lit 0) (.var 23)) (.need (.cmp .lss (.var 23) (.var 13)) (.need (.cmp .lss (.lit 0) (.len 12)) (.need (.cmp .leq (.lit 0) (.var 23)) (.need (.cmp .leq (.var 23) (.lit 1000000)) (.need (.cmp .lss (.bin .add .i64 (.bin .mul .i64 (.var 23) (.lit 3)) (.lit 2)) (.len 12)) (.back 1 22 [.bx (.and (.cmp .eql (.nth 19 (.bin .add .i64 (.bin .mul .i64 (.var 23) (.lit 3)) (.lit 0))) (.nth 12 (.bin .add .i64 (.bin .mul .i64 (.var 23) (.lit 3)) (.lit 0)))) (.and (.cmp .eql (.nth 19 (.bin .add .i64 (.bin .mul .i64 (.var 23) (.lit 3)) (.lit 1))) (.nth 12 (.bin .add .i64 (.bin .mul .i64 (.var 23) (.lit 3)) (.lit 1)))) (.cmp .eql (.nth 19 (.bin .add .i64 (.bin .mul .i64 (.var 23) (.lit 3)) (.lit 2))) (.nth 12 (.bin .add .i64 (.bin .mul .i64 (.var 23) (.lit 3)) (.lit 2)))))), .ex (.bin .add .i64 (.var 23) (.lit 1))])))))))))))))
 (.back 1 22 [.bx (.lit false), .ex (.bin .add .i64 (.var 23) (.lit 1))]))))
 (.ret [.var 18, .var 11, .bx (.var 22)])))
 (.ret [.var 18, .var 11, .bx (.var 22)]))
def tAllL1 : Tree := (.br (.var 15)
 (.need (.cmp .leq (.lit 0) (.var 9)) (.br (.cmp .lss (.var 16) (.var 9))
 (.need (.cmp .leq (.lit 0) (.var 16)) (.need (.cmp .lss (.var 16) (.var 9)) (.need (.cmp .lss (.lit 0) (.len 17)) (.need (.cmp .leq (.lit 0) (.var 16)) (.need (.cmp .leq (.var 16) (.lit 1000000)) (.need (.cmp .lss (.bin .add .i64 (.bin .mul .i64 (.var 16) (.lit 3)) (.lit 2)) (.len 17)) (.need (.cmp .leq (.lit 0) (.var 16)) (.need (.cmp .lss (.var 16) (.var 13)) (.need (.cmp .lss (.lit 0) (.len 12)) (.need (.cmp .leq (.lit 0) (.var 16)) (.need (.cmp .leq (.var 16) (.lit 1000000)) (.need (.cmp .lss (.bin .add .i64 (.bin .mul .i64 (.var 16) (.lit 3)) (.lit 2)) (.len 12)) (.need (.cmp .leq (.lit 0) (.var 16)) (.need (.cmp .lss (.var 16) (.var 9)) (.need (.cmp .lss (.lit 0) (.len 17)) (.need (.cmp .leq (.lit 0) (.var 16)) (.need (.cmp .leq (.var 16) (.lit 1000000)) (.need (.cmp .lss (.bin .add .i64 (.bin .mul .i64 (.var 16) (.lit 3)) (.lit 2)) (.len 17)) (.ext (.sets 17 (.var 16) 3 [(.lit (-77)), (.lit 0), (.lit 0)]) (.back 0 15 [.bx (.and (.cmp .eql (.nth 17 (.bin .add .i64 (.bin .mul .i64 (.var 16) (.lit 3)) (.lit 0))) (.nth 12 (.bin .add .i64 (.bin .mul .i64 (.var 16) (.lit 3)) (.lit 0)))) (.and (.cmp .eql (.nth 17 (.bin .add .i64 (.bin .mul .i64 (.var 16) (.lit 3)) (.lit 1))) (.nth 12 (.bin .add .i64 (.bin .mul .i64 (.var 16) (.lit 3)) (.lit 1)))) (.cmp .eql (.nth 17 (.bin .add .i64 (.bin .mul .i64 (.var 16) (.lit 3)) (.lit 2))) (.nth 12 (.bin .add .i64 (.bin .mul .i64 (.var 16) (.lit 3)) (.lit 2)))))), .ex (.bin .add .i64 (.var 16) (.lit 1)), .var 18]))))))))))))))))))))
 (.callm 0 (.var 7 :: va [2, 3, 4, 5, 6] []) (.loop 1 22 [.bx (.var 15), .ex (.lit 0)] tAllL0))))
 (.callm 0 (.var 7 :: va [2, 3, 4, 5, 6] []) (.loop 1 22 [.bx (.var 15), .ex (.lit 0)] tAllL0)))
def tAll : Tree := (.and (.callm 0 (.var 0 :: va [2, 3, 4, 5, 6] []) (.and (.callm 1 (.var 1 :: va [2, 3, 4, 5, 6] []) (.need (.cmp .leq (.lit 0) (.var 9)) (.need (.cmp .leq (.lit 0) (.var 13)) (.loop 0 15 [.bx (.cmp .eql (.var 9) (.var 13)), .ex (.lit 0), .var 8] tAllL1)))) .ok)) .ok)
theorem rAll : runCtr { (cxDhl Tryz.prog) with hints := hsAll } 20 cAll [] [] = tAll := by
  dsimp only [tAllL1, tAll, va, List.map_cons, List.map_nil, List.cons_append, List.nil_append]
  kernel_rfl

end Go.Proofs.YtdabdbbgaekmdaaGreat
