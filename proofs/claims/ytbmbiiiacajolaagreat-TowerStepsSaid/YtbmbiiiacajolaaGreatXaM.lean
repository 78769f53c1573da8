import Derived.Test.YtbmbiiiacajolaaGreatVd
import Derived.KernelRfl
/- Memories that are laid: what is said; contracts. -/
namespace Go.Proofs.YtbmbiiiacajolaaGreat
set_option linter.unusedVariables false
set_option linter.unusedSimpArgs false
set_option linter.unusedSectionVars false
open Go Go.RowKit

def fillK (M : MemSt) (t l s : Int) : Nat → MemSt
  | 0 => M.store t 1
  | k + 1 => (fillK M t l s k).store (IntKind.i64.wrap (l + k)) (if (k : Int) + 1 = s then 0 else k + 2)
def fill10 (M : MemSt) (t l s : Int) : MemSt := if 1 ≤ s ∧ s ≤ 4096 then fillK M t l s s.toNat else M
/-- one word in cells that follow each other -/
def fillR (M : MemSt) (a x : Int) : Nat → MemSt
  | 0 => M
  | k + 1 => (fillR M a x k).store (IntKind.i64.wrap (a + k)) x
def fill11 (M : MemSt) (t l s g w : Int) : MemSt := if 1 ≤ s ∧ s ≤ 4096 then fillR ((fill10 M t l s).store w 0) g 1 s.toNat else M
def fill12 (M : MemSt) (a p n : Int) : MemSt := if 1 ≤ n ∧ n ≤ 64 then fillR (M.store a 0) p 0 n.toNat else M
def fill13 (M : MemSt) (t l s g w ea ep ec tp : Int) : MemSt := fillR (fill12 (fill11 M t l s g w) ea ep ec) tp 0 3
def fill15 (M : MemSt) (n h a t l s g w ea ep ec tp : Int) : MemSt := if okT n h a s = true then fillR (fill13 M t l s g w ea ep ec tp) h 0 a.toNat else M
theorem len_fillK (M : MemSt) (t l s : Int) : ∀ k, (fillK M t l s k).W.length = M.W.length
  | 0 => len_store _ _ _
  | k + 1 => by rw [fillK, len_store, len_fillK M t l s k]
theorem len_fillR (M : MemSt) (a x : Int) : ∀ k, (fillR M a x k).W.length = M.W.length
  | 0 => rfl
  | k + 1 => by rw [fillR, len_store, len_fillR M a x k]
theorem len_fill10 (M : MemSt) (t l s : Int) : (fill10 M t l s).W.length = M.W.length := by
  unfold fill10; split
  · exact len_fillK ..
  · rfl
theorem len_fill11 (M : MemSt) (t l s g w : Int) : (fill11 M t l s g w).W.length = M.W.length := by
  unfold fill11; split
  · rw [len_fillR, len_store, len_fill10]
  · rfl
theorem len_fill12 (M : MemSt) (a p n : Int) : (fill12 M a p n).W.length = M.W.length := by
  unfold fill12; split
  · rw [len_fillR, len_store]
  · rfl
theorem len_fill13 (M : MemSt) (t l s g w ea ep ec tp : Int) : (fill13 M t l s g w ea ep ec tp).W.length = M.W.length := by rw [fill13, len_fillR, len_fill12, len_fill11]
theorem len_fill15 (M : MemSt) (n h a t l s g w ea ep ec tp : Int) : (fill15 M n h a t l s g w ea ep ec tp).W.length = M.W.length := by
  unfold fill15; split
  · rw [len_fillR, len_fill13]
  · rfl
theorem fillR_succ (M : MemSt) (a x : Int) {i : Int} (h : 0 ≤ i) : fillR M a x (i + 1).toNat = (fillR M a x i.toNat).store (IntKind.i64.wrap (a + i)) x := by
  rw [show (i + 1).toNat = i.toNat + 1 by omega, fillR, show ((i.toNat : Nat) : Int) = i by omega]
theorem fillK_succ (M : MemSt) (a b n : Int) {i : Int} (h : 0 ≤ i) : fillK M a b n (i + 1).toNat = (fillK M a b n i.toNat).store (IntKind.i64.wrap (b + i)) (if i + 1 = n then 0 else i + 2) := by
  rw [show (i + 1).toNat = i.toNat + 1 by omega, fillK, show ((i.toNat : Nat) : Int) = i by omega]
def cPutTop : Ctr U :=
  { fn := 162, nin := 2, args := [.agg [.int .i64 (.var 0), .int .i64 (.var 1)]], heap := []
    pre := fun ins => ∃ i t, ins = [.i i, .i t] ∧ -1 ≤ i ∧ i ≤ 65534 ∧ 0 ≤ t ∧ t < 281474976710656, nout := 2
    out := fun ins => match ins with | [.i i, .i t] => [.i (i + 1 + t * 65536), .i 0] | _ => []
    ret := .tuple [.int .u64 (.var 2), .int .i64 (.var 3)], post := [] }
def cSFill : Ctr U :=
  { fn := 149, nin := 4, args := [.agg [.int .i64 (.var 1), .int .i64 (.var 2), .int .i64 (.var 3)], .hnd 0], heap := [.abs 0]
    pre := fun ins => ∃ M a b n, ins = [.u (.mem M), .i a, .i b, .i n] ∧ M.W.length ≤ 4096, nout := 1
    out := fun ins => match ins with | [.u (.mem M), .i a, .i b, .i n] => [.u (.mem (fill10 M a b n))] | _ => []
    ret := .tuple [], post := [.abs 4] }
def cQSFill : Ctr U :=
  { fn := 151, nin := 4, args := [.agg [.int .i64 (.var 1), .int .i64 (.var 2), .int .i64 (.var 3)], .hnd 0], heap := [.abs 0]
    pre := fun ins => ∃ M a b n, ins = [.u (.rmem M), .i a, .i b, .i n] ∧ M.W.length ≤ 4096, nout := 1
    out := fun ins => match ins with | [.u (.rmem M), .i a, .i b, .i n] => [.u (.rmem (fill10 M a b n))] | _ => []
    ret := .tuple [], post := [.abs 4] }
def cAFill : Ctr U :=
  { fn := 131, nin := 7, args := [.agg [.int .i64 (.var 1), .int .i64 (.var 2), .int .i64 (.var 3), .int .i64 (.var 4), .int .i64 (.var 5), .int .i64 (.var 6)], .hnd 0], heap := [.abs 0]
    pre := fun ins => ∃ M t l s g w m, ins = [.u (.mem M), .i t, .i l, .i s, .i g, .i w, .i m] ∧ M.W.length ≤ 4096, nout := 1
    out := fun ins => match ins with | [.u (.mem M), .i t, .i l, .i s, .i g, .i w, .i m] => [.u (.mem (fill11 M t l s g w))] | _ => []
    ret := .tuple [], post := [.abs 7] }
def cQAFill : Ctr U :=
  { fn := 134, nin := 7, args := [.agg [.int .i64 (.var 1), .int .i64 (.var 2), .int .i64 (.var 3), .int .i64 (.var 4), .int .i64 (.var 5), .int .i64 (.var 6)], .hnd 0], heap := [.abs 0]
    pre := fun ins => ∃ M t l s g w m, ins = [.u (.rmem M), .i t, .i l, .i s, .i g, .i w, .i m] ∧ M.W.length ≤ 4096, nout := 1
    out := fun ins => match ins with | [.u (.rmem M), .i t, .i l, .i s, .i g, .i w, .i m] => [.u (.rmem (fill11 M t l s g w))] | _ => []
    ret := .tuple [], post := [.abs 7] }
def cEFill : Ctr U :=
  { fn := 132, nin := 4, args := [.agg [.int .i64 (.var 1), .int .i64 (.var 2), .int .i64 (.var 3)], .hnd 0], heap := [.abs 0]
    pre := fun ins => ∃ M a b n, ins = [.u (.mem M), .i a, .i b, .i n] ∧ M.W.length ≤ 4096, nout := 1
    out := fun ins => match ins with | [.u (.mem M), .i a, .i b, .i n] => [.u (.mem (fill12 M a b n))] | _ => []
    ret := .tuple [], post := [.abs 4] }
def cQEFill : Ctr U :=
  { fn := 135, nin := 4, args := [.agg [.int .i64 (.var 1), .int .i64 (.var 2), .int .i64 (.var 3)], .hnd 0], heap := [.abs 0]
    pre := fun ins => ∃ M a b n, ins = [.u (.rmem M), .i a, .i b, .i n] ∧ M.W.length ≤ 4096, nout := 1
    out := fun ins => match ins with | [.u (.rmem M), .i a, .i b, .i n] => [.u (.rmem (fill12 M a b n))] | _ => []
    ret := .tuple [], post := [.abs 4] }
def cLFill : Ctr U :=
  { fn := 107, nin := 11, args := [.agg [.int .i64 (.var 1), .int .i64 (.var 2), .int .i64 (.var 3), .int .i64 (.var 4), .int .i64 (.var 5), .int .i64 (.var 6), .int .i64 (.var 7), .int .i64 (.var 8), .int .i64 (.var 9), .int .i64 (.var 10)], .hnd 0], heap := [.abs 0]
    pre := fun ins => ∃ M t l s g w m ea ep ec tp, ins = [.u (.mem M), .i t, .i l, .i s, .i g, .i w, .i m, .i ea, .i ep, .i ec, .i tp] ∧ M.W.length ≤ 4096, nout := 1
    out := fun ins => match ins with | [.u (.mem M), .i t, .i l, .i s, .i g, .i w, .i m, .i ea, .i ep, .i ec, .i tp] => [.u (.mem (fill13 M t l s g w ea ep ec tp))] | _ => []
    ret := .tuple [], post := [.abs 11] }
def cQLFill : Ctr U :=
  { fn := 108, nin := 11, args := [.agg [.int .i64 (.var 1), .int .i64 (.var 2), .int .i64 (.var 3), .int .i64 (.var 4), .int .i64 (.var 5), .int .i64 (.var 6), .int .i64 (.var 7), .int .i64 (.var 8), .int .i64 (.var 9), .int .i64 (.var 10)], .hnd 0], heap := [.abs 0]
    pre := fun ins => ∃ M t l s g w m ea ep ec tp, ins = [.u (.rmem M), .i t, .i l, .i s, .i g, .i w, .i m, .i ea, .i ep, .i ec, .i tp] ∧ M.W.length ≤ 4096, nout := 1
    out := fun ins => match ins with | [.u (.rmem M), .i t, .i l, .i s, .i g, .i w, .i m, .i ea, .i ep, .i ec, .i tp] => [.u (.rmem (fill13 M t l s g w ea ep ec tp))] | _ => []
    ret := .tuple [], post := [.abs 11] }
def cTFill : Ctr U :=
  { fn := 44, nin := 14, args := [.agg [.int .i64 (.var 1), .int .i64 (.var 2), .int .i64 (.var 3), .int .i64 (.var 4), .int .i64 (.var 5), .int .i64 (.var 6), .int .i64 (.var 7), .int .i64 (.var 8), .int .i64 (.var 9), .int .i64 (.var 10), .int .i64 (.var 11), .int .i64 (.var 12), .int .i64 (.var 13)], .hnd 0], heap := [.abs 0]
    pre := fun ins => ∃ M n h a t l s g w m ea ep ec tp, ins = [.u (.mem M), .i n, .i h, .i a, .i t, .i l, .i s, .i g, .i w, .i m, .i ea, .i ep, .i ec, .i tp] ∧ M.W.length ≤ 4096, nout := 1
    out := fun ins => match ins with | [.u (.mem M), .i n, .i h, .i a, .i t, .i l, .i s, .i g, .i w, .i m, .i ea, .i ep, .i ec, .i tp] => [.u (.mem (fill15 M n h a t l s g w ea ep ec tp))] | _ => []
    ret := .tuple [], post := [.abs 14] }
def cQTFill : Ctr U :=
  { fn := 45, nin := 14, args := [.agg [.int .i64 (.var 1), .int .i64 (.var 2), .int .i64 (.var 3), .int .i64 (.var 4), .int .i64 (.var 5), .int .i64 (.var 6), .int .i64 (.var 7), .int .i64 (.var 8), .int .i64 (.var 9), .int .i64 (.var 10), .int .i64 (.var 11), .int .i64 (.var 12), .int .i64 (.var 13)], .hnd 0], heap := [.abs 0]
    pre := fun ins => ∃ M n h a t l s g w m ea ep ec tp, ins = [.u (.rmem M), .i n, .i h, .i a, .i t, .i l, .i s, .i g, .i w, .i m, .i ea, .i ep, .i ec, .i tp] ∧ M.W.length ≤ 4096, nout := 1
    out := fun ins => match ins with | [.u (.rmem M), .i n, .i h, .i a, .i t, .i l, .i s, .i g, .i w, .i m, .i ea, .i ep, .i ec, .i tp] => [.u (.rmem (fill15 M n h a t l s g w ea ep ec tp))] | _ => []
    ret := .tuple [], post := [.abs 14] }
def sfInv (env : List (EV U)) : Prop := ∃ M a b n, ∃ x0 x1 x2 : EV U, ∃ i : Int, env = [.u (.mem M), .i a, .i b, .i n, x0, x1, x2, .u (.mem (fillK M a b n i.toNat)), .i i] ∧ 0 ≤ i ∧ M.W.length ≤ 4096 ∧ i ≤ n ∧ 1 ≤ n ∧ n ≤ 4096
def lSFill : LoopS U :=
  { fn := 149, rid := 4, nv := 2, tm := [(16, .int .i64 (.var 8))], hp := [(0, .abs 7)], reb := [], inv := sfInv, mu := fun env => (gI env 3 - gI env 8).toNat }
def qsfInv (env : List (EV U)) : Prop := ∃ M a b n, ∃ x0 : EV U, ∃ i : Int, env = [.u (.rmem M), .i a, .i b, .i n, x0, .u (.rmem (fillK M a b n i.toNat)), .i i] ∧ 0 ≤ i ∧ M.W.length ≤ 4096 ∧ i + 1 ≤ n ∧ n ≤ 4096
def lQSFill : LoopS U :=
  { fn := 151, rid := 4, nv := 2, tm := [(4, .int .i64 (.var 6))], hp := [(0, .abs 5)], reb := [], inv := qsfInv, mu := fun env => (gI env 3 - gI env 6).toNat }
def afInv (env : List (EV U)) : Prop := ∃ M t l s g w m, ∃ x0 x1 : EV U, ∃ i : Int, env = [.u (.mem M), .i t, .i l, .i s, .i g, .i w, .i m, x0, x1, .u (.mem (fillR ((fill10 M t l s).store w 0) g 1 i.toNat)), .i i] ∧ 0 ≤ i ∧ M.W.length ≤ 4096 ∧ i ≤ s ∧ 1 ≤ s ∧ s ≤ 4096
def lAFill : LoopS U :=
  { fn := 131, rid := 5, nv := 2, tm := [(19, .int .i64 (.var 10))], hp := [(0, .abs 9)], reb := [], inv := afInv, mu := fun env => (gI env 3 - gI env 10).toNat }
def qafInv (env : List (EV U)) : Prop := ∃ M t l s g w m, ∃ x0 x1 : EV U, ∃ i : Int, env = [.u (.rmem M), .i t, .i l, .i s, .i g, .i w, .i m, x0, x1, .u (.rmem (fillR ((fill10 M t l s).store w 0) g 1 i.toNat)), .i i] ∧ 0 ≤ i ∧ M.W.length ≤ 4096 ∧ i ≤ s ∧ 1 ≤ s ∧ s ≤ 4096
def lQAFill : LoopS U :=
  { fn := 134, rid := 5, nv := 2, tm := [(4, .int .i64 (.var 10))], hp := [(0, .abs 9)], reb := [], inv := qafInv, mu := fun env => (gI env 3 - gI env 10).toNat }
def efInv (env : List (EV U)) : Prop := ∃ M a b n, ∃ x0 x1 : EV U, ∃ i : Int, env = [.u (.mem M), .i a, .i b, .i n, x0, x1, .u (.mem (fillR (M.store a 0) b 0 i.toNat)), .i i] ∧ 0 ≤ i ∧ M.W.length ≤ 4096 ∧ i ≤ n ∧ 1 ≤ n ∧ n ≤ 64
def lEFill : LoopS U :=
  { fn := 160, rid := 1, nv := 2, tm := [(6, .int .i64 (.var 7))], hp := [(0, .abs 6)], reb := [], inv := efInv, mu := fun env => (gI env 3 - gI env 7).toNat }
def qefInv (env : List (EV U)) : Prop := ∃ M a b n, ∃ x0 : EV U, ∃ i : Int, env = [.u (.rmem M), .i a, .i b, .i n, x0, .u (.rmem (fillR (M.store a 0) b 0 i.toNat)), .i i] ∧ 0 ≤ i ∧ M.W.length ≤ 4096 ∧ i ≤ n ∧ 1 ≤ n ∧ n ≤ 64
def lQEFill : LoopS U :=
  { fn := 135, rid := 4, nv := 2, tm := [(4, .int .i64 (.var 6))], hp := [(0, .abs 5)], reb := [], inv := qefInv, mu := fun env => (gI env 3 - gI env 6).toNat }
def tfInv (env : List (EV U)) : Prop := ∃ M n h a t l s g w m ea ep ec tp, ∃ x0 x1 : EV U, ∃ i : Int, env = [.u (.mem M), .i n, .i h, .i a, .i t, .i l, .i s, .i g, .i w, .i m, .i ea, .i ep, .i ec, .i tp, x0, x1, .u (.mem (fillR (fill13 M t l s g w ea ep ec tp) h 0 i.toNat)), .i i] ∧ 0 ≤ i ∧ M.W.length ≤ 4096 ∧ i ≤ a ∧ okT n h a s = true
def lTFill : LoopS U :=
  { fn := 44, rid := 4, nv := 2, tm := [(14, .int .i64 (.var 17))], hp := [(0, .abs 16)], reb := [], inv := tfInv, mu := fun env => (gI env 3 - gI env 17).toNat }
def qtfInv (env : List (EV U)) : Prop := ∃ M n h a t l s g w m ea ep ec tp, ∃ x0 x1 : EV U, ∃ i : Int, env = [.u (.rmem M), .i n, .i h, .i a, .i t, .i l, .i s, .i g, .i w, .i m, .i ea, .i ep, .i ec, .i tp, x0, x1, .u (.rmem (fillR (fill13 M t l s g w ea ep ec tp) h 0 i.toNat)), .i i] ∧ 0 ≤ i ∧ M.W.length ≤ 4096 ∧ i ≤ a ∧ okT n h a s = true
def lQTFill : LoopS U :=
  { fn := 45, rid := 4, nv := 2, tm := [(4, .int .i64 (.var 17))], hp := [(0, .abs 16)], reb := [], inv := qtfInv, mu := fun env => (gI env 3 - gI env 17).toNat }
def ctsXS : List (Ctr U) := [cStore, cPutTop]
def cxXS (P : Program) : Cx U := { cx P ctsXS with join := true, loops := [lSFill] }
def ctsXQS : List (Ctr U) := [cQStore]
def cxXQS (P : Program) : Cx U := { cx P ctsXQS with join := true, loops := [lQSFill] }
def ctsXA : List (Ctr U) := [cStore, cSFill]
def cxXA (P : Program) : Cx U := { cx P ctsXA with join := true, loops := [lAFill] }
def ctsXQA : List (Ctr U) := [cQStore, cQSFill]
def cxXQA (P : Program) : Cx U := { cx P ctsXQA with join := true, loops := [lQAFill] }
def ctsXE : List (Ctr U) := [cStore]
def cxXE (P : Program) : Cx U := { cx P ctsXE with join := true, loops := [lEFill] }
def ctsXQE : List (Ctr U) := [cQStore]
def cxXQE (P : Program) : Cx U := { cx P ctsXQE with join := true, loops := [lQEFill] }
def ctsXL : List (Ctr U) := [cStore, cAFill, cEFill]
def cxXL (P : Program) : Cx U := { cx P ctsXL with join := true }
def ctsXQL : List (Ctr U) := [cQStore, cQAFill, cQEFill]
def cxXQL (P : Program) : Cx U := { cx P ctsXQL with join := true }
def ctsXT : List (Ctr U) := [cStore, cSnd15, cLFill]
def cxXT (P : Program) : Cx U := { cx P ctsXT with join := true, loops := [lTFill] }
def ctsXQT : List (Ctr U) := [cQStore, cDSnd, cQLFill]
def cxXQT (P : Program) : Cx U := { cx P ctsXQT with join := true, loops := [lQTFill] }
end Go.Proofs.YtbmbiiiacajolaaGreat
/- The ways of the runs, as a program of ours printed them. -/
namespace Go.Proofs.YtbmbiiiacajolaaGreat
set_option linter.unusedVariables false
set_option linter.unusedSimpArgs false
set_option linter.unusedSectionVars false
open Go
set_option maxRecDepth 100000

def hsPutTop : List (Nat × Nat × List Nat) := []
def tPutTop : Tree := (.br (.cmp .lss (.var 0) (.lit (-1)))
 (.ret [.ex (.lit 0), .ex (.lit 3)])
 (.br (.cmp .gtr (.var 0) (.lit 65534))
 (.ret [.ex (.lit 0), .ex (.lit 3)])
 (.br (.cmp .lss (.var 1) (.lit 0))
 (.ret [.ex (.lit 0), .ex (.lit 3)])
 (.br (.cmp .gtr (.var 1) (.lit 281474976710655))
 (.ret [.ex (.lit 0), .ex (.lit 3)])
 (.and (.and (.and (.and (.ret [.ex (.bin .or .u64 (.bin .or .u64 (.lit 0) (.bin .shl .u64 (.conv .u64 (.bin .add .i64 (.var 0) (.lit 1))) (.lit 0))) (.bin .shl .u64 (.conv .u64 (.var 1)) (.lit 16))), .ex (.lit 0)]) .ok) .ok) .ok) .ok)))))
theorem rPutTop : runCtr { (cx Tryz.prog []) with hints := hsPutTop } 20 cPutTop [] [] = tPutTop := by kernel_rfl

def hsSFill : List (Nat × Nat × List Nat) := []
def tSFillL0 : Tree := (.br (.cmp .lss (.var 8) (.var 3))
 (.br (.cmp .eql (.bin .add .i64 (.var 8) (.lit 1)) (.var 3))
 (.and (.call 1 [.ex (.lit (-1)), .ex (.lit 0)] (.and (.call 0 [.var 7, .ex (.bin .add .i64 (.var 2) (.var 8)), .ex (.var 9)] (.back 0 7 [.var 11, .ex (.bin .add .i64 (.var 8) (.lit 1))])) .ok)) .ok)
 (.and (.call 1 [.ex (.bin .add .i64 (.var 8) (.lit 1)), .ex (.lit 0)] (.and (.call 0 [.var 7, .ex (.bin .add .i64 (.var 2) (.var 8)), .ex (.var 9)] (.back 0 7 [.var 11, .ex (.bin .add .i64 (.var 8) (.lit 1))])) .ok)) .ok))
 (.ret [.var 7]))
def tSFill : Tree := (.br (.cmp .geq (.var 3) (.lit 1))
 (.br (.cmp .leq (.var 3) (.lit 4096))
 (.and (.call 1 [.ex (.lit 0), .ex (.lit 0)] (.and (.call 0 [.var 0, .ex (.var 1), .ex (.var 4)] (.loop 0 7 [.var 6, .ex (.lit 0)] tSFillL0)) .ok)) .ok)
 (.ret [.var 0]))
 (.ret [.var 0]))
theorem rSFill : runCtr { (cxXS Tryz.prog) with hints := hsSFill } 20 cSFill [] [] = tSFill := by kernel_rfl

def hsQSFill : List (Nat × Nat × List Nat) := []
def tQSFillL0 : Tree := (.br (.cmp .lss (.var 6) (.bin .sub .i64 (.var 3) (.lit 1)))
 (.call 0 [.var 5, .ex (.bin .add .i64 (.var 2) (.var 6)), .ex (.conv .u64 (.bin .add .i64 (.var 6) (.lit 2)))] (.back 0 5 [.var 7, .ex (.bin .add .i64 (.var 6) (.lit 1))]))
 (.call 0 [.var 5, .ex (.bin .sub .i64 (.bin .add .i64 (.var 2) (.var 3)) (.lit 1)), .ex (.lit 0)] (.ret [.var 7])))
def tQSFill : Tree := (.br (.cmp .lss (.var 3) (.lit 1))
 (.ret [.var 0])
 (.br (.cmp .gtr (.var 3) (.lit 4096))
 (.ret [.var 0])
 (.call 0 [.var 0, .ex (.var 1), .ex (.lit 1)] (.loop 0 5 [.var 4, .ex (.lit 0)] tQSFillL0))))
theorem rQSFill : runCtr { (cxXQS Tryz.prog) with hints := hsQSFill } 20 cQSFill [] [] = tQSFill := by kernel_rfl

def hsAFill : List (Nat × Nat × List Nat) := []
def tAFillL0 : Tree := (.br (.cmp .lss (.var 10) (.var 3))
 (.call 0 [.var 9, .ex (.bin .add .i64 (.var 4) (.var 10)), .ex (.lit 1)] (.back 0 9 [.var 11, .ex (.bin .add .i64 (.var 10) (.lit 1))]))
 (.ret [.var 9]))
def tAFill : Tree := (.br (.cmp .geq (.var 3) (.lit 1))
 (.br (.cmp .leq (.var 3) (.lit 4096))
 (.call 1 [.var 0, .ex (.var 1), .ex (.var 2), .ex (.var 3)] (.call 0 [.var 7, .ex (.var 5), .ex (.lit 0)] (.loop 0 9 [.var 8, .ex (.lit 0)] tAFillL0)))
 (.ret [.var 0]))
 (.ret [.var 0]))
theorem rAFill : runCtr { (cxXA Tryz.prog) with hints := hsAFill } 20 cAFill [] [] = tAFill := by kernel_rfl

def hsQAFill : List (Nat × Nat × List Nat) := []
def tQAFillL0 : Tree := (.br (.cmp .lss (.var 10) (.var 3))
 (.call 0 [.var 9, .ex (.bin .add .i64 (.var 4) (.var 10)), .ex (.lit 1)] (.back 0 9 [.var 11, .ex (.bin .add .i64 (.var 10) (.lit 1))]))
 (.ret [.var 9]))
def tQAFill : Tree := (.br (.cmp .lss (.var 3) (.lit 1))
 (.ret [.var 0])
 (.br (.cmp .gtr (.var 3) (.lit 4096))
 (.ret [.var 0])
 (.call 1 [.var 0, .ex (.var 1), .ex (.var 2), .ex (.var 3)] (.call 0 [.var 7, .ex (.var 5), .ex (.lit 0)] (.loop 0 9 [.var 8, .ex (.lit 0)] tQAFillL0)))))
theorem rQAFill : runCtr { (cxXQA Tryz.prog) with hints := hsQAFill } 20 cQAFill [] [] = tQAFill := by kernel_rfl

def hsEFill : List (Nat × Nat × List Nat) := []
def tEFillL0 : Tree := (.br (.cmp .lss (.var 7) (.var 3))
 (.call 0 [.var 6, .ex (.bin .add .i64 (.var 2) (.var 7)), .ex (.lit 0)] (.back 0 6 [.var 8, .ex (.bin .add .i64 (.var 7) (.lit 1))]))
 (.ret [.var 6]))
def tEFill : Tree := (.br (.cmp .geq (.var 3) (.lit 1))
 (.br (.cmp .leq (.var 3) (.lit 64))
 (.call 0 [.var 0, .ex (.var 1), .ex (.lit 0)] (.rng (.loop 0 6 [.var 4, .ex (.lit 0)] tEFillL0)))
 (.ret [.var 0]))
 (.ret [.var 0]))
theorem rEFill : runCtr { (cxXE Tryz.prog) with hints := hsEFill } 20 cEFill [] [] = tEFill := by kernel_rfl

def hsQEFill : List (Nat × Nat × List Nat) := []
def tQEFillL0 : Tree := (.br (.cmp .lss (.var 6) (.var 3))
 (.call 0 [.var 5, .ex (.bin .add .i64 (.var 2) (.var 6)), .ex (.lit 0)] (.back 0 5 [.var 7, .ex (.bin .add .i64 (.var 6) (.lit 1))]))
 (.ret [.var 5]))
def tQEFill : Tree := (.br (.cmp .geq (.var 3) (.lit 1))
 (.br (.cmp .leq (.var 3) (.lit 64))
 (.call 0 [.var 0, .ex (.var 1), .ex (.lit 0)] (.loop 0 5 [.var 4, .ex (.lit 0)] tQEFillL0))
 (.ret [.var 0]))
 (.ret [.var 0]))
theorem rQEFill : runCtr { (cxXQE Tryz.prog) with hints := hsQEFill } 20 cQEFill [] [] = tQEFill := by kernel_rfl

def hsLFill : List (Nat × Nat × List Nat) := []
def tLFill : Tree := (.call 1 [.var 0, .ex (.var 1), .ex (.var 2), .ex (.var 3), .ex (.var 4), .ex (.var 5), .ex (.var 6)] (.call 2 [.var 11, .ex (.var 7), .ex (.var 8), .ex (.var 9)] (.call 0 [.var 12, .ex (.bin .add .i64 (.var 10) (.lit 0)), .ex (.lit 0)] (.call 0 [.var 13, .ex (.bin .add .i64 (.var 10) (.lit 1)), .ex (.lit 0)] (.call 0 [.var 14, .ex (.bin .add .i64 (.var 10) (.lit 2)), .ex (.lit 0)] (.ret [.var 15]))))))
theorem rLFill : runCtr { (cxXL Tryz.prog) with hints := hsLFill } 20 cLFill [] [] = tLFill := by kernel_rfl

def hsQLFill : List (Nat × Nat × List Nat) := []
def tQLFill : Tree := (.call 1 [.var 0, .ex (.var 1), .ex (.var 2), .ex (.var 3), .ex (.var 4), .ex (.var 5), .ex (.var 6)] (.call 2 [.var 11, .ex (.var 7), .ex (.var 8), .ex (.var 9)] (.call 0 [.var 12, .ex (.bin .add .i64 (.var 10) (.lit 0)), .ex (.lit 0)] (.call 0 [.var 13, .ex (.bin .add .i64 (.var 10) (.lit 1)), .ex (.lit 0)] (.call 0 [.var 14, .ex (.bin .add .i64 (.var 10) (.lit 2)), .ex (.lit 0)] (.ret [.var 15]))))))
theorem rQLFill : runCtr { (cxXQL Tryz.prog) with hints := hsQLFill } 20 cQLFill [] [] = tQLFill := by kernel_rfl

def hsTFill : List (Nat × Nat × List Nat) := []
def tTFillL0 : Tree := (.br (.cmp .lss (.var 17) (.var 3))
 (.call 0 [.var 16, .ex (.bin .add .i64 (.var 2) (.var 17)), .ex (.lit 0)] (.back 0 16 [.var 18, .ex (.bin .add .i64 (.var 17) (.lit 1))]))
 (.ret [.var 16]))
def tTFill : Tree := (.call 1 [.ex (.var 1), .ex (.var 2), .ex (.var 3), .ex (.var 4), .ex (.var 5), .ex (.var 6), .ex (.var 7), .ex (.var 8), .ex (.var 9), .ex (.var 10), .ex (.var 11), .ex (.var 12), .ex (.var 13)] (.br (.var 14)
 (.call 2 [.var 0, .ex (.var 4), .ex (.var 5), .ex (.var 6), .ex (.var 7), .ex (.var 8), .ex (.var 9), .ex (.var 10), .ex (.var 11), .ex (.var 12), .ex (.var 13)] (.loop 0 16 [.var 15, .ex (.lit 0)] tTFillL0))
 (.ret [.var 0])))
theorem rTFill : runCtr { (cxXT Tryz.prog) with hints := hsTFill } 20 cTFill [] [] = tTFill := by kernel_rfl

def hsQTFill : List (Nat × Nat × List Nat) := []
def tQTFillL0 : Tree := (.br (.cmp .lss (.var 17) (.var 3))
 (.call 0 [.var 16, .ex (.bin .add .i64 (.var 2) (.var 17)), .ex (.lit 0)] (.back 0 16 [.var 18, .ex (.bin .add .i64 (.var 17) (.lit 1))]))
 (.ret [.var 16]))
def tQTFill : Tree := (.call 1 [.ex (.var 1), .ex (.var 2), .ex (.var 3), .ex (.var 4), .ex (.var 5), .ex (.var 6), .ex (.var 7), .ex (.var 8), .ex (.var 9), .ex (.var 10), .ex (.var 11), .ex (.var 12), .ex (.var 13)] (.br (.var 14)
 (.call 2 [.var 0, .ex (.var 4), .ex (.var 5), .ex (.var 6), .ex (.var 7), .ex (.var 8), .ex (.var 9), .ex (.var 10), .ex (.var 11), .ex (.var 12), .ex (.var 13)] (.loop 0 16 [.var 15, .ex (.lit 0)] tQTFillL0))
 (.ret [.var 0])))
theorem rQTFill : runCtr { (cxXQT Tryz.prog) with hints := hsQTFill } 20 cQTFill [] [] = tQTFill := by kernel_rfl

end Go.Proofs.YtbmbiiiacajolaaGreat
/- Memories that are laid: the contracts hold. -/
namespace Go.Proofs.YtbmbiiiacajolaaGreat
set_option linter.unusedVariables false
set_option linter.unusedSimpArgs false
set_option linter.unusedSectionVars false
open Go Go.RowKit

theorem shl_0 {w : Int} (h : isW w) : binDen .shl .u64 w 0 = w := by
  show IntKind.u64.wrap (w * 2 ^ min (0 : Int).toNat 64) = w
  rw [show (2 : Int) ^ min (0 : Int).toNat 64 = 1 by rfl, Int.mul_one, wrap_u64' h.1 h.2]
theorem shl_16 {w : Int} (h : 0 ≤ w) (h' : w < 281474976710656) : binDen .shl .u64 w 16 = w * 65536 := by
  show IntKind.u64.wrap (w * 2 ^ min (16 : Int).toNat 64) = w * 65536
  rw [show (2 : Int) ^ min (16 : Int).toNat 64 = 65536 by rfl, wrap_u64' (by omega) (by omega)]
theorem or_16 {a b : Int} (h0 : 0 ≤ a) (h1 : a < 65536) (h2 : 0 ≤ b) (h3 : b < 281474976710656) : bits .or .u64 a (b * 65536) = a + b * 65536 := by
  rw [show b * 65536 = 2 ^ 16 * b by omega]
  exact or_add 16 a b h0 h1 h2 (by omega) (by omega)
theorem vPutTop (P : Program) (hs : List (Nat × Nat × List Nat)) : ∀ ins, ins.length = cPutTop.nin → cPutTop.pre ins → tPutTop.sat { cx P [] with hints := hs } (ctrR cPutTop) ins := by
  rintro ins _ ⟨i, t, rfl, h1, h2, h3, h4⟩
  have e1 : binDen .add .i64 i 1 = i + 1 := wrap_small (by omega) (by omega)
  have e2 : IntKind.u64.wrap (i + 1) = i + 1 := wrap_u64' (by omega) (by omega)
  have e3 : IntKind.u64.wrap t = t := wrap_u64' (by omega) (by omega)
  have e4 : binDen .or .u64 0 (i + 1) = i + 1 := or_zero' _ (by omega) (by omega)
  have e5 : binDen .or .u64 (i + 1) (t * 65536) = i + 1 + t * 65536 := or_16 (by omega) (by omega) h3 h4
  unfold tPutTop
  repeat' (first
    | (first
      | (with_reducible refine st_need ?_ ?_
         focus (simp only [dn, reduceCtorEq, h1] <;> first | omega | assumption))
      | (with_reducible refine st_and ?_ ?_)
      | (with_reducible exact st_ok)
      | (with_reducible refine st_br (fun hc => ?_) (fun hc => ?_) <;> (simp only [dn, reduceCtorEq, h1] at hc) <;> (try (exfalso; first | contradiction | omega)))
      | (refine st_call (by rfl) (by simp only [dn, reduceCtorEq, h1] <;> rfl) ?_ (by rfl <;> rfl) (by simp only [dn] <;> rfl) ?_
         focus (first | rfl))
      | (with_reducible refine st_ret (by simp only [dn, reduceCtorEq, h1] <;> rfl) ?_
         (first | rfl | exact ⟨_, rfl⟩)))
    | (refine st_ret (a := ([.i (i + 1 + t * 65536), .i 0] : List (EV U))) ?_ ?_
       focus simp only [List.map_cons, List.map_nil, Bnd.den, Ex.den, gI, List.getElem?_cons_zero, List.getElem?_cons_succ, e1, e2, e3, shl_0 (w := i + 1) ⟨by omega, by omega⟩, shl_16 h3 h4, e4, e5]
       rfl))
theorem hPutTop : cPutTop.Holds objs Tryz.prog := runCtr_holds (X := { cx Tryz.prog [] with hints := hsPutTop }) objsOk mixed noCts (callable _ Tryz.func162 (by kernel_rfl) (by kernel_rfl)) (by rintro ins _ ⟨_, _, rfl, _⟩; rfl) (by rw [rPutTop]; exact vPutTop _ _)
theorem out_putTop (i t : Int) : cPutTop.out [.i i, .i t] = [.i (i + 1 + t * 65536), .i 0] := rfl
section
variable {k : Tree} {env : List (EV U)} {X : Cx U} {R : List (EV U) → List (EV U) → Prop}
theorem st_rngX (hk : ∀ (L : Loop) (env' : List (EV U)), env ++ [.r L] = env' → k.sat X R env') : (Tree.rng k).sat X R env := fun L => hk L _ rfl
end
theorem out_SFill (M : MemSt) (a b n : Int) : cSFill.out [.u (.mem M), .i a, .i b, .i n] = [.u (.mem (fill10 M a b n))] := rfl
theorem out_QSFill (M : MemSt) (a b n : Int) : cQSFill.out [.u (.rmem M), .i a, .i b, .i n] = [.u (.rmem (fill10 M a b n))] := rfl
theorem out_AFill (M : MemSt) (t l s g w m : Int) : cAFill.out [.u (.mem M), .i t, .i l, .i s, .i g, .i w, .i m] = [.u (.mem (fill11 M t l s g w))] := rfl
theorem out_QAFill (M : MemSt) (t l s g w m : Int) : cQAFill.out [.u (.rmem M), .i t, .i l, .i s, .i g, .i w, .i m] = [.u (.rmem (fill11 M t l s g w))] := rfl
theorem out_EFill (M : MemSt) (a b n : Int) : cEFill.out [.u (.mem M), .i a, .i b, .i n] = [.u (.mem (fill12 M a b n))] := rfl
theorem out_QEFill (M : MemSt) (a b n : Int) : cQEFill.out [.u (.rmem M), .i a, .i b, .i n] = [.u (.rmem (fill12 M a b n))] := rfl
theorem out_LFill (M : MemSt) (t l s g w m ea ep ec tp : Int) : cLFill.out [.u (.mem M), .i t, .i l, .i s, .i g, .i w, .i m, .i ea, .i ep, .i ec, .i tp] = [.u (.mem (fill13 M t l s g w ea ep ec tp))] := rfl
theorem out_QLFill (M : MemSt) (t l s g w m ea ep ec tp : Int) : cQLFill.out [.u (.rmem M), .i t, .i l, .i s, .i g, .i w, .i m, .i ea, .i ep, .i ec, .i tp] = [.u (.rmem (fill13 M t l s g w ea ep ec tp))] := rfl
theorem out_TFill (M : MemSt) (n h a t l s g w m ea ep ec tp : Int) : cTFill.out [.u (.mem M), .i n, .i h, .i a, .i t, .i l, .i s, .i g, .i w, .i m, .i ea, .i ep, .i ec, .i tp] = [.u (.mem (fill15 M n h a t l s g w ea ep ec tp))] := rfl
theorem out_QTFill (M : MemSt) (n h a t l s g w m ea ep ec tp : Int) : cQTFill.out [.u (.rmem M), .i n, .i h, .i a, .i t, .i l, .i s, .i g, .i w, .i m, .i ea, .i ep, .i ec, .i tp] = [.u (.rmem (fill15 M n h a t l s g w ea ep ec tp))] := rfl
set_option maxHeartbeats 2000000 in
theorem vSFill (P : Program) (hs : List (Nat × Nat × List Nat)) : ∀ ins, ins.length = cSFill.nin → cSFill.pre ins → tSFill.sat { cxXS P with hints := hs } (ctrR cSFill) ins := by
  have hb : ∀ env, sfInv env → tSFillL0.sat { cxXS P with hints := hs } (ctrR cSFill) env := by
    rintro env ⟨M, a, b, n, x0, x1, x2, i, rfl, h1, hM, h2, h3, h4⟩
    have e0 : IntKind.i64.wrap (i + 1) = i + 1 := wrap_small (by omega) (by omega)
    unfold tSFillL0
    repeat' (first
      | (first
        | (with_reducible refine st_need ?_ ?_
           focus (simp only [dn, reduceCtorEq, e0] <;> first | omega | assumption))
        | (with_reducible refine st_and ?_ ?_)
        | (with_reducible exact st_ok)
        | (with_reducible refine st_br (fun hc => ?_) (fun hc => ?_) <;> (simp only [dn, reduceCtorEq, e0] at hc) <;> (try (exfalso; first | contradiction | omega)))
        | (refine st_call (by rfl) (by simp only [dn, reduceCtorEq, e0] <;> rfl) ?_ (by simp only [out_store, out_putTop] <;> rfl) (by simp only [dn] <;> rfl) ?_
           focus (first | exact ⟨_, _, _, rfl⟩ | exact ⟨_, _, _, _, rfl, by first | exact hM | (simp only [len_store, len_fillK, len_fillR, len_fill10, len_fill11, len_fill12, len_fill13]; exact hM)⟩ | exact ⟨_, _, _, _, _, _, _, rfl, by first | exact hM | (simp only [len_store, len_fillK, len_fillR, len_fill10, len_fill11, len_fill12, len_fill13]; exact hM)⟩ | exact ⟨_, _, _, _, _, _, _, _, _, _, _, rfl, by first | exact hM | (simp only [len_store, len_fillK, len_fillR, len_fill10, len_fill11, len_fill12, len_fill13]; exact hM)⟩ | exact ⟨_, _, _, _, _, _, _, _, _, _, _, _, _, rfl⟩ | exact ⟨_, _, rfl, by decide, by decide, by decide, by decide⟩ | exact ⟨_, _, rfl, by omega, by omega, by decide, by decide⟩)))
      | (refine st_back (by rfl) (by simp only [dn, reduceCtorEq, e0] <;> rfl) (by simp only [dn] <;> rfl) (by rfl) ?_ ?_
         focus (refine ⟨M, a, b, n, x0, x1, x2, i + 1, ?_, by omega, hM, by omega, h3, h4⟩
                rw [fillK_succ _ _ _ _ h1]
                first
                  | (rw [if_pos (by omega)]; try rfl)
                  | (rw [if_neg (by omega), show i + 1 + 1 + 0 * 65536 = i + 2 by omega]; try rfl))
         focus (show (n - (i + 1)).toNat < (n - i).toNat; omega))
      | (refine st_ret (by simp only [dn, reduceCtorEq, e0] <;> rfl) ?_
         have hi : i = n := by omega
         subst hi
         show _ = [EV.u (U.mem (fill10 M a b i))]
         rw [fill10, if_pos ⟨h3, h4⟩])
      | fail "no step")
  rintro ins _ ⟨M, a, b, n, rfl, hM⟩
  unfold tSFill
  repeat' (first
    | (first
      | (with_reducible refine st_need ?_ ?_
         focus (simp only [dn, reduceCtorEq, hb] <;> first | omega | assumption))
      | (with_reducible refine st_and ?_ ?_)
      | (with_reducible exact st_ok)
      | (with_reducible refine st_br (fun hc => ?_) (fun hc => ?_) <;> (simp only [dn, reduceCtorEq, hb] at hc) <;> (try (exfalso; first | contradiction | omega)))
      | (refine st_call (by rfl) (by simp only [dn, reduceCtorEq, hb] <;> rfl) ?_ (by simp only [out_store, out_putTop] <;> rfl) (by simp only [dn] <;> rfl) ?_
         focus (first | exact ⟨_, _, _, rfl⟩ | exact ⟨_, _, _, _, rfl, by first | exact hM | (simp only [len_store, len_fillK, len_fillR, len_fill10, len_fill11, len_fill12, len_fill13]; exact hM)⟩ | exact ⟨_, _, _, _, _, _, _, rfl, by first | exact hM | (simp only [len_store, len_fillK, len_fillR, len_fill10, len_fill11, len_fill12, len_fill13]; exact hM)⟩ | exact ⟨_, _, _, _, _, _, _, _, _, _, _, rfl, by first | exact hM | (simp only [len_store, len_fillK, len_fillR, len_fill10, len_fill11, len_fill12, len_fill13]; exact hM)⟩ | exact ⟨_, _, _, _, _, _, _, _, _, _, _, _, _, rfl⟩ | exact ⟨_, _, rfl, by decide, by decide, by decide, by decide⟩ | exact ⟨_, _, rfl, by omega, by omega, by decide, by decide⟩)))
    | (refine st_loop (by rfl) (by simp only [dn, reduceCtorEq, hb] <;> rfl) (by simp only [dn] <;> rfl) ?_ (fun env' h => hb env' h)
       exact ⟨_, _, _, _, _, _, _, 0, rfl, by omega, hM, by omega, by omega, by omega⟩)
    | (refine st_ret (by simp only [dn, reduceCtorEq, hb] <;> rfl) ?_
       show _ = [EV.u (U.mem (fill10 M a b n))]
       rw [fill10, if_neg (by omega)])
    | fail "no step")
theorem hctsXS : ∀ (ci : Nat) (c : Ctr U), ctsXS[ci]? = some c → c.Holds objs Tryz.prog := by
  intro ci c h
  match ci, h with
  | 0, h => cases h; exact hStore
  | 1, h => cases h; exact hPutTop
  | n + 2, h => cases h
theorem hSFill : cSFill.Holds objs Tryz.prog := runCtr_holds (X := { cxXS Tryz.prog with hints := hsSFill }) objsOk mixed hctsXS (callable _ Tryz.func149 (by kernel_rfl) (by kernel_rfl)) (by rintro ins _ ⟨_, _, _, _, rfl, _⟩; rfl) (by rw [rSFill]; exact vSFill _ _)
set_option maxHeartbeats 2000000 in
theorem vQSFill (P : Program) (hs : List (Nat × Nat × List Nat)) : ∀ ins, ins.length = cQSFill.nin → cQSFill.pre ins → tQSFill.sat { cxXQS P with hints := hs } (ctrR cQSFill) ins := by
  have hb : ∀ env, qsfInv env → tQSFillL0.sat { cxXQS P with hints := hs } (ctrR cQSFill) env := by
    rintro env ⟨M, a, b, n, x0, i, rfl, h1, hM, h2, h4⟩
    have e0 : IntKind.i64.wrap (i + 1) = i + 1 := wrap_small (by omega) (by omega)
    have e1 : IntKind.i64.wrap (i + 2) = i + 2 := wrap_small (by omega) (by omega)
    have e2 : IntKind.u64.wrap (i + 2) = i + 2 := wrap_u64' (by omega) (by omega)
    have e3 : IntKind.i64.wrap (n - 1) = n - 1 := wrap_small (by omega) (by omega)
    have e4 : IntKind.i64.wrap (IntKind.i64.wrap (b + n) - 1) = IntKind.i64.wrap (b + (n - 1)) := by simp only [IntKind.wrap_i64]; omega
    unfold tQSFillL0
    repeat' (first
      | (first
        | (with_reducible refine st_need ?_ ?_
           focus (simp only [dn, reduceCtorEq, e0, e1, e2, e3, e4] <;> first | omega | assumption))
        | (with_reducible refine st_and ?_ ?_)
        | (with_reducible exact st_ok)
        | (with_reducible refine st_br (fun hc => ?_) (fun hc => ?_) <;> (simp only [dn, reduceCtorEq, e0, e1, e2, e3, e4] at hc) <;> (try (exfalso; first | contradiction | omega)))
        | (refine st_call (by rfl) (by simp only [dn, reduceCtorEq, e0, e1, e2, e3, e4] <;> rfl) ?_ (by simp only [fo_store] <;> rfl) (by simp only [dn] <;> rfl) ?_
           focus (first | exact ⟨_, _, _, rfl, by first | exact hM | (simp only [len_store, len_fillK, len_fillR, len_fill10, len_fill11, len_fill12, len_fill13]; exact hM)⟩ | exact ⟨_, _, _, _, rfl, by first | exact hM | (simp only [len_store, len_fillK, len_fillR, len_fill10, len_fill11, len_fill12, len_fill13]; exact hM)⟩ | exact ⟨_, _, _, _, _, _, _, rfl, by first | exact hM | (simp only [len_store, len_fillK, len_fillR, len_fill10, len_fill11, len_fill12, len_fill13]; exact hM)⟩ | exact ⟨_, _, _, _, _, _, _, _, _, _, _, rfl, by first | exact hM | (simp only [len_store, len_fillK, len_fillR, len_fill10, len_fill11, len_fill12, len_fill13]; exact hM)⟩ | exact ⟨_, _, _, _, _, _, _, _, _, _, _, _, _, rfl⟩)))
      | (refine st_back (by rfl) (by simp only [dn, reduceCtorEq, e0, e1, e2, e3] <;> rfl) (by simp only [dn] <;> rfl) (by rfl) ?_ ?_
         focus (refine ⟨M, a, b, n, x0, i + 1, ?_, by omega, hM, by omega, h4⟩
                rw [fillK_succ _ _ _ _ h1, if_neg (by omega)]; rfl)
         focus (show (n - (i + 1)).toNat < (n - i).toNat; omega))
      | (refine st_ret (by simp only [dn, reduceCtorEq, e0] <;> rfl) ?_
         have hi : n = i + 1 := by omega
         subst hi
         show _ = [EV.u (U.rmem (fill10 M a b (i + 1)))]
         rw [fill10, if_pos ⟨by omega, h4⟩, fillK_succ _ _ _ _ h1, if_pos rfl, show i + 1 - 1 = i by omega])
      | fail "no step")
  rintro ins _ ⟨M, a, b, n, rfl, hM⟩
  unfold tQSFill
  repeat' (first
    | (first
      | (with_reducible refine st_need ?_ ?_
         focus (simp only [dn, reduceCtorEq, hb] <;> first | omega | assumption))
      | (with_reducible refine st_and ?_ ?_)
      | (with_reducible exact st_ok)
      | (with_reducible refine st_br (fun hc => ?_) (fun hc => ?_) <;> (simp only [dn, reduceCtorEq, hb] at hc) <;> (try (exfalso; first | contradiction | omega)))
      | (refine st_call (by rfl) (by simp only [dn, reduceCtorEq, hb] <;> rfl) ?_ (by simp only [fo_store] <;> rfl) (by simp only [dn] <;> rfl) ?_
         focus (first | exact ⟨_, _, _, rfl, by first | exact hM | (simp only [len_store, len_fillK, len_fillR, len_fill10, len_fill11, len_fill12, len_fill13]; exact hM)⟩ | exact ⟨_, _, _, _, rfl, by first | exact hM | (simp only [len_store, len_fillK, len_fillR, len_fill10, len_fill11, len_fill12, len_fill13]; exact hM)⟩ | exact ⟨_, _, _, _, _, _, _, rfl, by first | exact hM | (simp only [len_store, len_fillK, len_fillR, len_fill10, len_fill11, len_fill12, len_fill13]; exact hM)⟩ | exact ⟨_, _, _, _, _, _, _, _, _, _, _, rfl, by first | exact hM | (simp only [len_store, len_fillK, len_fillR, len_fill10, len_fill11, len_fill12, len_fill13]; exact hM)⟩ | exact ⟨_, _, _, _, _, _, _, _, _, _, _, _, _, rfl⟩)))
    | (refine st_loop (by rfl) (by simp only [dn, reduceCtorEq, hb] <;> rfl) (by simp only [dn] <;> rfl) ?_ (fun env' h => hb env' h)
       exact ⟨_, _, _, _, _, 0, rfl, by omega, hM, by omega, by omega⟩)
    | (refine st_ret (by simp only [dn, reduceCtorEq, hb] <;> rfl) ?_
       show _ = [EV.u (U.rmem (fill10 M a b n))]
       rw [fill10, if_neg (by omega)])
    | fail "no step")
theorem hctsXQS : ∀ (ci : Nat) (c : Ctr U), ctsXQS[ci]? = some c → c.Holds objs Tryz.prog := by
  intro ci c h
  match ci, h with
  | 0, h => cases h; exact hQStore
  | n + 1, h => cases h
theorem hQSFill : cQSFill.Holds objs Tryz.prog := runCtr_holds (X := { cxXQS Tryz.prog with hints := hsQSFill }) objsOk mixed hctsXQS (callable _ Tryz.func151 (by kernel_rfl) (by kernel_rfl)) (by rintro ins _ ⟨_, _, _, _, rfl, _⟩; rfl) (by rw [rQSFill]; exact vQSFill _ _)
set_option maxHeartbeats 2000000 in
theorem bAFill (P : Program) (hs : List (Nat × Nat × List Nat)) : ∀ env, afInv env → tAFillL0.sat { cxXA P with hints := hs } (ctrR cAFill) env := by
  rintro env ⟨M, t, l, s, g, w, m, x0, x1, i, rfl, h1, hM, h3, h4, h5⟩
  have e0 : IntKind.i64.wrap (i + 1) = i + 1 := wrap_small (by omega) (by omega)
  by_cases hi : i < s
  all_goals
    unfold tAFillL0
    repeat' (first
      | (first
        | (with_reducible refine st_need ?_ ?_
           focus (simp only [dn, reduceCtorEq, e0] <;> first | omega | assumption))
        | (with_reducible refine st_and ?_ ?_)
        | (with_reducible exact st_ok)
        | (with_reducible refine st_br (fun hc => ?_) (fun hc => ?_) <;> (simp only [dn, reduceCtorEq, e0] at hc) <;> (try (exfalso; first | contradiction | omega)))
        | (refine st_call (by rfl) (by simp only [dn, reduceCtorEq, e0] <;> rfl) ?_ (by simp only [out_store, out_SFill] <;> rfl) (by simp only [dn] <;> rfl) ?_
           focus (first | exact ⟨_, _, _, rfl⟩ | exact ⟨_, _, _, _, rfl, by first | exact hM | (simp only [len_store, len_fillK, len_fillR, len_fill10, len_fill11, len_fill12, len_fill13]; exact hM)⟩ | exact ⟨_, _, _, _, _, _, _, rfl, by first | exact hM | (simp only [len_store, len_fillK, len_fillR, len_fill10, len_fill11, len_fill12, len_fill13]; exact hM)⟩ | exact ⟨_, _, _, _, _, _, _, _, _, _, _, rfl, by first | exact hM | (simp only [len_store, len_fillK, len_fillR, len_fill10, len_fill11, len_fill12, len_fill13]; exact hM)⟩ | exact ⟨_, _, _, _, _, _, _, _, _, _, _, _, _, rfl⟩)))
      | (refine st_back (by rfl) (by simp only [dn, reduceCtorEq, e0] <;> rfl) (by simp only [dn] <;> rfl) (by rfl) ?_ ?_
         focus exact ⟨M, t, l, s, g, w, m, x0, x1, i + 1, by rw [fillR_succ _ _ _ h1]; rfl, by omega, hM, by omega, h4, h5⟩
         focus (show (s - (i + 1)).toNat < (s - i).toNat; omega))
      | (refine st_ret (by simp only [dn, reduceCtorEq, e0] <;> rfl) ?_
         focus (obtain rfl : i = s := by omega
                show _ = [EV.u (U.mem (fill11 M t l i g w))]
                rw [fill11, if_pos ⟨h4, h5⟩]))
      | fail "no step")
set_option maxHeartbeats 2000000 in
theorem vAFill (P : Program) (hs : List (Nat × Nat × List Nat)) : ∀ ins, ins.length = cAFill.nin → cAFill.pre ins → tAFill.sat { cxXA P with hints := hs } (ctrR cAFill) ins := by
  rintro ins _ ⟨M, t, l, s, g, w, m, rfl, hM⟩
  unfold tAFill
  repeat' (first
    | (first
      | (with_reducible refine st_need ?_ ?_
         focus (simp only [dn, reduceCtorEq, hM] <;> first | omega | assumption))
      | (with_reducible refine st_and ?_ ?_)
      | (with_reducible exact st_ok)
      | (with_reducible refine st_br (fun hc => ?_) (fun hc => ?_) <;> (simp only [dn, reduceCtorEq, hM] at hc) <;> (try (exfalso; first | contradiction | omega)))
      | (refine st_call (by rfl) (by simp only [dn, reduceCtorEq, hM] <;> rfl) ?_ (by simp only [out_store, out_SFill] <;> rfl) (by simp only [dn] <;> rfl) ?_
         focus (first | exact ⟨_, _, _, rfl⟩ | exact ⟨_, _, _, _, rfl, by first | exact hM | (simp only [len_store, len_fillK, len_fillR, len_fill10, len_fill11, len_fill12, len_fill13]; exact hM)⟩ | exact ⟨_, _, _, _, _, _, _, rfl, by first | exact hM | (simp only [len_store, len_fillK, len_fillR, len_fill10, len_fill11, len_fill12, len_fill13]; exact hM)⟩ | exact ⟨_, _, _, _, _, _, _, _, _, _, _, rfl, by first | exact hM | (simp only [len_store, len_fillK, len_fillR, len_fill10, len_fill11, len_fill12, len_fill13]; exact hM)⟩ | exact ⟨_, _, _, _, _, _, _, _, _, _, _, _, _, rfl⟩)))
    | (refine st_loop (by rfl) (by simp only [dn, reduceCtorEq, hM] <;> rfl) (by simp only [dn] <;> rfl) ?_ (fun env' h => bAFill P hs env' h)
       exact ⟨M, t, l, s, g, w, m, _, _, 0, rfl, by omega, hM, by omega, by omega, by omega⟩)
    | (refine st_ret (by simp only [dn, reduceCtorEq, hM] <;> rfl) ?_
       focus (show _ = [EV.u (U.mem (fill11 M t l s g w))]
              rw [fill11, if_neg (by omega)]))
    | fail "no step")
theorem hctsXA : ∀ (ci : Nat) (c : Ctr U), ctsXA[ci]? = some c → c.Holds objs Tryz.prog := by
  intro ci c h
  match ci, h with
  | 0, h => cases h; exact hStore
  | 1, h => cases h; exact hSFill
  | n + 2, h => cases h
theorem hAFill : cAFill.Holds objs Tryz.prog := runCtr_holds (X := { cxXA Tryz.prog with hints := hsAFill }) objsOk mixed hctsXA (callable _ Tryz.func131 (by kernel_rfl) (by kernel_rfl)) (by rintro ins _ ⟨_, _, _, _, _, _, _, rfl, _⟩; rfl) (by rw [rAFill]; exact vAFill _ _)
set_option maxHeartbeats 2000000 in
theorem bQAFill (P : Program) (hs : List (Nat × Nat × List Nat)) : ∀ env, qafInv env → tQAFillL0.sat { cxXQA P with hints := hs } (ctrR cQAFill) env := by
  rintro env ⟨M, t, l, s, g, w, m, x0, x1, i, rfl, h1, hM, h3, h4, h5⟩
  have e0 : IntKind.i64.wrap (i + 1) = i + 1 := wrap_small (by omega) (by omega)
  by_cases hi : i < s
  all_goals
    unfold tQAFillL0
    repeat' (first
      | (first
        | (with_reducible refine st_need ?_ ?_
           focus (simp only [dn, reduceCtorEq, e0] <;> first | omega | assumption))
        | (with_reducible refine st_and ?_ ?_)
        | (with_reducible exact st_ok)
        | (with_reducible refine st_br (fun hc => ?_) (fun hc => ?_) <;> (simp only [dn, reduceCtorEq, e0] at hc) <;> (try (exfalso; first | contradiction | omega)))
        | (refine st_call (by rfl) (by simp only [dn, reduceCtorEq, e0] <;> rfl) ?_ (by simp only [fo_store, out_QSFill] <;> rfl) (by simp only [dn] <;> rfl) ?_
           focus (first | exact ⟨_, _, _, rfl, by first | exact hM | (simp only [len_store, len_fillK, len_fillR, len_fill10, len_fill11, len_fill12, len_fill13]; exact hM)⟩ | exact ⟨_, _, _, _, rfl, by first | exact hM | (simp only [len_store, len_fillK, len_fillR, len_fill10, len_fill11, len_fill12, len_fill13]; exact hM)⟩ | exact ⟨_, _, _, _, _, _, _, rfl, by first | exact hM | (simp only [len_store, len_fillK, len_fillR, len_fill10, len_fill11, len_fill12, len_fill13]; exact hM)⟩ | exact ⟨_, _, _, _, _, _, _, _, _, _, _, rfl, by first | exact hM | (simp only [len_store, len_fillK, len_fillR, len_fill10, len_fill11, len_fill12, len_fill13]; exact hM)⟩ | exact ⟨_, _, _, _, _, _, _, _, _, _, _, _, _, rfl⟩)))
      | (refine st_back (by rfl) (by simp only [dn, reduceCtorEq, e0] <;> rfl) (by simp only [dn] <;> rfl) (by rfl) ?_ ?_
         focus exact ⟨M, t, l, s, g, w, m, x0, x1, i + 1, by rw [fillR_succ _ _ _ h1]; rfl, by omega, hM, by omega, h4, h5⟩
         focus (show (s - (i + 1)).toNat < (s - i).toNat; omega))
      | (refine st_ret (by simp only [dn, reduceCtorEq, e0] <;> rfl) ?_
         focus (obtain rfl : i = s := by omega
                show _ = [EV.u (U.rmem (fill11 M t l i g w))]
                rw [fill11, if_pos ⟨h4, h5⟩]))
      | fail "no step")
set_option maxHeartbeats 2000000 in
theorem vQAFill (P : Program) (hs : List (Nat × Nat × List Nat)) : ∀ ins, ins.length = cQAFill.nin → cQAFill.pre ins → tQAFill.sat { cxXQA P with hints := hs } (ctrR cQAFill) ins := by
  rintro ins _ ⟨M, t, l, s, g, w, m, rfl, hM⟩
  unfold tQAFill
  repeat' (first
    | (first
      | (with_reducible refine st_need ?_ ?_
         focus (simp only [dn, reduceCtorEq, hM] <;> first | omega | assumption))
      | (with_reducible refine st_and ?_ ?_)
      | (with_reducible exact st_ok)
      | (with_reducible refine st_br (fun hc => ?_) (fun hc => ?_) <;> (simp only [dn, reduceCtorEq, hM] at hc) <;> (try (exfalso; first | contradiction | omega)))
      | (refine st_call (by rfl) (by simp only [dn, reduceCtorEq, hM] <;> rfl) ?_ (by simp only [fo_store, out_QSFill] <;> rfl) (by simp only [dn] <;> rfl) ?_
         focus (first | exact ⟨_, _, _, rfl, by first | exact hM | (simp only [len_store, len_fillK, len_fillR, len_fill10, len_fill11, len_fill12, len_fill13]; exact hM)⟩ | exact ⟨_, _, _, _, rfl, by first | exact hM | (simp only [len_store, len_fillK, len_fillR, len_fill10, len_fill11, len_fill12, len_fill13]; exact hM)⟩ | exact ⟨_, _, _, _, _, _, _, rfl, by first | exact hM | (simp only [len_store, len_fillK, len_fillR, len_fill10, len_fill11, len_fill12, len_fill13]; exact hM)⟩ | exact ⟨_, _, _, _, _, _, _, _, _, _, _, rfl, by first | exact hM | (simp only [len_store, len_fillK, len_fillR, len_fill10, len_fill11, len_fill12, len_fill13]; exact hM)⟩ | exact ⟨_, _, _, _, _, _, _, _, _, _, _, _, _, rfl⟩)))
    | (refine st_loop (by rfl) (by simp only [dn, reduceCtorEq, hM] <;> rfl) (by simp only [dn] <;> rfl) ?_ (fun env' h => bQAFill P hs env' h)
       exact ⟨M, t, l, s, g, w, m, _, _, 0, rfl, by omega, hM, by omega, by omega, by omega⟩)
    | (refine st_ret (by simp only [dn, reduceCtorEq, hM] <;> rfl) ?_
       focus (show _ = [EV.u (U.rmem (fill11 M t l s g w))]
              rw [fill11, if_neg (by omega)]))
    | fail "no step")
theorem hctsXQA : ∀ (ci : Nat) (c : Ctr U), ctsXQA[ci]? = some c → c.Holds objs Tryz.prog := by
  intro ci c h
  match ci, h with
  | 0, h => cases h; exact hQStore
  | 1, h => cases h; exact hQSFill
  | n + 2, h => cases h
theorem hQAFill : cQAFill.Holds objs Tryz.prog := runCtr_holds (X := { cxXQA Tryz.prog with hints := hsQAFill }) objsOk mixed hctsXQA (callable _ Tryz.func134 (by kernel_rfl) (by kernel_rfl)) (by rintro ins _ ⟨_, _, _, _, _, _, _, rfl, _⟩; rfl) (by rw [rQAFill]; exact vQAFill _ _)
set_option maxHeartbeats 2000000 in
theorem bEFill (P : Program) (hs : List (Nat × Nat × List Nat)) : ∀ env, efInv env → tEFillL0.sat { cxXE P with hints := hs } (ctrR cEFill) env := by
  rintro env ⟨M, a, b, n, x0, x1, i, rfl, h1, hM, h3, h4, h5⟩
  have e0 : IntKind.i64.wrap (i + 1) = i + 1 := wrap_small (by omega) (by omega)
  by_cases hi : i < n
  all_goals
    unfold tEFillL0
    repeat' (first
      | (first
        | (with_reducible refine st_need ?_ ?_
           focus (simp only [dn, reduceCtorEq, e0] <;> first | omega | assumption))
        | (with_reducible refine st_and ?_ ?_)
        | (with_reducible exact st_ok)
        | (with_reducible refine st_br (fun hc => ?_) (fun hc => ?_) <;> (simp only [dn, reduceCtorEq, e0] at hc) <;> (try (exfalso; first | contradiction | omega)))
        | (refine st_call (by rfl) (by simp only [dn, reduceCtorEq, e0] <;> rfl) ?_ (by simp only [out_store] <;> rfl) (by simp only [dn] <;> rfl) ?_
           focus (first | exact ⟨_, _, _, rfl⟩ | exact ⟨_, _, _, _, rfl, by first | exact hM | (simp only [len_store, len_fillK, len_fillR, len_fill10, len_fill11, len_fill12, len_fill13]; exact hM)⟩ | exact ⟨_, _, _, _, _, _, _, rfl, by first | exact hM | (simp only [len_store, len_fillK, len_fillR, len_fill10, len_fill11, len_fill12, len_fill13]; exact hM)⟩ | exact ⟨_, _, _, _, _, _, _, _, _, _, _, rfl, by first | exact hM | (simp only [len_store, len_fillK, len_fillR, len_fill10, len_fill11, len_fill12, len_fill13]; exact hM)⟩ | exact ⟨_, _, _, _, _, _, _, _, _, _, _, _, _, rfl⟩)))
      | (refine st_back (by rfl) (by simp only [dn, reduceCtorEq, e0] <;> rfl) (by simp only [dn] <;> rfl) (by rfl) ?_ ?_
         focus exact ⟨M, a, b, n, x0, x1, i + 1, by rw [fillR_succ _ _ _ h1]; rfl, by omega, hM, by omega, h4, h5⟩
         focus (show (n - (i + 1)).toNat < (n - i).toNat; omega))
      | (refine st_ret (by simp only [dn, reduceCtorEq, e0] <;> rfl) ?_
         focus (obtain rfl : i = n := by omega
                show _ = [EV.u (U.mem (fill12 M a b i))]
                rw [fill12, if_pos ⟨h4, h5⟩]))
      | fail "no step")
set_option maxHeartbeats 2000000 in
theorem vEFill (P : Program) (hs : List (Nat × Nat × List Nat)) : ∀ ins, ins.length = cEFill.nin → cEFill.pre ins → tEFill.sat { cxXE P with hints := hs } (ctrR cEFill) ins := by
  rintro ins _ ⟨M, a, b, n, rfl, hM⟩
  unfold tEFill
  repeat' (first
    | (first
      | (with_reducible refine st_need ?_ ?_
         focus (simp only [dn, reduceCtorEq, hM] <;> first | omega | assumption))
      | (with_reducible refine st_and ?_ ?_)
      | (with_reducible exact st_ok)
      | (with_reducible refine st_br (fun hc => ?_) (fun hc => ?_) <;> (simp only [dn, reduceCtorEq, hM] at hc) <;> (try (exfalso; first | contradiction | omega)))
      | (refine st_call (by rfl) (by simp only [dn, reduceCtorEq, hM] <;> rfl) ?_ (by simp only [out_store] <;> rfl) (by simp only [dn] <;> rfl) ?_
         focus (first | exact ⟨_, _, _, rfl⟩ | exact ⟨_, _, _, _, rfl, by first | exact hM | (simp only [len_store, len_fillK, len_fillR, len_fill10, len_fill11, len_fill12, len_fill13]; exact hM)⟩ | exact ⟨_, _, _, _, _, _, _, rfl, by first | exact hM | (simp only [len_store, len_fillK, len_fillR, len_fill10, len_fill11, len_fill12, len_fill13]; exact hM)⟩ | exact ⟨_, _, _, _, _, _, _, _, _, _, _, rfl, by first | exact hM | (simp only [len_store, len_fillK, len_fillR, len_fill10, len_fill11, len_fill12, len_fill13]; exact hM)⟩ | exact ⟨_, _, _, _, _, _, _, _, _, _, _, _, _, rfl⟩)))
    | (refine st_rngX (fun LL env' he => ?_)
       simp only [List.cons_append, List.nil_append] at he
       subst he)
    | (refine st_loop (by rfl) (by simp only [dn, reduceCtorEq, hM] <;> rfl) (by simp only [dn] <;> rfl) ?_ (fun env' h => bEFill P hs env' h)
       exact ⟨M, a, b, n, _, _, 0, rfl, by omega, hM, by omega, by omega, by omega⟩)
    | (refine st_ret (by simp only [dn, reduceCtorEq, hM] <;> rfl) ?_
       focus (show _ = [EV.u (U.mem (fill12 M a b n))]
              rw [fill12, if_neg (by omega)]))
    | fail "no step")
theorem hctsXE : ∀ (ci : Nat) (c : Ctr U), ctsXE[ci]? = some c → c.Holds objs Tryz.prog := by
  intro ci c h
  match ci, h with
  | 0, h => cases h; exact hStore
  | n + 1, h => cases h
theorem hEFill : cEFill.Holds objs Tryz.prog := runCtr_holds (X := { cxXE Tryz.prog with hints := hsEFill }) objsOk mixed hctsXE (callable _ Tryz.func132 (by kernel_rfl) (by kernel_rfl)) (by rintro ins _ ⟨_, _, _, _, rfl, _⟩; rfl) (by rw [rEFill]; exact vEFill _ _)
set_option maxHeartbeats 2000000 in
theorem bQEFill (P : Program) (hs : List (Nat × Nat × List Nat)) : ∀ env, qefInv env → tQEFillL0.sat { cxXQE P with hints := hs } (ctrR cQEFill) env := by
  rintro env ⟨M, a, b, n, x0, i, rfl, h1, hM, h3, h4, h5⟩
  have e0 : IntKind.i64.wrap (i + 1) = i + 1 := wrap_small (by omega) (by omega)
  by_cases hi : i < n
  all_goals
    unfold tQEFillL0
    repeat' (first
      | (first
        | (with_reducible refine st_need ?_ ?_
           focus (simp only [dn, reduceCtorEq, e0] <;> first | omega | assumption))
        | (with_reducible refine st_and ?_ ?_)
        | (with_reducible exact st_ok)
        | (with_reducible refine st_br (fun hc => ?_) (fun hc => ?_) <;> (simp only [dn, reduceCtorEq, e0] at hc) <;> (try (exfalso; first | contradiction | omega)))
        | (refine st_call (by rfl) (by simp only [dn, reduceCtorEq, e0] <;> rfl) ?_ (by simp only [fo_store] <;> rfl) (by simp only [dn] <;> rfl) ?_
           focus (first | exact ⟨_, _, _, rfl, by first | exact hM | (simp only [len_store, len_fillK, len_fillR, len_fill10, len_fill11, len_fill12, len_fill13]; exact hM)⟩ | exact ⟨_, _, _, _, rfl, by first | exact hM | (simp only [len_store, len_fillK, len_fillR, len_fill10, len_fill11, len_fill12, len_fill13]; exact hM)⟩ | exact ⟨_, _, _, _, _, _, _, rfl, by first | exact hM | (simp only [len_store, len_fillK, len_fillR, len_fill10, len_fill11, len_fill12, len_fill13]; exact hM)⟩ | exact ⟨_, _, _, _, _, _, _, _, _, _, _, rfl, by first | exact hM | (simp only [len_store, len_fillK, len_fillR, len_fill10, len_fill11, len_fill12, len_fill13]; exact hM)⟩ | exact ⟨_, _, _, _, _, _, _, _, _, _, _, _, _, rfl⟩)))
      | (refine st_back (by rfl) (by simp only [dn, reduceCtorEq, e0] <;> rfl) (by simp only [dn] <;> rfl) (by rfl) ?_ ?_
         focus exact ⟨M, a, b, n, x0, i + 1, by rw [fillR_succ _ _ _ h1]; rfl, by omega, hM, by omega, h4, h5⟩
         focus (show (n - (i + 1)).toNat < (n - i).toNat; omega))
      | (refine st_ret (by simp only [dn, reduceCtorEq, e0] <;> rfl) ?_
         focus (obtain rfl : i = n := by omega
                show _ = [EV.u (U.rmem (fill12 M a b i))]
                rw [fill12, if_pos ⟨h4, h5⟩]))
      | fail "no step")
set_option maxHeartbeats 2000000 in
theorem vQEFill (P : Program) (hs : List (Nat × Nat × List Nat)) : ∀ ins, ins.length = cQEFill.nin → cQEFill.pre ins → tQEFill.sat { cxXQE P with hints := hs } (ctrR cQEFill) ins := by
  rintro ins _ ⟨M, a, b, n, rfl, hM⟩
  unfold tQEFill
  repeat' (first
    | (first
      | (with_reducible refine st_need ?_ ?_
         focus (simp only [dn, reduceCtorEq, hM] <;> first | omega | assumption))
      | (with_reducible refine st_and ?_ ?_)
      | (with_reducible exact st_ok)
      | (with_reducible refine st_br (fun hc => ?_) (fun hc => ?_) <;> (simp only [dn, reduceCtorEq, hM] at hc) <;> (try (exfalso; first | contradiction | omega)))
      | (refine st_call (by rfl) (by simp only [dn, reduceCtorEq, hM] <;> rfl) ?_ (by simp only [fo_store] <;> rfl) (by simp only [dn] <;> rfl) ?_
         focus (first | exact ⟨_, _, _, rfl, by first | exact hM | (simp only [len_store, len_fillK, len_fillR, len_fill10, len_fill11, len_fill12, len_fill13]; exact hM)⟩ | exact ⟨_, _, _, _, rfl, by first | exact hM | (simp only [len_store, len_fillK, len_fillR, len_fill10, len_fill11, len_fill12, len_fill13]; exact hM)⟩ | exact ⟨_, _, _, _, _, _, _, rfl, by first | exact hM | (simp only [len_store, len_fillK, len_fillR, len_fill10, len_fill11, len_fill12, len_fill13]; exact hM)⟩ | exact ⟨_, _, _, _, _, _, _, _, _, _, _, rfl, by first | exact hM | (simp only [len_store, len_fillK, len_fillR, len_fill10, len_fill11, len_fill12, len_fill13]; exact hM)⟩ | exact ⟨_, _, _, _, _, _, _, _, _, _, _, _, _, rfl⟩)))
    | (refine st_loop (by rfl) (by simp only [dn, reduceCtorEq, hM] <;> rfl) (by simp only [dn] <;> rfl) ?_ (fun env' h => bQEFill P hs env' h)
       exact ⟨M, a, b, n, _, 0, rfl, by omega, hM, by omega, by omega, by omega⟩)
    | (refine st_ret (by simp only [dn, reduceCtorEq, hM] <;> rfl) ?_
       focus (show _ = [EV.u (U.rmem (fill12 M a b n))]
              rw [fill12, if_neg (by omega)]))
    | fail "no step")
theorem hctsXQE : ∀ (ci : Nat) (c : Ctr U), ctsXQE[ci]? = some c → c.Holds objs Tryz.prog := by
  intro ci c h
  match ci, h with
  | 0, h => cases h; exact hQStore
  | n + 1, h => cases h
theorem hQEFill : cQEFill.Holds objs Tryz.prog := runCtr_holds (X := { cxXQE Tryz.prog with hints := hsQEFill }) objsOk mixed hctsXQE (callable _ Tryz.func135 (by kernel_rfl) (by kernel_rfl)) (by rintro ins _ ⟨_, _, _, _, rfl, _⟩; rfl) (by rw [rQEFill]; exact vQEFill _ _)
set_option maxHeartbeats 2000000 in
theorem vLFill (P : Program) (hs : List (Nat × Nat × List Nat)) : ∀ ins, ins.length = cLFill.nin → cLFill.pre ins → tLFill.sat { cxXL P with hints := hs } (ctrR cLFill) ins := by
  rintro ins _ ⟨M, t, l, s, g, w, m, ea, ep, ec, tp, rfl, hM⟩
  unfold tLFill
  repeat' (first
    | (first
      | (with_reducible refine st_need ?_ ?_
         focus (simp only [dn, reduceCtorEq, hM] <;> first | omega | assumption))
      | (with_reducible refine st_and ?_ ?_)
      | (with_reducible exact st_ok)
      | (with_reducible refine st_br (fun hc => ?_) (fun hc => ?_) <;> (simp only [dn, reduceCtorEq, hM] at hc) <;> (try (exfalso; first | contradiction | omega)))
      | (refine st_call (by rfl) (by simp only [dn, reduceCtorEq, hM] <;> rfl) ?_ (by simp only [out_store, out_AFill, out_EFill] <;> rfl) (by simp only [dn] <;> rfl) ?_
         focus (first | exact ⟨_, _, _, rfl⟩ | exact ⟨_, _, _, _, rfl, by first | exact hM | (simp only [len_store, len_fillK, len_fillR, len_fill10, len_fill11, len_fill12, len_fill13]; exact hM)⟩ | exact ⟨_, _, _, _, _, _, _, rfl, by first | exact hM | (simp only [len_store, len_fillK, len_fillR, len_fill10, len_fill11, len_fill12, len_fill13]; exact hM)⟩ | exact ⟨_, _, _, _, _, _, _, _, _, _, _, rfl, by first | exact hM | (simp only [len_store, len_fillK, len_fillR, len_fill10, len_fill11, len_fill12, len_fill13]; exact hM)⟩ | exact ⟨_, _, _, _, _, _, _, _, _, _, _, _, _, rfl⟩)))
    | (refine st_ret (by simp only [dn, reduceCtorEq, hM] <;> rfl) ?_
       focus (show _ = [EV.u (U.mem (fill13 M t l s g w ea ep ec tp))]
              rfl))
    | fail "no step")
theorem hctsXL : ∀ (ci : Nat) (c : Ctr U), ctsXL[ci]? = some c → c.Holds objs Tryz.prog := by
  intro ci c h
  match ci, h with
  | 0, h => cases h; exact hStore
  | 1, h => cases h; exact hAFill
  | 2, h => cases h; exact hEFill
  | n + 3, h => cases h
theorem hLFill : cLFill.Holds objs Tryz.prog := runCtr_holds (X := { cxXL Tryz.prog with hints := hsLFill }) objsOk mixed hctsXL (callable _ Tryz.func107 (by kernel_rfl) (by kernel_rfl)) (by rintro ins _ ⟨_, _, _, _, _, _, _, _, _, _, _, rfl, _⟩; rfl) (by rw [rLFill]; exact vLFill _ _)
set_option maxHeartbeats 2000000 in
theorem vQLFill (P : Program) (hs : List (Nat × Nat × List Nat)) : ∀ ins, ins.length = cQLFill.nin → cQLFill.pre ins → tQLFill.sat { cxXQL P with hints := hs } (ctrR cQLFill) ins := by
  rintro ins _ ⟨M, t, l, s, g, w, m, ea, ep, ec, tp, rfl, hM⟩
  unfold tQLFill
  repeat' (first
    | (first
      | (with_reducible refine st_need ?_ ?_
         focus (simp only [dn, reduceCtorEq, hM] <;> first | omega | assumption))
      | (with_reducible refine st_and ?_ ?_)
      | (with_reducible exact st_ok)
      | (with_reducible refine st_br (fun hc => ?_) (fun hc => ?_) <;> (simp only [dn, reduceCtorEq, hM] at hc) <;> (try (exfalso; first | contradiction | omega)))
      | (refine st_call (by rfl) (by simp only [dn, reduceCtorEq, hM] <;> rfl) ?_ (by simp only [fo_store, out_QAFill, out_QEFill] <;> rfl) (by simp only [dn] <;> rfl) ?_
         focus (first | exact ⟨_, _, _, rfl, by first | exact hM | (simp only [len_store, len_fillK, len_fillR, len_fill10, len_fill11, len_fill12, len_fill13]; exact hM)⟩ | exact ⟨_, _, _, _, rfl, by first | exact hM | (simp only [len_store, len_fillK, len_fillR, len_fill10, len_fill11, len_fill12, len_fill13]; exact hM)⟩ | exact ⟨_, _, _, _, _, _, _, rfl, by first | exact hM | (simp only [len_store, len_fillK, len_fillR, len_fill10, len_fill11, len_fill12, len_fill13]; exact hM)⟩ | exact ⟨_, _, _, _, _, _, _, _, _, _, _, rfl, by first | exact hM | (simp only [len_store, len_fillK, len_fillR, len_fill10, len_fill11, len_fill12, len_fill13]; exact hM)⟩ | exact ⟨_, _, _, _, _, _, _, _, _, _, _, _, _, rfl⟩)))
    | (refine st_ret (by simp only [dn, reduceCtorEq, hM] <;> rfl) ?_
       focus (show _ = [EV.u (U.rmem (fill13 M t l s g w ea ep ec tp))]
              rfl))
    | fail "no step")
theorem hctsXQL : ∀ (ci : Nat) (c : Ctr U), ctsXQL[ci]? = some c → c.Holds objs Tryz.prog := by
  intro ci c h
  match ci, h with
  | 0, h => cases h; exact hQStore
  | 1, h => cases h; exact hQAFill
  | 2, h => cases h; exact hQEFill
  | n + 3, h => cases h
theorem hQLFill : cQLFill.Holds objs Tryz.prog := runCtr_holds (X := { cxXQL Tryz.prog with hints := hsQLFill }) objsOk mixed hctsXQL (callable _ Tryz.func108 (by kernel_rfl) (by kernel_rfl)) (by rintro ins _ ⟨_, _, _, _, _, _, _, _, _, _, _, rfl, _⟩; rfl) (by rw [rQLFill]; exact vQLFill _ _)
set_option maxHeartbeats 2000000 in
theorem bTFill (P : Program) (hs : List (Nat × Nat × List Nat)) : ∀ env, tfInv env → tTFillL0.sat { cxXT P with hints := hs } (ctrR cTFill) env := by
  rintro env ⟨M, n, h, a, t, l, s, g, w, m, ea, ep, ec, tp, x0, x1, i, rfl, h1, hM, h3, h4⟩
  have hk := okT_facts h4
  have e0 : IntKind.i64.wrap (i + 1) = i + 1 := wrap_small (by omega) (by omega)
  by_cases hi : i < a
  all_goals
    unfold tTFillL0
    repeat' (first
      | (first
        | (with_reducible refine st_need ?_ ?_
           focus (simp only [dn, reduceCtorEq, e0] <;> first | omega | assumption))
        | (with_reducible refine st_and ?_ ?_)
        | (with_reducible exact st_ok)
        | (with_reducible refine st_br (fun hc => ?_) (fun hc => ?_) <;> (simp only [dn, reduceCtorEq, e0] at hc) <;> (try (exfalso; first | contradiction | omega)))
        | (refine st_call (by rfl) (by simp only [dn, reduceCtorEq, e0] <;> rfl) ?_ (by simp only [out_store, out_LFill, out_Snd15] <;> rfl) (by simp only [dn] <;> rfl) ?_
           focus (first | exact ⟨_, _, _, rfl⟩ | exact ⟨_, _, _, _, rfl, by first | exact hM | (simp only [len_store, len_fillK, len_fillR, len_fill10, len_fill11, len_fill12, len_fill13]; exact hM)⟩ | exact ⟨_, _, _, _, _, _, _, rfl, by first | exact hM | (simp only [len_store, len_fillK, len_fillR, len_fill10, len_fill11, len_fill12, len_fill13]; exact hM)⟩ | exact ⟨_, _, _, _, _, _, _, _, _, _, _, rfl, by first | exact hM | (simp only [len_store, len_fillK, len_fillR, len_fill10, len_fill11, len_fill12, len_fill13]; exact hM)⟩ | exact ⟨_, _, _, _, _, _, _, _, _, _, _, _, _, rfl⟩)))
      | (refine st_back (by rfl) (by simp only [dn, reduceCtorEq, e0] <;> rfl) (by simp only [dn] <;> rfl) (by rfl) ?_ ?_
         focus exact ⟨M, n, h, a, t, l, s, g, w, m, ea, ep, ec, tp, x0, x1, i + 1, by rw [fillR_succ _ _ _ h1]; rfl, by omega, hM, by omega, h4⟩
         focus (show (a - (i + 1)).toNat < (a - i).toNat; omega))
      | (refine st_ret (by simp only [dn, reduceCtorEq, e0] <;> rfl) ?_
         focus (obtain rfl : i = a := by omega
                show _ = [EV.u (U.mem (fill15 M n h i t l s g w ea ep ec tp))]
                rw [fill15, if_pos h4]))
      | fail "no step")
set_option maxHeartbeats 2000000 in
theorem vTFill (P : Program) (hs : List (Nat × Nat × List Nat)) : ∀ ins, ins.length = cTFill.nin → cTFill.pre ins → tTFill.sat { cxXT P with hints := hs } (ctrR cTFill) ins := by
  rintro ins _ ⟨M, n, h, a, t, l, s, g, w, m, ea, ep, ec, tp, rfl, hM⟩
  cases ho : okT n h a s
  all_goals try have hk := okT_facts ho
  all_goals
    unfold tTFill
    repeat' (first
      | (first
        | (with_reducible refine st_need ?_ ?_
           focus (simp only [dn, reduceCtorEq, ho] <;> first | omega | assumption))
        | (with_reducible refine st_and ?_ ?_)
        | (with_reducible exact st_ok)
        | (with_reducible refine st_br (fun hc => ?_) (fun hc => ?_) <;> (simp only [dn, reduceCtorEq, ho] at hc) <;> (try (exfalso; first | contradiction | omega)))
        | (refine st_call (by rfl) (by simp only [dn, reduceCtorEq, ho] <;> rfl) ?_ (by simp only [out_store, out_LFill, out_Snd15, ho] <;> rfl) (by simp only [dn] <;> rfl) ?_
           focus (first | exact ⟨_, _, _, rfl⟩ | exact ⟨_, _, _, _, rfl, by first | exact hM | (simp only [len_store, len_fillK, len_fillR, len_fill10, len_fill11, len_fill12, len_fill13]; exact hM)⟩ | exact ⟨_, _, _, _, _, _, _, rfl, by first | exact hM | (simp only [len_store, len_fillK, len_fillR, len_fill10, len_fill11, len_fill12, len_fill13]; exact hM)⟩ | exact ⟨_, _, _, _, _, _, _, _, _, _, _, rfl, by first | exact hM | (simp only [len_store, len_fillK, len_fillR, len_fill10, len_fill11, len_fill12, len_fill13]; exact hM)⟩ | exact ⟨_, _, _, _, _, _, _, _, _, _, _, _, _, rfl⟩)))
      | (refine st_loop (by rfl) (by simp only [dn, reduceCtorEq, ho] <;> rfl) (by simp only [dn] <;> rfl) ?_ (fun env' h => bTFill P hs env' h)
         exact ⟨M, n, h, a, t, l, s, g, w, m, ea, ep, ec, tp, _, _, 0, rfl, by omega, hM, by omega, ho⟩)
      | (refine st_ret (by simp only [dn, reduceCtorEq, ho] <;> rfl) ?_
         focus (show _ = [EV.u (U.mem (fill15 M n h a t l s g w ea ep ec tp))]
                rw [fill15, ho, if_neg (by decide)]))
      | fail "no step")
theorem hctsXT : ∀ (ci : Nat) (c : Ctr U), ctsXT[ci]? = some c → c.Holds objs Tryz.prog := by
  intro ci c h
  match ci, h with
  | 0, h => cases h; exact hStore
  | 1, h => cases h; exact hSnd15
  | 2, h => cases h; exact hLFill
  | n + 3, h => cases h
theorem hTFill : cTFill.Holds objs Tryz.prog := runCtr_holds (X := { cxXT Tryz.prog with hints := hsTFill }) objsOk mixed hctsXT (callable _ Tryz.func44 (by kernel_rfl) (by kernel_rfl)) (by rintro ins _ ⟨_, _, _, _, _, _, _, _, _, _, _, _, _, _, rfl, _⟩; rfl) (by rw [rTFill]; exact vTFill _ _)
set_option maxHeartbeats 2000000 in
theorem bQTFill (P : Program) (hs : List (Nat × Nat × List Nat)) : ∀ env, qtfInv env → tQTFillL0.sat { cxXQT P with hints := hs } (ctrR cQTFill) env := by
  rintro env ⟨M, n, h, a, t, l, s, g, w, m, ea, ep, ec, tp, x0, x1, i, rfl, h1, hM, h3, h4⟩
  have hk := okT_facts h4
  have e0 : IntKind.i64.wrap (i + 1) = i + 1 := wrap_small (by omega) (by omega)
  by_cases hi : i < a
  all_goals
    unfold tQTFillL0
    repeat' (first
      | (first
        | (with_reducible refine st_need ?_ ?_
           focus (simp only [dn, reduceCtorEq, e0] <;> first | omega | assumption))
        | (with_reducible refine st_and ?_ ?_)
        | (with_reducible exact st_ok)
        | (with_reducible refine st_br (fun hc => ?_) (fun hc => ?_) <;> (simp only [dn, reduceCtorEq, e0] at hc) <;> (try (exfalso; first | contradiction | omega)))
        | (refine st_call (by rfl) (by simp only [dn, reduceCtorEq, e0] <;> rfl) ?_ (by simp only [fo_store, out_QLFill, out_DSnd] <;> rfl) (by simp only [dn] <;> rfl) ?_
           focus (first | exact ⟨_, _, _, rfl, by first | exact hM | (simp only [len_store, len_fillK, len_fillR, len_fill10, len_fill11, len_fill12, len_fill13]; exact hM)⟩ | exact ⟨_, _, _, _, rfl, by first | exact hM | (simp only [len_store, len_fillK, len_fillR, len_fill10, len_fill11, len_fill12, len_fill13]; exact hM)⟩ | exact ⟨_, _, _, _, _, _, _, rfl, by first | exact hM | (simp only [len_store, len_fillK, len_fillR, len_fill10, len_fill11, len_fill12, len_fill13]; exact hM)⟩ | exact ⟨_, _, _, _, _, _, _, _, _, _, _, rfl, by first | exact hM | (simp only [len_store, len_fillK, len_fillR, len_fill10, len_fill11, len_fill12, len_fill13]; exact hM)⟩ | exact ⟨_, _, _, _, _, _, _, _, _, _, _, _, _, rfl⟩)))
      | (refine st_back (by rfl) (by simp only [dn, reduceCtorEq, e0] <;> rfl) (by simp only [dn] <;> rfl) (by rfl) ?_ ?_
         focus exact ⟨M, n, h, a, t, l, s, g, w, m, ea, ep, ec, tp, x0, x1, i + 1, by rw [fillR_succ _ _ _ h1]; rfl, by omega, hM, by omega, h4⟩
         focus (show (a - (i + 1)).toNat < (a - i).toNat; omega))
      | (refine st_ret (by simp only [dn, reduceCtorEq, e0] <;> rfl) ?_
         focus (obtain rfl : i = a := by omega
                show _ = [EV.u (U.rmem (fill15 M n h i t l s g w ea ep ec tp))]
                rw [fill15, if_pos h4]))
      | fail "no step")
set_option maxHeartbeats 2000000 in
theorem vQTFill (P : Program) (hs : List (Nat × Nat × List Nat)) : ∀ ins, ins.length = cQTFill.nin → cQTFill.pre ins → tQTFill.sat { cxXQT P with hints := hs } (ctrR cQTFill) ins := by
  rintro ins _ ⟨M, n, h, a, t, l, s, g, w, m, ea, ep, ec, tp, rfl, hM⟩
  cases ho : okT n h a s
  all_goals try have hk := okT_facts ho
  all_goals
    unfold tQTFill
    repeat' (first
      | (first
        | (with_reducible refine st_need ?_ ?_
           focus (simp only [dn, reduceCtorEq, ho] <;> first | omega | assumption))
        | (with_reducible refine st_and ?_ ?_)
        | (with_reducible exact st_ok)
        | (with_reducible refine st_br (fun hc => ?_) (fun hc => ?_) <;> (simp only [dn, reduceCtorEq, ho] at hc) <;> (try (exfalso; first | contradiction | omega)))
        | (refine st_call (by rfl) (by simp only [dn, reduceCtorEq, ho] <;> rfl) ?_ (by simp only [fo_store, out_QLFill, out_DSnd, ho] <;> rfl) (by simp only [dn] <;> rfl) ?_
           focus (first | exact ⟨_, _, _, rfl, by first | exact hM | (simp only [len_store, len_fillK, len_fillR, len_fill10, len_fill11, len_fill12, len_fill13]; exact hM)⟩ | exact ⟨_, _, _, _, rfl, by first | exact hM | (simp only [len_store, len_fillK, len_fillR, len_fill10, len_fill11, len_fill12, len_fill13]; exact hM)⟩ | exact ⟨_, _, _, _, _, _, _, rfl, by first | exact hM | (simp only [len_store, len_fillK, len_fillR, len_fill10, len_fill11, len_fill12, len_fill13]; exact hM)⟩ | exact ⟨_, _, _, _, _, _, _, _, _, _, _, rfl, by first | exact hM | (simp only [len_store, len_fillK, len_fillR, len_fill10, len_fill11, len_fill12, len_fill13]; exact hM)⟩ | exact ⟨_, _, _, _, _, _, _, _, _, _, _, _, _, rfl⟩)))
      | (refine st_loop (by rfl) (by simp only [dn, reduceCtorEq, ho] <;> rfl) (by simp only [dn] <;> rfl) ?_ (fun env' h => bQTFill P hs env' h)
         exact ⟨M, n, h, a, t, l, s, g, w, m, ea, ep, ec, tp, _, _, 0, rfl, by omega, hM, by omega, ho⟩)
      | (refine st_ret (by simp only [dn, reduceCtorEq, ho] <;> rfl) ?_
         focus (show _ = [EV.u (U.rmem (fill15 M n h a t l s g w ea ep ec tp))]
                rw [fill15, ho, if_neg (by decide)]))
      | fail "no step")
theorem hctsXQT : ∀ (ci : Nat) (c : Ctr U), ctsXQT[ci]? = some c → c.Holds objs Tryz.prog := by
  intro ci c h
  match ci, h with
  | 0, h => cases h; exact hQStore
  | 1, h => cases h; exact hDSnd
  | 2, h => cases h; exact hQLFill
  | n + 3, h => cases h
theorem hQTFill : cQTFill.Holds objs Tryz.prog := runCtr_holds (X := { cxXQT Tryz.prog with hints := hsQTFill }) objsOk mixed hctsXQT (callable _ Tryz.func45 (by kernel_rfl) (by kernel_rfl)) (by rintro ins _ ⟨_, _, _, _, _, _, _, _, _, _, _, _, _, _, rfl, _⟩; rfl) (by rw [rQTFill]; exact vQTFill _ _)
end Go.Proofs.YtbmbiiiacajolaaGreat
