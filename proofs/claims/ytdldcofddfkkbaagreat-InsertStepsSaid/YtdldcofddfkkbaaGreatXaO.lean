/- Texts of this proof. -/
import Derived.Test.YtdldcofddfkkbaaGreatVcO
namespace Go.Proofs.YtdldcofddfkkbaaGreat
set_option linter.unusedVariables false
set_option linter.unusedSimpArgs false
set_option linter.unusedSectionVars false
open Go Go.RowKit
def fillK (M : MemSt) (t l s : Int) : Nat → MemSt
 | 0 => M.store t 1
 | k + 1 => (fillK M t l s k).store (IntKind.i64.wrap (l + k)) (if (k : Int) + 1 = s then 0 else k + 2)
def fill10 (M : MemSt) (t l s : Int) : MemSt := if 1 ≤ s ∧ s ≤ 4096 then fillK M t l s s.toNat else M
def fillR (M : MemSt) (a x : Int) : Nat → MemSt
 | 0 => M
 | k + 1 => (fillR M a x k).store (IntKind.i64.wrap (a + k)) x
def fill11 (M : MemSt) (t l s g w : Int) : MemSt := if 1 ≤ s ∧ s ≤ 4096 then fillR ((fill10 M t l s).store w 0) g 1 s.toNat else M
def fill12 (M : MemSt) (a p n : Int) : MemSt := if 1 ≤ n ∧ n ≤ 64 then fillR (M.store a 0) p 0 n.toNat else M
def fill13 (M : MemSt) (t l s g w ea ep ec tp : Int) : MemSt := fillR (fill12 (fill11 M t l s g w) ea ep ec) tp 0 3
def fill15 (M : MemSt) (n h a t l s g w ea ep ec tp : Int) : MemSt := if okT n h a s = true then fillR (fill13 M t l s g w ea ep ec tp) h 0 a.toNat else M
theorem len_fillK (M : MemSt) (t l s : Int) : ∀ k, (fillK M t l s k).W.length = M.W.length
 | 0 => len_store _ _ _
 | k + 1 => by rw [fillK, len_store, len_fillK M t l s k]
theorem len_fillR (M : MemSt) (a x : Int) : ∀ k, (fillR M a x k).W.length = M.W.length
 | 0 => rfl
 | k + 1 => by rw [fillR, len_store, len_fillR M a x k]
theorem len_fill10 (M : MemSt) (t l s : Int) : (fill10 M t l s).W.length = M.W.length := by
 unfold fill10; split
 · exact len_fillK ..
 · rfl
theorem len_fill11 (M : MemSt) (t l s g w : Int) : (fill11 M t l s g w).W.length = M.W.length := by
 unfold fill11; split
 · rw [len_fillR, len_store, len_fill10]
 · rfl
theorem len_fill12 (M : MemSt) (a p n : Int) : (fill12 M a p n).W.length = M.W.length := by
 unfold fill12; split
 · rw [len_fillR, len_store]
 · rfl
theorem len_fill13 (M : MemSt) (t l s g w ea ep ec tp : Int) : (fill13 M t l s g w ea ep ec tp).W.length = M.W.length := by rw [fill13, len_fillR, len_fill12, len_fill11]
theorem len_fill15 (M : MemSt) (n h a t l s g w ea ep ec tp : Int) : (fill15 M n h a t l s g w ea ep ec tp).W.length = M.W.length := by
 unfold fill15; split
 · rw [len_fillR, len_fill13]
 · rfl
theorem fillR_succ (M : MemSt) (a x : Int) {i : Int} (h : 0 ≤ i) : fillR M a x (i + 1).toNat = (fillR M a x i.toNat).store (IntKind.i64.wrap (a + i)) x := by
 rw [show (i + 1).toNat = i.toNat + 1 by omega, fillR, show ((i.toNat : Nat) : Int) = i by omega]
theorem fillK_succ (M : MemSt) (a b n : Int) {i : Int} (h : 0 ≤ i) : fillK M a b n (i + 1).toNat = (fillK M a b n i.toNat).store (IntKind.i64.wrap (b + i)) (if i + 1 = n then 0 else i + 2) := by
 rw [show (i + 1).toNat = i.toNat + 1 by omega, fillK, show ((i.toNat : Nat) : Int) = i by omega]
def cPutTop : Ctr U :=
 { fn := 314, nin := 2, args := [.agg [.int .i64 (.var 0), .int .i64 (.var 1)]], heap := []
   pre := fun ins => ∃ i t, ins = [.i i, .i t] ∧ -1 ≤ i ∧ i ≤ 65534 ∧ 0 ≤ t ∧ t < 281474976710656, nout := 2
   out := fun ins => match ins with | [.i i, .i t] => [.i (i + 1 + t * 65536), .i 0] | _ => []
   ret := .tuple [.int .u64 (.var 2), .int .i64 (.var 3)], post := [] }
def cSFill : Ctr U :=
 { fn := 252, nin := 4, args := [.agg [.int .i64 (.var 1), .int .i64 (.var 2), .int .i64 (.var 3)], .hnd 0], heap := [.abs 0]
   pre := fun ins => ∃ M a b n, ins = [.u (.mem M), .i a, .i b, .i n] ∧ M.W.length ≤ 4096, nout := 1
   out := fun ins => match ins with | [.u (.mem M), .i a, .i b, .i n] => [.u (.mem (fill10 M a b n))] | _ => []
   ret := .tuple [], post := [.abs 4] }
def cQSFill : Ctr U :=
 { fn := 254, nin := 4, args := [.agg [.int .i64 (.var 1), .int .i64 (.var 2), .int .i64 (.var 3)], .hnd 0], heap := [.abs 0]
   pre := fun ins => ∃ M a b n, ins = [.u (.rmem M), .i a, .i b, .i n] ∧ M.W.length ≤ 4096, nout := 1
   out := fun ins => match ins with | [.u (.rmem M), .i a, .i b, .i n] => [.u (.rmem (fill10 M a b n))] | _ => []
   ret := .tuple [], post := [.abs 4] }
def cAFill : Ctr U :=
 { fn := 169, nin := 7, args := [.agg [.int .i64 (.var 1), .int .i64 (.var 2), .int .i64 (.var 3), .int .i64 (.var 4), .int .i64 (.var 5), .int .i64 (.var 6)], .hnd 0], heap := [.abs 0]
   pre := fun ins => ∃ M t l s g w m, ins = [.u (.mem M), .i t, .i l, .i s, .i g, .i w, .i m] ∧ M.W.length ≤ 4096, nout := 1
   out := fun ins => match ins with | [.u (.mem M), .i t, .i l, .i s, .i g, .i w, .i m] => [.u (.mem (fill11 M t l s g w))] | _ => []
   ret := .tuple [], post := [.abs 7] }
def cQAFill : Ctr U :=
 { fn := 171, nin := 7, args := [.agg [.int .i64 (.var 1), .int .i64 (.var 2), .int .i64 (.var 3), .int .i64 (.var 4), .int .i64 (.var 5), .int .i64 (.var 6)], .hnd 0], heap := [.abs 0]
   pre := fun ins => ∃ M t l s g w m, ins = [.u (.rmem M), .i t, .i l, .i s, .i g, .i w, .i m] ∧ M.W.length ≤ 4096, nout := 1
   out := fun ins => match ins with | [.u (.rmem M), .i t, .i l, .i s, .i g, .i w, .i m] => [.u (.rmem (fill11 M t l s g w))] | _ => []
   ret := .tuple [], post := [.abs 7] }
def cEFill : Ctr U :=
 { fn := 170, nin := 4, args := [.agg [.int .i64 (.var 1), .int .i64 (.var 2), .int .i64 (.var 3)], .hnd 0], heap := [.abs 0]
   pre := fun ins => ∃ M a b n, ins = [.u (.mem M), .i a, .i b, .i n] ∧ M.W.length ≤ 4096, nout := 1
   out := fun ins => match ins with | [.u (.mem M), .i a, .i b, .i n] => [.u (.mem (fill12 M a b n))] | _ => []
   ret := .tuple [], post := [.abs 4] }
def cQEFill : Ctr U :=
 { fn := 172, nin := 4, args := [.agg [.int .i64 (.var 1), .int .i64 (.var 2), .int .i64 (.var 3)], .hnd 0], heap := [.abs 0]
   pre := fun ins => ∃ M a b n, ins = [.u (.rmem M), .i a, .i b, .i n] ∧ M.W.length ≤ 4096, nout := 1
   out := fun ins => match ins with | [.u (.rmem M), .i a, .i b, .i n] => [.u (.rmem (fill12 M a b n))] | _ => []
   ret := .tuple [], post := [.abs 4] }
def cLFill : Ctr U :=
 { fn := 93, nin := 11, args := [.agg [.int .i64 (.var 1), .int .i64 (.var 2), .int .i64 (.var 3), .int .i64 (.var 4), .int .i64 (.var 5), .int .i64 (.var 6), .int .i64 (.var 7), .int .i64 (.var 8), .int .i64 (.var 9), .int .i64 (.var 10)], .hnd 0], heap := [.abs 0]
   pre := fun ins => ∃ M t l s g w m ea ep ec tp, ins = [.u (.mem M), .i t, .i l, .i s, .i g, .i w, .i m, .i ea, .i ep, .i ec, .i tp] ∧ M.W.length ≤ 4096, nout := 1
   out := fun ins => match ins with | [.u (.mem M), .i t, .i l, .i s, .i g, .i w, .i m, .i ea, .i ep, .i ec, .i tp] => [.u (.mem (fill13 M t l s g w ea ep ec tp))] | _ => []
   ret := .tuple [], post := [.abs 11] }
def cQLFill : Ctr U :=
 { fn := 94, nin := 11, args := [.agg [.int .i64 (.var 1), .int .i64 (.var 2), .int .i64 (.var 3), .int .i64 (.var 4), .int .i64 (.var 5), .int .i64 (.var 6), .int .i64 (.var 7), .int .i64 (.var 8), .int .i64 (.var 9), .int .i64 (.var 10)], .hnd 0], heap := [.abs 0]
   pre := fun ins => ∃ M t l s g w m ea ep ec tp, ins = [.u (.rmem M), .i t, .i l, .i s, .i g, .i w, .i m, .i ea, .i ep, .i ec, .i tp] ∧ M.W.length ≤ 4096, nout := 1
   out := fun ins => match ins with | [.u (.rmem M), .i t, .i l, .i s, .i g, .i w, .i m, .i ea, .i ep, .i ec, .i tp] => [.u (.rmem (fill13 M t l s g w ea ep ec tp))] | _ => []
   ret := .tuple [], post := [.abs 11] }
def cTFill : Ctr U :=
 { fn := 111, nin := 14, args := [.agg [.int .i64 (.var 1), .int .i64 (.var 2), .int .i64 (.var 3), .int .i64 (.var 4), .int .i64 (.var 5), .int .i64 (.var 6), .int .i64 (.var 7), .int .i64 (.var 8), .int .i64 (.var 9), .int .i64 (.var 10), .int .i64 (.var 11), .int .i64 (.var 12), .int .i64 (.var 13)], .hnd 0], heap := [.abs 0]
   pre := fun ins => ∃ M n h a t l s g w m ea ep ec tp, ins = [.u (.mem M), .i n, .i h, .i a, .i t, .i l, .i s, .i g, .i w, .i m, .i ea, .i ep, .i ec, .i tp] ∧ M.W.length ≤ 4096, nout := 1
   out := fun ins => match ins with | [.u (.mem M), .i n, .i h, .i a, .i t, .i l, .i s, .i g, .i w, .i m, .i ea, .i ep, .i ec, .i tp] => [.u (.mem (fill15 M n h a t l s g w ea ep ec tp))] | _ => []
   ret := .tuple [], post := [.abs 14] }
def cQTFill : Ctr U :=
 { fn := 123, nin := 14, args := [.agg [.int .i64 (.var 1), .int .i64 (.var 2), .int .i64 (.var 3), .int .i64 (.var 4), .int .i64 (.var 5), .int .i64 (.var 6), .int .i64 (.var 7), .int .i64 (.var 8), .int .i64 (.var 9), .int .i64 (.var 10), .int .i64 (.var 11), .int .i64 (.var 12), .int .i64 (.var 13)], .hnd 0], heap := [.abs 0]
   pre := fun ins => ∃ M n h a t l s g w m ea ep ec tp, ins = [.u (.rmem M), .i n, .i h, .i a, .i t, .i l, .i s, .i g, .i w, .i m, .i ea, .i ep, .i ec, .i tp] ∧ M.W.length ≤ 4096, nout := 1
   out := fun ins => match ins with | [.u (.rmem M), .i n, .i h, .i a, .i t, .i l, .i s, .i g, .i w, .i m, .i ea, .i ep, .i ec, .i tp] => [.u (.rmem (fill15 M n h a t l s g w ea ep ec tp))] | _ => []
   ret := .tuple [], post := [.abs 14] }
def sfInv (env : List (EV U)) : Prop := ∃ M a b n, ∃ x0 x1 x2 : EV U, ∃ i : Int, env = [.u (.mem M), .i a, .i b, .i n, x0, x1, x2, .u (.mem (fillK M a b n i.toNat)), .i i] ∧ 0 ≤ i ∧ M.W.length ≤ 4096 ∧ i ≤ n ∧ 1 ≤ n ∧ n ≤ 4096
def lSFill : LoopS U :=
 { fn := 252, rid := 4, nv := 2, tm := [(16, .int .i64 (.var 8))], hp := [(0, .abs 7)], reb := [], inv := sfInv, mu := fun env => (gI env 3 - gI env 8).toNat }
def qsfInv (env : List (EV U)) : Prop := ∃ M a b n, ∃ x0 : EV U, ∃ i : Int, env = [.u (.rmem M), .i a, .i b, .i n, x0, .u (.rmem (fillK M a b n i.toNat)), .i i] ∧ 0 ≤ i ∧ M.W.length ≤ 4096 ∧ i + 1 ≤ n ∧ n ≤ 4096
def lQSFill : LoopS U :=
 { fn := 254, rid := 4, nv := 2, tm := [(4, .int .i64 (.var 6))], hp := [(0, .abs 5)], reb := [], inv := qsfInv, mu := fun env => (gI env 3 - gI env 6).toNat }
def afInv (env : List (EV U)) : Prop := ∃ M t l s g w m, ∃ x0 x1 : EV U, ∃ i : Int, env = [.u (.mem M), .i t, .i l, .i s, .i g, .i w, .i m, x0, x1, .u (.mem (fillR ((fill10 M t l s).store w 0) g 1 i.toNat)), .i i] ∧ 0 ≤ i ∧ M.W.length ≤ 4096 ∧ i ≤ s ∧ 1 ≤ s ∧ s ≤ 4096
def lAFill : LoopS U :=
 { fn := 169, rid := 5, nv := 2, tm := [(19, .int .i64 (.var 10))], hp := [(0, .abs 9)], reb := [], inv := afInv, mu := fun env => (gI env 3 - gI env 10).toNat }
def qafInv (env : List (EV U)) : Prop := ∃ M t l s g w m, ∃ x0 x1 : EV U, ∃ i : Int, env = [.u (.rmem M), .i t, .i l, .i s, .i g, .i w, .i m, x0, x1, .u (.rmem (fillR ((fill10 M t l s).store w 0) g 1 i.toNat)), .i i] ∧ 0 ≤ i ∧ M.W.length ≤ 4096 ∧ i ≤ s ∧ 1 ≤ s ∧ s ≤ 4096
def lQAFill : LoopS U :=
 { fn := 171, rid := 5, nv := 2, tm := [(4, .int .i64 (.var 10))], hp := [(0, .abs 9)], reb := [], inv := qafInv, mu := fun env => (gI env 3 - gI env 10).toNat }
def efInv (env : List (EV U)) : Prop := ∃ M a b n, ∃ x0 x1 : EV U, ∃ i : Int, env = [.u (.mem M), .i a, .i b, .i n, x0, x1, .u (.mem (fillR (M.store a 0) b 0 i.toNat)), .i i] ∧ 0 ≤ i ∧ M.W.length ≤ 4096 ∧ i ≤ n ∧ 1 ≤ n ∧ n ≤ 64
def lEFill : LoopS U :=
 { fn := 301, rid := 1, nv := 2, tm := [(6, .int .i64 (.var 7))], hp := [(0, .abs 6)], reb := [], inv := efInv, mu := fun env => (gI env 3 - gI env 7).toNat }
def qefInv (env : List (EV U)) : Prop := ∃ M a b n, ∃ x0 : EV U, ∃ i : Int, env = [.u (.rmem M), .i a, .i b, .i n, x0, .u (.rmem (fillR (M.store a 0) b 0 i.toNat)), .i i] ∧ 0 ≤ i ∧ M.W.length ≤ 4096 ∧ i ≤ n ∧ 1 ≤ n ∧ n ≤ 64
def lQEFill : LoopS U :=
 { fn := 172, rid := 4, nv := 2, tm := [(4, .int .i64 (.var 6))], hp := [(0, .abs 5)], reb := [], inv := qefInv, mu := fun env => (gI env 3 - gI env 6).toNat }
def tfInv (env : List (EV U)) : Prop := ∃ M n h a t l s g w m ea ep ec tp, ∃ x0 x1 : EV U, ∃ i : Int, env = [.u (.mem M), .i n, .i h, .i a, .i t, .i l, .i s, .i g, .i w, .i m, .i ea, .i ep, .i ec, .i tp, x0, x1, .u (.mem (fillR (fill13 M t l s g w ea ep ec tp) h 0 i.toNat)), .i i] ∧ 0 ≤ i ∧ M.W.length ≤ 4096 ∧ i ≤ a ∧ okT n h a s = true
def lTFill : LoopS U :=
 { fn := 111, rid := 4, nv := 2, tm := [(14, .int .i64 (.var 17))], hp := [(0, .abs 16)], reb := [], inv := tfInv, mu := fun env => (gI env 3 - gI env 17).toNat }
def qtfInv (env : List (EV U)) : Prop := ∃ M n h a t l s g w m ea ep ec tp, ∃ x0 x1 : EV U, ∃ i : Int, env = [.u (.rmem M), .i n, .i h, .i a, .i t, .i l, .i s, .i g, .i w, .i m, .i ea, .i ep, .i ec, .i tp, x0, x1, .u (.rmem (fillR (fill13 M t l s g w ea ep ec tp) h 0 i.toNat)), .i i] ∧ 0 ≤ i ∧ M.W.length ≤ 4096 ∧ i ≤ a ∧ okT n h a s = true
def lQTFill : LoopS U :=
 { fn := 123, rid := 4, nv := 2, tm := [(4, .int .i64 (.var 17))], hp := [(0, .abs 16)], reb := [], inv := qtfInv, mu := fun env => (gI env 3 - gI env 17).toNat }
def ctsXS : List (Ctr U) := [cStore, cPutTop]
def cxXS (P : Program) : Cx U := { cx P ctsXS with join := true, loops := [lSFill] }
def ctsXQS : List (Ctr U) := [cQStore]
def cxXQS (P : Program) : Cx U := { cx P ctsXQS with join := true, loops := [lQSFill] }
def ctsXA : List (Ctr U) := [cStore, cSFill]
def cxXA (P : Program) : Cx U := { cx P ctsXA with join := true, loops := [lAFill] }
def ctsXQA : List (Ctr U) := [cQStore, cQSFill]
def cxXQA (P : Program) : Cx U := { cx P ctsXQA with join := true, loops := [lQAFill] }
def ctsXE : List (Ctr U) := [cStore]
def cxXE (P : Program) : Cx U := { cx P ctsXE with join := true, loops := [lEFill] }
def ctsXQE : List (Ctr U) := [cQStore]
def cxXQE (P : Program) : Cx U := { cx P ctsXQE with join := true, loops := [lQEFill] }
def ctsXL : List (Ctr U) := [cStore, cAFill, cEFill]
def cxXL (P : Program) : Cx U := { cx P ctsXL with join := true }
def ctsXQL : List (Ctr U) := [cQStore, cQAFill, cQEFill]
def cxXQL (P : Program) : Cx U := { cx P ctsXQL with join := true }
def ctsXT : List (Ctr U) := [cStore, cSnd15, cLFill]
def cxXT (P : Program) : Cx U := { cx P ctsXT with join := true, loops := [lTFill] }
def ctsXQT : List (Ctr U) := [cQStore, cDSnd, cQLFill]
def cxXQT (P : Program) : Cx U := { cx P ctsXQT with join := true, loops := [lQTFill] }
end Go.Proofs.YtdldcofddfkkbaaGreat
