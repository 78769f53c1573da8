/- Stacks: is that all, each once? The contract, its loops. -/
import Derived.Test.YtdabdbbgaekmdaaZa
namespace Go.Proofs.Ytdabdbbgaekmdaa
set_option linter.unusedVariables false
set_option linter.unusedSimpArgs false
set_option linter.unusedSectionVars false
open Go

def ownL (o0 o1 o2 : CoreP) (H0 H1 H2 : List Int) (y0 y1 y2 : Int) : List Int := o0.lays H0 y0 ++ (o1.lays H1 y1 ++ o2.lays H2 y2)
/-- the first ones of these -/
def ownK (o0 o1 o2 : CoreP) (H0 H1 H2 : List Int) (y0 y1 y2 : Int) (k : Int) : List Int :=
  if k = 0 then [] else if k = 1 then o0.lays H0 y0 else if k = 2 then o0.lays H0 y0 ++ o1.lays H1 y1 else o0.lays H0 y0 ++ (o1.lays H1 y1 ++ o2.lays H2 y2)
def allIns (o0 o1 o2 : CoreP) (H0 c0 H1 c1 H2 c2 : List Int) (y0 y1 y2 : Int) (M : MemSt) (t l n : Int) : List (EV U) :=
  [.u (cpA o0), .u (cpB o0), .u (cpC o0), .l (H0 ++ c0), .i H0.length, .i ((H0.length + c0.length : Nat) : Int), .i y0, .u (cpA o1), .u (cpB o1), .u (cpC o1), .l (H1 ++ c1), .i H1.length, .i ((H1.length + c1.length : Nat) : Int), .i y1, .u (cpA o2), .u (cpB o2), .u (cpC o2), .l (H2 ++ c2), .i H2.length, .i ((H2.length + c2.length : Nat) : Int), .i y2, .u (.mem M), .i t, .i l, .i n]
def cAllS : Ctr U :=
  { fn := 36, nin := 25, args := [.agg [.int .i64 (.var 22), .int .i64 (.var 23), .int .i64 (.var 24)], .hnd 13, .slice 0 (.lit 3) (.lit 3)], heap := [.cells [.hnd 1, .hnd 2, .hnd 3, .slice 4 (.var 4) (.var 5), .int .i64 (.var 6), .hnd 5, .hnd 6, .hnd 7, .slice 8 (.var 11) (.var 12), .int .i64 (.var 13), .hnd 9, .hnd 10, .hnd 11, .slice 12 (.var 18) (.var 19), .int .i64 (.var 20)] 69, .abs 0, .abs 1, .abs 2, .row .i64 3 3, .abs 7, .abs 8, .abs 9, .row .i64 3 10, .abs 14, .abs 15, .abs 16, .row .i64 3 17, .abs 21]
    pre := fun ins => ∃ o0 o1 o2, ∃ H0 c0 H1 c1 H2 c2 : List Int, ∃ y0 y1 y2 M t l n, ins = allIns o0 o1 o2 H0 c0 H1 c1 H2 c2 y0 y1 y2 M t l n ∧ M.fine ∧ 0 ≤ n ∧ n ≤ 4096 ∧ H0.length ≤ 4096 ∧ H1.length ≤ 4096 ∧ H2.length ≤ 4096, nout := 2, out := fun _ => []
    rel := some fun ins outs => ∃ o0 o1 o2, ∃ H0 c0 H1 c1 H2 c2 : List Int, ∃ y0 y1 y2 M t l n, ins = allIns o0 o1 o2 H0 c0 H1 c1 H2 c2 y0 y1 y2 M t l n ∧ outs = [.u (.mem M), .b (allB (chainS M t l n ++ ownL o0 o1 o2 H0 H1 H2 y0 y1 y2) n)]
    ret := .bool (.var 26), post := [.cells [.hnd 1, .hnd 2, .hnd 3, .slice 4 (.var 4) (.var 5), .int .i64 (.var 6), .hnd 5, .hnd 6, .hnd 7, .slice 8 (.var 11) (.var 12), .int .i64 (.var 13), .hnd 9, .hnd 10, .hnd 11, .slice 12 (.var 18) (.var 19), .int .i64 (.var 20)] 69, .abs 0, .abs 1, .abs 2, .row .i64 3 3, .abs 7, .abs 8, .abs 9, .row .i64 3 10, .abs 14, .abs 15, .abs 16, .row .i64 3 17, .abs 25] }
def allInv1 (env : List (EV U)) : Prop := ∃ o0 o1 o2, ∃ H0 c0 H1 c1 H2 c2 : List Int, ∃ y0 y1 y2 M t l n, ∃ z x27 x28 x29 : EV U, ∃ k : Int, ∃ d : List Int,
  env = allIns o0 o1 o2 H0 c0 H1 c1 H2 c2 y0 y1 y2 M t l n ++ [z, .u (.mem M), x27, x28, x29, .i k, .l ((chainS M t l n ++ ownK o0 o1 o2 H0 H1 H2 y0 y1 y2 k) ++ d), .i (chainS M t l n ++ ownK o0 o1 o2 H0 H1 H2 y0 y1 y2 k).length, .i (((chainS M t l n ++ ownK o0 o1 o2 H0 H1 H2 y0 y1 y2 k).length + d.length : Nat) : Int)] ∧ z = .l (List.replicate n.toNat 0) ∧ 0 ≤ k ∧ k ≤ 3 ∧ 0 ≤ n ∧ n ≤ 4096 ∧ H0.length ≤ 4096 ∧ H1.length ≤ 4096 ∧ H2.length ≤ 4096
def lAll1 : LoopS U :=
  { fn := 36, rid := 4, nv := 4, tm := [(16, .junk), (9, .int .i64 (.var 30)), (8, .slice 16 (.var 32) (.var 33))], hp := [(16, .row .i64 3 31)], reb := [(16, 0)], inv := allInv1, mu := fun env => (3 - gI env 30).toNat }
/-- which were seen -/
def seenL (L : List Int) (n : Int) : List Int := (List.range n.toNat).map fun (x : Nat) => if (x : Int) ∈ L then 1 else 0
def allInv2 (env : List (EV U)) : Prop := ∃ o0 o1 o2, ∃ H0 c0 H1 c1 H2 c2 : List Int, ∃ y0 y1 y2 M t l n, ∃ x25 x27 x28 x29 x30 : EV U, ∃ L d : List Int, ∃ cap k : Int,
  env = allIns o0 o1 o2 H0 c0 H1 c1 H2 c2 y0 y1 y2 M t l n ++ [x25, .u (.mem M), x27, x28, x29, x30, .l (L ++ d), .i L.length, .i cap, .i k, .l (seenL (L.take k.toNat) n)] ∧ L = chainS M t l n ++ ownL o0 o1 o2 H0 H1 H2 y0 y1 y2 ∧ 0 ≤ k ∧ k ≤ L.length ∧ 0 ≤ n ∧ n ≤ 4096 ∧ L.length ≤ 20000 ∧ (L.take k.toNat).Nodup ∧ ∀ x ∈ L.take k.toNat, 0 ≤ x ∧ x < n
def lAll2 : LoopS U :=
  { fn := 36, rid := 10, nv := 2, tm := [(10, .int .i64 (.var 34))], hp := [(15, .rb 4 35)], reb := [], inv := allInv2, mu := fun env => (gI env 32 - gI env 34).toNat }
def cxZb (P : Program) : Cx U := { cx P ctsST with join := true, loops := [lAll1, lAll2] }
end Go.Proofs.Ytdabdbbgaekmdaa
