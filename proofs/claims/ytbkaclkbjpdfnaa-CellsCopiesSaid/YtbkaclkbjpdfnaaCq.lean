/- The chapter's laws of what is outright so: contracts. -/
import Derived.Test.YtbkaclkbjpdfnaaCoV
namespace Go.Proofs.Ytbkaclkbjpdfnaa
set_option linter.unusedVariables false
set_option linter.unusedSimpArgs false
set_option linter.unusedSectionVars false
open Go

def cCopies : Ctr U :=
  { fn := 8, nin := 10, args := [.int .i64 (.var 0), .slice 0 (.var 2) (.var 3), .slice 1 (.var 5) (.var 6), .slice 2 (.var 8) (.var 9)], heap := [.ro actKs 1, .ro actKs 4, .ro actKs 7]
    pre := fun ins => ∃ n g1 k1 c1 g2 k2 c2 g3 k3 c3, ins = [.i n, .f g1 k1, .i k1, .i c1, .f g2 k2, .i k2, .i c2, .f g3 k3, .i k3, .i c3], nout := 1, out := fun _ => [.b true], ret := .bool (.var 10), post := [.ro actKs 1, .ro actKs 4, .ro actKs 7] }
def cOwn : Ctr U :=
  { fn := 5, nin := 4, args := [.int .i64 (.var 0), .slice 0 (.var 2) (.var 3)], heap := [.ro actKs 1]
    pre := fun ins => ∃ n g k c, ins = [.i n, .f g k, .i k, .i c], nout := 1, out := fun _ => [.b true], ret := .bool (.var 4), post := [.ro actKs 1] }
def copies1Inv (env : List (EV U)) : Prop := ∃ n g1 k1 c1 g2 k2 c2 g3 k3 c3 x11 x12 x13 x14 x15 M i, env = [.i n, .f g1 k1, .i k1, .i c1, .f g2 k2, .i k2, .i c2, .f g3 k3, .i k3, .i c3, .b true, x11, x12, x13, x14, x15, .u (.mem M), .u (.mem M), .i i] ∧ 0 ≤ i ∧ i ≤ k1 ∧ k1 ≤ 40 ∧ k2 ≤ 40 ∧ k3 ≤ 40 ∧ M.W.length ≤ 4096
def copies2Inv (env : List (EV U)) : Prop := ∃ n g1 k1 c1 g2 k2 c2 g3 k3 c3 x11 x12 x13 x14 x15 x16 x17 x18 x19 x20 x21 x22 x23 x24 x25 x26 M C i, env = [.i n, .f g1 k1, .i k1, .i c1, .f g2 k2, .i k2, .i c2, .f g3 k3, .i k3, .i c3, .b true, x11, x12, x13, x14, x15, x16, x17, x18, x19, x20, x21, x22, x23, x24, x25, x26, .u (.mem M), .u (.mem M), .u (.mem C), .i i] ∧ 0 ≤ i ∧ i ≤ k2 ∧ k2 ≤ 40 ∧ k3 ≤ 40 ∧ M.W.length ≤ 4096
def own1Inv (env : List (EV U)) : Prop := ∃ n g k c p x6 x7 x8 x9 M A i, env = [.i n, .f g k, .i k, .i c, .b true, .i p, x6, x7, x8, x9, .u (.mem M), .u (.mem A), .i i] ∧ 0 ≤ i ∧ i ≤ k ∧ k ≤ 60 ∧ 0 ≤ p ∧ p < 100 ∧ (M.W.length : Int) = 1 + p ∧ A.W = M.W
def own2Inv (env : List (EV U)) : Prop := ∃ n g k c p x6 x7 x8 x9 M A i x13 x16 x18 x20 x23 x30 j, env = [.i n, .f g k, .i k, .i c, .b true, .i p, x6, x7, x8, x9, .u (.mem M), .u (.mem A), .i i, x13, .l M.W, .i M.W.length, x16, .i M.N, x18, .i (doesT M (g i.toNat 0) (g i.toNat 1) (g i.toNat 2) (g i.toNat 3)), x20, .l (doesM M (g i.toNat 0) (g i.toNat 1) (g i.toNat 2) (g i.toNat 3)).W, .i M.W.length, x23, .i (g i.toNat 0), .i (g i.toNat 1), .i (doesM M (g i.toNat 0) (g i.toNat 1) (g i.toNat 2) (g i.toNat 3)).o, .i (doesM M (g i.toNat 0) (g i.toNat 1) (g i.toNat 2) (g i.toNat 3)).n, .b (doesM M (g i.toNat 0) (g i.toNat 1) (g i.toNat 2) (g i.toNat 3)).h, .u (.mem (doesM M (g i.toNat 0) (g i.toNat 1) (g i.toNat 2) (g i.toNat 3))), x30, .i j] ∧ 0 ≤ i ∧ i < k ∧ k ≤ 60 ∧ 0 ≤ p ∧ p < 100 ∧ (M.W.length : Int) = 1 + p ∧ A.W = M.W ∧ 0 ≤ j ∧ j ≤ 1 + p ∧ 1 ≤ g i.toNat 0 ∧ g i.toNat 0 ≤ 4
def lCopies1 : LoopS U :=
  { fn := 8, rid := 10, nv := 3, tm := [(14, .int .i64 (.var 18))], hp := [(3, .abs 16), (4, .abs 17)], reb := [], inv := copies1Inv, mu := fun env => (gI env 2 - gI env 18).toNat }
def lCopies2 : LoopS U :=
  { fn := 8, rid := 18, nv := 4, tm := [(16, .int .i64 (.var 30))], hp := [(3, .abs 27), (4, .abs 28), (5, .abs 29)], reb := [], inv := copies2Inv, mu := fun env => (gI env 5 - gI env 30).toNat }
def lOwn1 : LoopS U :=
  { fn := 5, rid := 10, nv := 3, tm := [(10, .int .i64 (.var 12))], hp := [(1, .abs 10), (2, .abs 11)], reb := [], inv := own1Inv, mu := fun env => (gI env 2 - gI env 12).toNat }
def lOwn2 : LoopS U :=
  { fn := 5, rid := 22, nv := 1, tm := [(18, .int .i64 (.var 31))], hp := [], reb := [], inv := own2Inv, mu := fun env => (1 + gI env 5 - gI env 31).toNat }
def ctsO : List (Ctr U) := ctsC ++ [cKnown, cDoes, cAlike]
def cxO (P : Program) : Cx U := { cx P ctsO with loops := [lCopies1, lCopies2, lOwn1, lOwn2] }
end Go.Proofs.Ytbkaclkbjpdfnaa
