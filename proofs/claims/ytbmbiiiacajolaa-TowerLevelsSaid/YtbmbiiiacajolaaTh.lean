/- Nodes that are laid at once: contracts. -/
import Derived.Test.YtbmbiiiacajolaaTg
import Derived.Test.YtbmbiiiacajolaaCwV
import Derived.Test.YtbmbiiiacajolaaLt
namespace Go.Proofs.Ytbmbiiiacajolaa
set_option linter.unusedVariables false
set_option linter.unusedSimpArgs false
set_option linter.unusedSectionVars false
open Go

def chTw : SV := .agg ([16, 14, 2, 0, 1, 3, 4, 7, 9, 8, 9, 2, 11].map fun n => .int .i64 (.lit n))
def fillC : MemSt := ([(0, 1), (1, 2), (2, 3), (3, 0), (7, 0), (4, 1), (5, 1), (6, 1), (8, 0), (9, 0), (10, 0), (11, 0), (12, 0), (13, 0), (14, 0), (15, 0)] : List (Int × Int)).foldl (fun M p => M.store p.1 p.2) (.new 34)
def cTFillC : Ctr U :=
  { fn := 30, nin := 1, args := [chTw, .hnd 0], heap := [.abs 0]
    pre := fun ins => ins = [.u (.mem (.new 34))], nout := 1, out := fun _ => [.u (.mem fillC)], ret := .tuple [], post := [.abs 1] }
def ctsT0 : List (Ctr U) := [cLoad, cStore, cCAS, cNew, cLast, cCount]
def cxT0 (P : Program) : Cx U := cx P ctsT0
def cMemAt : Ctr U :=
  { fn := 74, nin := 4, args := [.slice 0 (.var 1) (.var 2), .int .i64 (.var 3)], heap := [.row .u64 42 0]
    pre := fun ins => ∃ xs a c k, ins = [.l xs, .i a, .i c, .i k] ∧ 0 ≤ a ∧ a ≤ xs.length, nout := 1
    out := fun ins => match ins with | [.l xs, .i a, _, .i k] => [.i (if 0 ≤ k ∧ k < a then xs.getD k.toNat 0 else 0)] | _ => []
    ret := .int .u64 (.var 4), post := [.row .u64 42 0] }
/-- no node is refused -/
def cRefC (r : Int) : Ctr U :=
  { fn := 69, nin := 2, args := [chTw, .int .u64 (.lit r), .int .i64 (.var 0), .int .i64 (.var 1)], heap := []
    pre := fun ins => ∃ j h, ins = [.i j, .i h] ∧ 0 ≤ j ∧ j < 64 ∧ 1 ≤ h ∧ h ≤ 2, nout := 0, out := fun _ => [], ret := .int .i64 (.lit 0), post := [] }
def cRef0 : Ctr U := cRefC 65537
def cRef1 : Ctr U := cRefC 65538
def cRef2 : Ctr U := cRefC 65539
/-- what a node's cells are -/
def cNodeC (i : Int) : Ctr U :=
  { fn := 26, nin := 1, args := [chTw, .int .i64 (.lit i), .hnd 0], heap := [.abs 0]
    pre := fun ins => ∃ M, ins = [.u (.mem M)] ∧ M.W.length = 34, nout := 7, out := fun _ => []
    many := some fun c ins => match ins with | [.u (.mem M)] => [.u (.mem M), .i (M.W.getD (16 + 6 * i).toNat 0), .i (M.W.getD (17 + 6 * i).toNat 0), .i (M.W.getD (18 + 6 * i).toNat 0), .i (M.W.getD (19 + 6 * i).toNat 0), .l ([M.W.getD (20 + 6 * i).toNat 0, M.W.getD (21 + 6 * i).toNat 0] ++ c), .i ((2 + c.length : Nat) : Int)] | _ => []
    ret := .tuple [.agg [.int .u64 (.var 2), .int .u64 (.var 3), .int .u64 (.var 4), .int .u64 (.var 5), .slice 1 (.lit 2) (.var 7)], .bool (.lit true)], post := [.abs 1, .row .u64 42 6] }
def cNode0 : Ctr U := cNodeC 0
def cNode1 : Ctr U := cNodeC 1
def cNode2 : Ctr U := cNodeC 2
def ctsTn : List (Ctr U) := [cWords, cMemAt]
def cxTn (P : Program) : Cx U := { cx P ctsTn with join := true }
def cxT0j (P : Program) : Cx U := { cx P [] with join := true }
def ctsT1 : List (Ctr U) := ctsT0 ++ [cWords, cSameWords, cPick, cTFillC, cNode0, cNode1, cNode2, cRef0, cRef1, cRef2, lit (lB 8)]
def cTLays : Ctr U :=
  { fn := 11, nin := 12, args := [.slice 0 (.var 1) (.var 2), .slice 1 (.var 4) (.var 5), .slice 2 (.var 7) (.var 8), .slice 3 (.var 10) (.var 11)], heap := [.ro [some .i64] 0, .ro [some .i64] 3, .ro [some .i64] 6, .ro [some .i64] 9]
    pre := fun ins => ∃ g0, ∃ k0 : Nat, ∃ c0 g1, ∃ k1 : Nat, ∃ c1 g2, ∃ k2 : Nat, ∃ c2 gl, ∃ kl : Nat, ∃ cl, ins = [.f g0 k0, .i k0, .i c0, .f g1 k1, .i k1, .i c1, .f g2 k2, .i k2, .i c2, .f gl kl, .i kl, .i cl], nout := 1, out := fun _ => [.b true], ret := .bool (.var 12), post := [.ro [some .i64] 0, .ro [some .i64] 3, .ro [some .i64] 6, .ro [some .i64] 9] }
/-- what is known of the jobs and heights -/
def laysP (k0 k1 k2 : Nat) (g1 g2 : Nat → Nat → Int) (j0 h0 j1 h1 j2 h2 : Int) : Prop :=
  3 ≤ k0 ∧ 3 ≤ k1 ∧ 3 ≤ k2 ∧ (0 ≤ j0 ∧ j0 < 64 ∧ 0 ≤ h0 ∧ h0 < 2 ∧ 0 ≤ j1 ∧ j1 < 64 ∧ 0 ≤ h1 ∧ h1 < 2 ∧ 0 ≤ j2 ∧ j2 < 64 ∧ 0 ≤ h2 ∧ h2 < 2) ∧ ((g1 0 0).emod 64 = j0 ∧ (g2 0 0).emod 2 = h0 ∧ (g1 1 0).emod 64 = j1 ∧ (g2 1 0).emod 2 = h1 ∧ (g1 2 0).emod 64 = j2 ∧ (g2 2 0).emod 2 = h2)
def ly1Inv (env : List (EV U)) : Prop := ∃ g0, ∃ k0 : Nat, ∃ c0 g1, ∃ k1 : Nat, ∃ c1 g2, ∃ k2 : Nat, ∃ c2 gl, ∃ kl : Nat, ∃ cl x13 x14 x15 x16 j0 h0 j1 h1 j2 h2 M d0 d1 d2 i, env = [.f g0 k0, .i k0, .i c0, .f g1 k1, .i k1, .i c1, .f g2 k2, .i k2, .i c2, .f gl kl, .i kl, .i cl, .b true, x13, x14, x15, x16, .l fillC.W, .i 34, .i j0, .i h0, .i j1, .i h1, .i j2, .i h2, .u (.mem M), .i d0, .i d1, .i d2, .i i] ∧ 0 ≤ i ∧ i ≤ kl ∧ kl ≤ 60 ∧ laysP k0 k1 k2 g1 g2 j0 h0 j1 h1 j2 h2 ∧ laysM M 16 (IntKind.u64.wrap (g0 0 0)) j0 (1 + h0) d0 (IntKind.u64.wrap (g0 1 0)) j1 (1 + h1) d1 (IntKind.u64.wrap (g0 2 0)) j2 (1 + h2) d2
def lLy1 : LoopS U :=
  { fn := 11, rid := 16, nv := 5, tm := [(16, .int .i64 (.var 29))]
    hp := [(4, .abs 25), (9, .cells [.bool (.lit true), .int .u64 (.lit 65537), .func (.func 72) [] [.ptr 8 0, .ptr 10 0, .ptr 11 0, .ptr 12 0], .func (.func 72) [] [.ptr 8 0, .ptr 10 0, .ptr 13 0, .ptr 14 0], .func (.func 72) [] [.ptr 8 0, .ptr 10 0, .ptr 15 0, .ptr 16 0], .func (.func 72) [] [.ptr 8 0, .ptr 10 0, .ptr 17 0, .ptr 18 0], .int .i64 (.var 26), .int .i64 (.lit 0)] 46), (20, .cells [.bool (.lit true), .int .u64 (.lit 65538), .func (.func 72) [] [.ptr 19 0, .ptr 21 0, .ptr 22 0, .ptr 23 0], .func (.func 72) [] [.ptr 19 0, .ptr 21 0, .ptr 24 0, .ptr 25 0], .func (.func 72) [] [.ptr 19 0, .ptr 21 0, .ptr 26 0, .ptr 27 0], .func (.func 72) [] [.ptr 19 0, .ptr 21 0, .ptr 28 0, .ptr 29 0], .int .i64 (.var 27), .int .i64 (.lit 0)] 46), (31, .cells [.bool (.lit true), .int .u64 (.lit 65539), .func (.func 72) [] [.ptr 30 0, .ptr 32 0, .ptr 33 0, .ptr 34 0], .func (.func 72) [] [.ptr 30 0, .ptr 32 0, .ptr 35 0, .ptr 36 0], .func (.func 72) [] [.ptr 30 0, .ptr 32 0, .ptr 37 0, .ptr 38 0], .func (.func 72) [] [.ptr 30 0, .ptr 32 0, .ptr 39 0, .ptr 40 0], .int .i64 (.var 28), .int .i64 (.lit 0)] 46)], reb := [], inv := ly1Inv, mu := fun env => (gI env 10 - gI env 29).toNat }
def lyAInv (env : List (EV U)) : Prop := ∃ g0, ∃ k0 : Nat, ∃ c0 g1, ∃ k1 : Nat, ∃ c1 g2, ∃ k2 : Nat, ∃ c2 gl, ∃ kl : Nat, ∃ cl x13 x14 x15 x16 j0 h0 j1 h1 j2 h2 x25 x26 d1 d2 x29 M d k, env = [.f g0 k0, .i k0, .i c0, .f g1 k1, .i k1, .i c1, .f g2 k2, .i k2, .i c2, .f gl kl, .i kl, .i cl, .b true, x13, x14, x15, x16, .l fillC.W, .i 34, .i j0, .i h0, .i j1, .i h1, .i j2, .i h2, x25, x26, .i d1, .i d2, x29, .u (.mem M), .i d, .i k] ∧ 0 ≤ k ∧ k ≤ 4 ∧ k ≤ d ∧ laysP k0 k1 k2 g1 g2 j0 h0 j1 h1 j2 h2 ∧ laysM M 16 (IntKind.u64.wrap (g0 0 0)) j0 (1 + h0) d (IntKind.u64.wrap (g0 1 0)) j1 (1 + h1) d1 (IntKind.u64.wrap (g0 2 0)) j2 (1 + h2) d2
def lyBInv (env : List (EV U)) : Prop := ∃ g0, ∃ k0 : Nat, ∃ c0 g1, ∃ k1 : Nat, ∃ c1 g2, ∃ k2 : Nat, ∃ c2 gl, ∃ kl : Nat, ∃ cl x13 x14 x15 x16 j0 h0 j1 h1 j2 h2 x25 x26 x27 d2 x29 x30 x31 x32 x33 x34 x35 x36 x37 x38 x39 x40 x41 x42 x43 M d k, env = [.f g0 k0, .i k0, .i c0, .f g1 k1, .i k1, .i c1, .f g2 k2, .i k2, .i c2, .f gl kl, .i kl, .i cl, .b true, x13, x14, x15, x16, .l fillC.W, .i 34, .i j0, .i h0, .i j1, .i h1, .i j2, .i h2, x25, x26, x27, .i d2, x29, x30, x31, x32, x33, x34, x35, x36, x37, x38, x39, x40, x41, x42, x43, .u (.mem M), .i d, .i k] ∧ 0 ≤ k ∧ k ≤ 4 ∧ k ≤ d ∧ laysP k0 k1 k2 g1 g2 j0 h0 j1 h1 j2 h2 ∧ laysM M 16 (IntKind.u64.wrap (g0 0 0)) j0 (1 + h0) 4 (IntKind.u64.wrap (g0 1 0)) j1 (1 + h1) d (IntKind.u64.wrap (g0 2 0)) j2 (1 + h2) d2
def lyCInv (env : List (EV U)) : Prop := ∃ g0, ∃ k0 : Nat, ∃ c0 g1, ∃ k1 : Nat, ∃ c1 g2, ∃ k2 : Nat, ∃ c2 gl, ∃ kl : Nat, ∃ cl x13 x14 x15 x16 j0 h0 j1 h1 j2 h2 x25 x26 x27 x28 x29 x30 x31 x32 x33 x34 x35 x36 x37 x38 x39 x40 x41 x42 x43 x44 x45 x46 x47 x48 x49 x50 x51 x52 x53 x54 x55 x56 x57 M d k, env = [.f g0 k0, .i k0, .i c0, .f g1 k1, .i k1, .i c1, .f g2 k2, .i k2, .i c2, .f gl kl, .i kl, .i cl, .b true, x13, x14, x15, x16, .l fillC.W, .i 34, .i j0, .i h0, .i j1, .i h1, .i j2, .i h2, x25, x26, x27, x28, x29, x30, x31, x32, x33, x34, x35, x36, x37, x38, x39, x40, x41, x42, x43, x44, x45, x46, x47, x48, x49, x50, x51, x52, x53, x54, x55, x56, x57, .u (.mem M), .i d, .i k] ∧ 0 ≤ k ∧ k ≤ 4 ∧ k ≤ d ∧ laysP k0 k1 k2 g1 g2 j0 h0 j1 h1 j2 h2 ∧ laysM M 16 (IntKind.u64.wrap (g0 0 0)) j0 (1 + h0) 4 (IntKind.u64.wrap (g0 1 0)) j1 (1 + h1) 4 (IntKind.u64.wrap (g0 2 0)) j2 (1 + h2) d
def lLyA : LoopS U :=
  { fn := 11, rid := 23, nv := 3, at_ := 30, tm := [(18, .int .i64 (.var 32))], hp := [(4, .abs 30), (9, .cells [.bool (.lit true), .int .u64 (.lit 65537), .func (.func 72) [] [.ptr 8 0, .ptr 10 0, .ptr 11 0, .ptr 12 0], .func (.func 72) [] [.ptr 8 0, .ptr 10 0, .ptr 13 0, .ptr 14 0], .func (.func 72) [] [.ptr 8 0, .ptr 10 0, .ptr 15 0, .ptr 16 0], .func (.func 72) [] [.ptr 8 0, .ptr 10 0, .ptr 17 0, .ptr 18 0], .int .i64 (.var 31), .int .i64 (.lit 0)] 46)], reb := [], inv := lyAInv, mu := fun env => (4 - gI env 32).toNat }
def lLyB : LoopS U :=
  { fn := 11, rid := 23, nv := 3, at_ := 44, tm := [(18, .int .i64 (.var 46))], hp := [(4, .abs 44), (20, .cells [.bool (.lit true), .int .u64 (.lit 65538), .func (.func 72) [] [.ptr 19 0, .ptr 21 0, .ptr 22 0, .ptr 23 0], .func (.func 72) [] [.ptr 19 0, .ptr 21 0, .ptr 24 0, .ptr 25 0], .func (.func 72) [] [.ptr 19 0, .ptr 21 0, .ptr 26 0, .ptr 27 0], .func (.func 72) [] [.ptr 19 0, .ptr 21 0, .ptr 28 0, .ptr 29 0], .int .i64 (.var 45), .int .i64 (.lit 0)] 46)], reb := [], inv := lyBInv, mu := fun env => (4 - gI env 46).toNat }
def lLyC : LoopS U :=
  { fn := 11, rid := 23, nv := 3, at_ := 58, tm := [(18, .int .i64 (.var 60))], hp := [(4, .abs 58), (31, .cells [.bool (.lit true), .int .u64 (.lit 65539), .func (.func 72) [] [.ptr 30 0, .ptr 32 0, .ptr 33 0, .ptr 34 0], .func (.func 72) [] [.ptr 30 0, .ptr 32 0, .ptr 35 0, .ptr 36 0], .func (.func 72) [] [.ptr 30 0, .ptr 32 0, .ptr 37 0, .ptr 38 0], .func (.func 72) [] [.ptr 30 0, .ptr 32 0, .ptr 39 0, .ptr 40 0], .int .i64 (.var 59), .int .i64 (.lit 0)] 46)], reb := [], inv := lyCInv, mu := fun env => (4 - gI env 60).toNat }
def cxT2 (P : Program) : Cx U := { cx P ctsT1 with join := true, loops := [lLy1, lLyA, lLyB, lLyC] }
end Go.Proofs.Ytbmbiiiacajolaa
