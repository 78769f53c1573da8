/- Stacks: the chapter's law beside the document: contracts. -/
import Derived.Test.YtdabdbbgaekmdaaKsV
import Derived.Test.YtdabdbbgaekmdaaKb
namespace Go.Proofs.Ytdabdbbgaekmdaa
set_option linter.unusedVariables false
set_option linter.unusedSimpArgs false
set_option linter.unusedSectionVars false
open Go

def ctsKG : List (Ctr U) := ctsSA ++ [cQSFits, cRNew, cRSFill, cRStore, cRChain, cQNewPo, cQNewPu, cQNewAl, cToldS, cToldS1, cToldS2, cToldS3, cOverInts]
def actSs : List (Option IntKind) := [some .i64, some .i64, some .i64]
def cSSteps : Ctr U :=
  { fn := 7, nin := 10, args := [.agg [.int .i64 (.var 0), .int .i64 (.var 1), .int .i64 (.var 2)], .int .i64 (.var 3), .slice 0 (.var 5) (.var 6), .slice 1 (.var 8) (.var 9)], heap := [.ro [some .u64] 4, .ro actSs 7]
    pre := fun ins => ∃ a b n s gi, ∃ ki : Nat, ∃ ci gl, ∃ kl : Nat, ∃ cl, ins = [.i a, .i b, .i n, .i s, .f gi ki, .i ki, .i ci, .f gl kl, .i kl, .i cl] ∧ ∀ j, j < ki → isW (gi j 0), nout := 1, out := fun _ => [.b true], ret := .bool (.var 10), post := [.ro [some .u64] 4, .ro actSs 7] }
def ss1Inv (env : List (EV U)) : Prop := ∃ (a b n s : Int) (gi : Nat → Nat → Int) (ki : Nat) (ci : Int) (gl : Nat → Nat → Int) (kl : Nat) (cl : Int) (x0 x1 x2 x3 x4 x5 x6 x7 x8 x9 x10 x11 x12 x13 x14 x15 x16 x17 x18 x19 x20 x21 : EV U) (M : MemSt) (i : Int), env = [.i a, .i b, .i n, .i s, .f gi ki, .i ki, .i ci, .f gl kl, .i kl, .i cl, x0, x1, x2, x3, x4, x5, x6, x7, x8, x9, x10, x11, x12, x13, x14, x15, x16, x17, x18, x19, x20, x21, .u (.mem M)] ++ (rmR M ++ [.i i]) ∧ 0 ≤ i ∧ i ≤ ki ∧ ki ≤ 60 ∧ kl ≤ 100 ∧ 1 ≤ M.W.length ∧ M.fine ∧ (∀ j, j < ki → isW (gi j 0)) ∧ fitsS a b n s = 0 ∧ n ≤ 20
def lSS1 : LoopS U :=
  { fn := 39, rid := 8, nv := 10, tm := [(12, .int .i64 (.var 41))], hp := [(4, .abs 32), (5, rmC 33 6), (6, rmW 33)], reb := [], inv := ss1Inv, mu := fun env => (gI env 5 - gI env 41).toNat }
def ss2Inv (env : List (EV U)) : Prop := ∃ (a b n s : Int) (gi : Nat → Nat → Int) (ki : Nat) (ci : Int) (gl : Nat → Nat → Int) (kl : Nat) (cl : Int) (x0 x1 x2 x3 x4 x5 x6 x7 x8 x9 x10 x11 x12 x13 x14 x15 x16 x17 x18 x19 x20 x21 x22 x23 x24 x25 x26 x27 x28 x29 x30 x31 x32 x33 : EV U) (M : MemSt) (o0 o1 o2 o3 : CoreS) (i : Int), env = [.i a, .i b, .i n, .i s, .f gi ki, .i ki, .i ci, .f gl kl, .i kl, .i cl, x0, x1, x2, x3, x4, x5, x6, x7, x8, x9, x10, x11, x12, x13, x14, x15, x16, x17, x18, x19, x20, x21, x22, x23, x24, x25, x26, x27, x28, x29, x30, x31, x32, x33, .u (.mem M)] ++ (rmR M ++ [.u (koA o0), .u (koB o0), .u (koC o0), .u (koD o0), .u (koE o0), .u (koF o0), .u (koA o1), .u (koB o1), .u (koC o1), .u (koD o1), .u (koE o1), .u (koF o1), .u (koA o2), .u (koB o2), .u (koC o2), .u (koD o2), .u (koE o2), .u (koF o2), .u (koA o3), .u (koB o3), .u (koC o3), .u (koD o3), .u (koE o3), .u (koF o3), .i i]) ∧ 0 ≤ i ∧ i ≤ kl ∧ kl ≤ 100 ∧ 1 ≤ M.W.length ∧ M.fine ∧ fitsS a b n s = 0 ∧ n ≤ 20 ∧ o0.ok ∧ o1.ok ∧ o2.ok ∧ o3.ok
def lSS2 : LoopS U :=
  { fn := 7, rid := 10, nv := 34, tm := [(12, .int .i64 (.var 77))]
    hp := [(4, .abs 44), (5, rmC 45 6), (6, rmW 45), (7, .cells [.hnd 8, .hnd 9, .hnd 10, .hnd 11, .hnd 12, .hnd 13, .hnd 14, .hnd 15, .hnd 16, .hnd 17, .hnd 18, .hnd 19, .hnd 20, .hnd 21, .hnd 22, .hnd 23, .hnd 24, .hnd 25, .hnd 26, .hnd 27, .hnd 28, .hnd 29, .hnd 30, .hnd 31] 90), (8, .abs 53), (9, .abs 54), (10, .abs 55), (11, .abs 56), (12, .abs 57), (13, .abs 58), (14, .abs 59), (15, .abs 60), (16, .abs 61), (17, .abs 62), (18, .abs 63), (19, .abs 64), (20, .abs 65), (21, .abs 66), (22, .abs 67), (23, .abs 68), (24, .abs 69), (25, .abs 70), (26, .abs 71), (27, .abs 72), (28, .abs 73), (29, .abs 74), (30, .abs 75), (31, .abs 76)]
    reb := [(8, 10), (9, 12), (10, 17), (11, 19), (12, 24), (13, 26), (14, 10), (15, 12), (16, 17), (17, 19), (18, 24), (19, 26), (20, 10), (21, 12), (22, 17), (23, 19), (24, 24), (25, 26), (26, 10), (27, 12), (28, 17), (29, 19), (30, 24), (31, 26)], inv := ss2Inv, mu := fun env => (gI env 8 - gI env 77).toNat }
def cxKG (P : Program) : Cx U := { cx P ctsKG with loops := [lSS1, lSS2] }
end Go.Proofs.Ytdabdbbgaekmdaa
