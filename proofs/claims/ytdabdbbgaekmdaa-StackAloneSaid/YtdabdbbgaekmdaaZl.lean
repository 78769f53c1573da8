/- Stacks: alone each ends: the contract, its loops. -/
import Derived.Test.YtdabdbbgaekmdaaZd
namespace Go.Proofs.Ytdabdbbgaekmdaa
set_option linter.unusedVariables false
set_option linter.unusedSimpArgs false
set_option linter.unusedSectionVars false
open Go Go.RowKit

def alIns (o0 o1 o2 : CoreP) (H0 c0 H1 c1 H2 c2 : List Int) (y0 y1 y2 m0 m1 m2 q0 q1 q2 : Int) (sz : Int) (gl : Nat → Nat → Int) (kl : Nat) (cl p : Int) (x6 x7 x8 : EV U) (M : MemSt) (i : Int) : List (EV U) :=
  [.i sz, .f gl kl, .i kl, .i cl, .b true, .i p, x6, x7, x8, .u (.mem M), .u (cpA o0), .u (cpB o0), .u (cpC o0), .l (H0 ++ c0), .i H0.length, .i ((H0.length + c0.length : Nat) : Int), .i y0, .u (cpA o1), .u (cpB o1), .u (cpC o1), .l (H1 ++ c1), .i H1.length, .i ((H1.length + c1.length : Nat) : Int), .i y1, .u (cpA o2), .u (cpB o2), .u (cpC o2), .l (H2 ++ c2), .i H2.length, .i ((H2.length + c2.length : Nat) : Int), .i y2, .i m0, .i m1, .i m2, .i q0, .i q1, .i q2, .i i]
def alInv (env : List (EV U)) : Prop := ∃ o0 o1 o2, ∃ H0 c0 H1 c1 H2 c2 : List Int, ∃ y0 y1 y2 m0 m1 m2 q0 q1 q2 sz gl, ∃ kl : Nat, ∃ cl p x6 x7 x8 M i,
  env = alIns o0 o1 o2 H0 c0 H1 c1 H2 c2 y0 y1 y2 m0 m1 m2 q0 q1 q2 sz gl kl cl p x6 x7 x8 M i ∧ 0 ≤ i ∧ i ≤ kl ∧ kl ≤ 200 ∧ 0 ≤ p ∧ p < 12 ∧ SInv M 0 1 (1 + p) i ⟨o0, H0, y0⟩ ⟨o1, H1, y1⟩ ⟨o2, H2, y2⟩ ∧ abOk M 0 o0 m0 q0 i ∧ abOk M 0 o1 m1 q1 i ∧ abOk M 0 o2 m2 q2 i
def lAl : LoopS U :=
  { fn := 6, rid := 12, nv := 29, tm := [(12, .int .i64 (.var 37))]
    hp := [(2, .abs 9), (3, .cells [.hnd 6, .hnd 7, .hnd 8, .slice 9 (.var 14) (.var 15), .int .i64 (.var 16), .hnd 10, .hnd 11, .hnd 12, .slice 13 (.var 21) (.var 22), .int .i64 (.var 23), .hnd 14, .hnd 15, .hnd 16, .slice 17 (.var 28) (.var 29), .int .i64 (.var 30)] 69), (4, .cells [.int .i64 (.var 31), .int .i64 (.var 32), .int .i64 (.var 33)] 3), (5, .cells [.int .i64 (.var 34), .int .i64 (.var 35), .int .i64 (.var 36)] 3), (6, .abs 10), (7, .abs 11), (8, .abs 12), (9, .row .i64 3 13), (10, .abs 17), (11, .abs 18), (12, .abs 19), (13, .row .i64 3 20), (14, .abs 24), (15, .abs 25), (16, .abs 26), (17, .row .i64 3 27)]
    reb := [(6, 10), (7, 17), (8, 24), (9, 0), (10, 10), (11, 17), (12, 24), (13, 0), (14, 10), (15, 17), (16, 24), (17, 0)], inv := alInv, mu := fun env => (gI env 2 - gI env 37).toNat }
def alE0 (env : List (EV U)) : Prop := ∃ (o0 o1 o2 : CoreP) (H0 c0 H1 c1 H2 c2 : List Int) (y0 y1 y2 m0 m1 m2 q0 q1 q2 sz : Int) (gl : Nat → Nat → Int) (kl : Nat) (cl p : Int) (x6 x7 x8 : EV U) (N : MemSt) (i : Int) (M0 : MemSt) (e0 : CoreP) (G0 d0 : List Int) (k0 : Int) (kk : Int),
  env = alIns o0 o1 o2 H0 c0 H1 c1 H2 c2 y0 y1 y2 m0 m1 m2 q0 q1 q2 sz gl kl cl p x6 x7 x8 N i ++ [.u (.mem M0), .u (cpA e0), .u (cpB e0), .u (cpC e0), .l (G0 ++ d0), .i G0.length, .i ((G0.length + d0.length : Nat) : Int), .i y0, .i k0] ∧ 0 ≤ p ∧ p < 12 ∧ 0 ≤ k0 ∧ k0 + remC M0 0 e0 ≤ 5 ∧ kk ≤ 1000 + k0 ∧ SInv M0 0 1 (1 + p) kk ⟨e0, G0, y0⟩ ⟨o1, H1, y1⟩ ⟨o2, H2, y2⟩
def lAE0 : LoopS U :=
  { fn := 6, rid := 33, at_ := 38, nv := 9, tm := [(17, .int .i64 (.var 46))]
    hp := [(2, .abs 38), (3, .cells [.hnd 6, .hnd 7, .hnd 8, .slice 9 (.var 43) (.var 44), .int .i64 (.var 45), .hnd 10, .hnd 11, .hnd 12, .slice 13 (.var 21) (.var 22), .int .i64 (.var 23), .hnd 14, .hnd 15, .hnd 16, .slice 17 (.var 28) (.var 29), .int .i64 (.var 30)] 69), (6, .abs 39), (7, .abs 40), (8, .abs 41), (9, .row .i64 3 42)]
    reb := [(6, 10), (7, 17), (8, 24), (9, 0)], inv := alE0, mu := fun env => (5 - gI env 46).toNat }
def alE1 (env : List (EV U)) : Prop := ∃ (o0 o1 o2 : CoreP) (H0 c0 H1 c1 H2 c2 : List Int) (y0 y1 y2 m0 m1 m2 q0 q1 q2 sz : Int) (gl : Nat → Nat → Int) (kl : Nat) (cl p : Int) (x6 x7 x8 : EV U) (N : MemSt) (i : Int) (M0 : MemSt) (e0 : CoreP) (G0 d0 : List Int) (k0 : Int) (M1 : MemSt) (e1 : CoreP) (G1 d1 : List Int) (k1 : Int) (kk : Int),
  env = alIns o0 o1 o2 H0 c0 H1 c1 H2 c2 y0 y1 y2 m0 m1 m2 q0 q1 q2 sz gl kl cl p x6 x7 x8 N i ++ [.u (.mem M0), .u (cpA e0), .u (cpB e0), .u (cpC e0), .l (G0 ++ d0), .i G0.length, .i ((G0.length + d0.length : Nat) : Int), .i y0, .i k0] ++ [.u (.mem M1), .u (cpA e1), .u (cpB e1), .u (cpC e1), .l (G1 ++ d1), .i G1.length, .i ((G1.length + d1.length : Nat) : Int), .i y1, .i k1] ∧ 0 ≤ p ∧ p < 12 ∧ 0 ≤ k1 ∧ k1 + remC M1 0 e1 ≤ 5 ∧ kk ≤ 2000 + k1 ∧ SInv M1 0 1 (1 + p) kk ⟨e0, G0, y0⟩ ⟨e1, G1, y1⟩ ⟨o2, H2, y2⟩
def lAE1 : LoopS U :=
  { fn := 6, rid := 33, at_ := 47, nv := 9, tm := [(17, .int .i64 (.var 55))]
    hp := [(2, .abs 47), (3, .cells [.hnd 6, .hnd 7, .hnd 8, .slice 9 (.var 43) (.var 44), .int .i64 (.var 45), .hnd 10, .hnd 11, .hnd 12, .slice 13 (.var 52) (.var 53), .int .i64 (.var 54), .hnd 14, .hnd 15, .hnd 16, .slice 17 (.var 28) (.var 29), .int .i64 (.var 30)] 69), (10, .abs 48), (11, .abs 49), (12, .abs 50), (13, .row .i64 3 51)]
    reb := [(10, 10), (11, 17), (12, 24), (13, 0)], inv := alE1, mu := fun env => (5 - gI env 55).toNat }
def alE2 (env : List (EV U)) : Prop := ∃ (o0 o1 o2 : CoreP) (H0 c0 H1 c1 H2 c2 : List Int) (y0 y1 y2 m0 m1 m2 q0 q1 q2 sz : Int) (gl : Nat → Nat → Int) (kl : Nat) (cl p : Int) (x6 x7 x8 : EV U) (N : MemSt) (i : Int) (M0 : MemSt) (e0 : CoreP) (G0 d0 : List Int) (k0 : Int) (M1 : MemSt) (e1 : CoreP) (G1 d1 : List Int) (k1 : Int) (M2 : MemSt) (e2 : CoreP) (G2 d2 : List Int) (k2 : Int) (kk : Int),
  env = alIns o0 o1 o2 H0 c0 H1 c1 H2 c2 y0 y1 y2 m0 m1 m2 q0 q1 q2 sz gl kl cl p x6 x7 x8 N i ++ [.u (.mem M0), .u (cpA e0), .u (cpB e0), .u (cpC e0), .l (G0 ++ d0), .i G0.length, .i ((G0.length + d0.length : Nat) : Int), .i y0, .i k0] ++ [.u (.mem M1), .u (cpA e1), .u (cpB e1), .u (cpC e1), .l (G1 ++ d1), .i G1.length, .i ((G1.length + d1.length : Nat) : Int), .i y1, .i k1] ++ [.u (.mem M2), .u (cpA e2), .u (cpB e2), .u (cpC e2), .l (G2 ++ d2), .i G2.length, .i ((G2.length + d2.length : Nat) : Int), .i y2, .i k2] ∧ 0 ≤ p ∧ p < 12 ∧ 0 ≤ k2 ∧ k2 + remC M2 0 e2 ≤ 5 ∧ kk ≤ 3000 + k2 ∧ SInv M2 0 1 (1 + p) kk ⟨e0, G0, y0⟩ ⟨e1, G1, y1⟩ ⟨e2, G2, y2⟩
def lAE2 : LoopS U :=
  { fn := 6, rid := 33, at_ := 56, nv := 9, tm := [(17, .int .i64 (.var 64))]
    hp := [(2, .abs 56), (3, .cells [.hnd 6, .hnd 7, .hnd 8, .slice 9 (.var 43) (.var 44), .int .i64 (.var 45), .hnd 10, .hnd 11, .hnd 12, .slice 13 (.var 52) (.var 53), .int .i64 (.var 54), .hnd 14, .hnd 15, .hnd 16, .slice 17 (.var 61) (.var 62), .int .i64 (.var 63)] 69), (14, .abs 57), (15, .abs 58), (16, .abs 59), (17, .row .i64 3 60)]
    reb := [(14, 10), (15, 17), (16, 24), (17, 0)], inv := alE2, mu := fun env => (5 - gI env 64).toNat }
def cxAl (P : Program) : Cx U := { cxZ0 P with loops := [lAl, lAE0, lAE1, lAE2] }
end Go.Proofs.Ytdabdbbgaekmdaa
