import Derived.Test.YtdldcofddfkkbaaGreatMe
import Derived.Test.YtdldcofddfkkbaaGreatVd
import Derived.Test.YtdldcofddfkkbaaGreatXb
import Derived.Test.YtdldcofddfkkbaaGreatLt
import Derived.KernelRfl
/- The chapter's law beside the document: contracts (printed by gen_lm.py). -/
namespace Go.Proofs.YtdldcofddfkkbaaGreat
set_option linter.unusedVariables false
set_option linter.unusedSimpArgs false
set_option linter.unusedSectionVars false
open Go Go.RowKit

def actTs : List (Option IntKind) := [some .i64, some .i64, some .i64, some .i64]
def lsPre (ins : List (EV U)) : Prop := ∃ t ls s g wo lm ea ep ec tp z : Int, ∃ gi, ∃ ki : Nat, ∃ ci gl, ∃ kl : Nat, ∃ cl, ins = [.i t, .i ls, .i s, .i g, .i wo, .i lm, .i ea, .i ep, .i ec, .i tp, .i z, .f gi ki, .i ki, .i ci, .f gl kl, .i kl, .i cl] ∧ isI g ∧ isI tp ∧ (∀ j, j < ki → isW (gi j 0)) ∧ (∀ j, j < kl → isI (gl j 3))
def cLSteps : Ctr U :=
  { fn := 5, nin := 17, args := [limW 0, .int .i64 (.var 10), .slice 0 (.var 12) (.var 13), .slice 1 (.var 15) (.var 16)], heap := [.ro [some .u64] 11, .ro actTs 14]
    pre := lsPre, nout := 1, out := fun _ => [.b true], ret := .bool (.var 17), post := [.ro [some .u64] 11, .ro actTs 14] }
def ctsMg : List (Ctr U) := [cPick, cLFits, cDF13, cNew, cQNew, cLFill, cQLFill, cStore, cQStore, cRNew, cQRNew, cCNew, cQCNew, cBStep, cLast, cQLast, cCount, cQCount, cWords, cQWords, cSameWords, boolC 25]
def cxMg (P : Program) (l : List (LoopS U)) : Cx U := { cx P ctsMg with join := true, loops := l }
inductive OpSt where
  | no
  | ret (R : RetSt)
  | col (C : ColSt)
def oA : OpSt → U | .ret R => .ret R | _ => .retNil
def oB : OpSt → U | .ret R => .rret R | _ => .rretNil
def oC : OpSt → U | .col C => .col C | _ => .colNil
def oD : OpSt → U | .col C => .rcol C | _ => .rcolNil
def RetSt.ok (R : RetSt) : Prop := R.line = 9 ∨ 0 ≤ R.i ∧ R.i ≤ 65534
def ColSt.ok (C : ColSt) : Prop := C.x 2 ≤ 4096 ∧ (C.line = 0 → ¬ C.al = 0 → 0 ≤ C.p ∧ C.p < 4294967296) ∧ (C.line = 1 → ¬ C.ll = 1 → 0 ≤ idxW (C.x 2) C.lw) ∧ (C.line = 2 ∨ C.line = 3 → 0 ≤ C.i ∧ C.i ≤ 65534)
def oOk : OpSt → Prop | .no => True | .ret R => R.ok | .col C => C.ok
/-! loops -/
def ls1Inv (env : List (EV U)) : Prop := ∃ t ls s g wo lm ea ep ec tp z : Int, ∃ gi, ∃ ki : Nat, ∃ ci gl, ∃ kl : Nat, ∃ cl, ∃ x17 x18 x19 x20 x21 x22 x23 x24 x25 : EV U, ∃ M : MemSt, ∃ j : Int, env = [.i t, .i ls, .i s, .i g, .i wo, .i lm, .i ea, .i ep, .i ec, .i tp, .i z, .f gi ki, .i ki, .i ci, .f gl kl, .i kl, .i cl, x17, x18, x19, x20, x21, x22, x23, x24, x25, .u (.mem M), .u (.rmem M), .i j] ∧
  0 ≤ j ∧ j ≤ ki ∧ ki ≤ 80 ∧ kl ≤ 120 ∧ 1 ≤ M.W.length ∧ M.fine ∧ (1 ≤ s ∧ s ≤ 4096 ∧ ec ≤ 64 ∧ 0 ≤ lm ∧ lm ≤ 4294967295) ∧ (∀ j, j < ki → isW (gi j 0)) ∧ (∀ j, j < kl → isI (gl j 3))
def ls2Inv (env : List (EV U)) : Prop := ∃ t ls s g wo lm ea ep ec tp z : Int, ∃ gi, ∃ ki : Nat, ∃ ci gl, ∃ kl : Nat, ∃ cl, ∃ x17 x18 x19 x20 x21 x22 x23 x24 x25 x26 x27 x28 : EV U, ∃ M : MemSt, ∃ o0 o1 o2 o3 : OpSt, ∃ j : Int, env = [.i t, .i ls, .i s, .i g, .i wo, .i lm, .i ea, .i ep, .i ec, .i tp, .i z, .f gi ki, .i ki, .i ci, .f gl kl, .i kl, .i cl, x17, x18, x19, x20, x21, x22, x23, x24, x25, x26, x27, x28, .u (.mem M), .u (.rmem M), .u (oA o0), .u (oB o0), .u (oC o0), .u (oD o0), .u (oA o1), .u (oB o1), .u (oC o1), .u (oD o1), .u (oA o2), .u (oB o2), .u (oC o2), .u (oD o2), .u (oA o3), .u (oB o3), .u (oC o3), .u (oD o3), .i j] ∧
  0 ≤ j ∧ j ≤ kl ∧ kl ≤ 120 ∧ 1 ≤ M.W.length ∧ M.fine ∧ (1 ≤ s ∧ s ≤ 4096 ∧ ec ≤ 64 ∧ 0 ≤ lm ∧ lm ≤ 4294967295) ∧ (∀ j, j < kl → isI (gl j 3)) ∧ oOk o0 ∧ oOk o1 ∧ oOk o2 ∧ oOk o3
def lLS1 : LoopS U :=
  { fn := 32, rid := 8, nv := 3, tm := [(12, .int .i64 (.var 28))], hp := [(4, .abs 26), (5, .abs 27)], reb := [], inv := ls1Inv, mu := fun env => (gI env 12 - gI env 28).toNat }
def lLS2 : LoopS U :=
  { fn := 5, rid := 10, nv := 19, tm := [(12, .int .i64 (.var 47))]
    hp := [(4, .abs 29), (5, .abs 30), (6, .cells [.hnd 7, .hnd 8, .hnd 9, .hnd 10, .hnd 11, .hnd 12, .hnd 13, .hnd 14, .hnd 15, .hnd 16, .hnd 17, .hnd 18, .hnd 19, .hnd 20, .hnd 21, .hnd 22] 80), (7, .abs 31), (8, .abs 32), (9, .abs 33), (10, .abs 34), (11, .abs 35), (12, .abs 36), (13, .abs 37), (14, .abs 38), (15, .abs 39), (16, .abs 40), (17, .abs 41), (18, .abs 42), (19, .abs 43), (20, .abs 44), (21, .abs 45), (22, .abs 46)]
    reb := [(7, 11), (8, 15), (9, 31), (10, 35), (11, 11), (12, 15), (13, 31), (14, 35), (15, 11), (16, 15), (17, 31), (18, 35), (19, 11), (20, 15), (21, 31), (22, 35)], inv := ls2Inv, mu := fun env => (gI env 15 - gI env 47).toNat }
end Go.Proofs.YtdldcofddfkkbaaGreat
/- The ways of the runs, as a program of ours printed them. -/
namespace Go.Proofs.YtdldcofddfkkbaaGreat
set_option linter.unusedVariables false
set_option linter.unusedSimpArgs false
set_option linter.unusedSectionVars false
open Go
set_option maxRecDepth 100000

def hsLSteps : List (Nat × Nat × List Nat) := []
def tLStepsL0 : Tree := (.need (.cmp .leq (.lit 0) (.var 15)) (.br (.cmp .lss (.var 47) (.var 15))
 (.need (.cmp .leq (.lit 0) (.var 47)) (.need (.cmp .lss (.var 47) (.var 15)) (.need (.cmp .lss (.var 47) (.nrow 14)) (.need (.cmp .leq (.lit 0) (.var 47)) (.need (.cmp .lss (.var 47) (.nrow 14)) (.call 0 [.ex (.fld 14 (.var 47) 0), .ex (.lit 4)] (.need (.cmp .leq (.lit 0) (.var 47)) (.need (.cmp .lss (.var 47) (.var 15)) (.need (.cmp .lss (.var 47) (.nrow 14)) (.need (.cmp .leq (.lit 0) (.var 47)) (.need (.cmp .lss (.var 47) (.nrow 14)) (.br (.cmp .eql (.fld 14 (.var 47) 1) (.lit 0))
 (.br (.cmp .eql (.var 48) (.lit 0))
 (.call 13 [.var 31, .var 32, .var 33, .var 34, .var 29, .var 30] (.br (.var 55)
 (.call 18 [.var 53] (.callm 19 [.var 54] (.call 20 (.var 57 :: .var 60 :: va [58, 58, 61, 62] []) (.br (.var 63)
 (.call 14 [.var 56] (.call 15 [.var 59] (.br (.and (.cmp .eql (.var 65) (.var 71)) (.and (.cmp .eql (.var 66) (.var 72)) (.and (.cmp .eql (.var 67) (.var 73)) (.and (.cmp .eql (.var 68) (.var 74)) (.beq (.var 69) (.var 75))))))
 (.call 16 [.var 64] (.call 17 [.var 70] (.br (.cmp .eql (.var 77) (.var 79))
 (.back 1 29 [.var 76, .var 78, .var 49, .var 50, .var 51, .var 52, .var 35, .var 36, .var 37, .var 38, .var 39, .var 40, .var 41, .var 42, .var 43, .var 44, .var 45, .var 46, .ex (.bin .add .i64 (.var 47) (.lit 1))])
 (.ret [.bx (.lit false)]))))
 (.ret [.bx (.lit false)]))))
 (.ret [.bx (.lit false)])))))
 (.ret [.bx (.lit false)])))
 (.br (.cmp .eql (.var 48) (.lit 1))
 (.call 13 [.var 35, .var 36, .var 37, .var 38, .var 29, .var 30] (.br (.var 55)
 (.call 18 [.var 53] (.callm 19 [.var 54] (.call 20 (.var 57 :: .var 60 :: va [58, 58, 61, 62] []) (.br (.var 63)
 (.call 14 [.var 56] (.call 15 [.var 59] (.br (.and (.cmp .eql (.var 65) (.var 71)) (.and (.cmp .eql (.var 66) (.var 72)) (.and (.cmp .eql (.var 67) (.var 73)) (.and (.cmp .eql (.var 68) (.var 74)) (.beq (.var 69) (.var 75))))))
 (.call 16 [.var 64] (.call 17 [.var 70] (.br (.cmp .eql (.var 77) (.var 79))
 (.back 1 29 [.var 76, .var 78, .var 31, .var 32, .var 33, .var 34, .var 49, .var 50, .var 51, .var 52, .var 39, .var 40, .var 41, .var 42, .var 43, .var 44, .var 45, .var 46, .ex (.bin .add .i64 (.var 47) (.lit 1))])
 (.ret [.bx (.lit false)]))))
 (.ret [.bx (.lit false)]))))
 (.ret [.bx (.lit false)])))))
 (.ret [.bx (.lit false)])))
 (.br (.cmp .eql (.var 48) (.lit 2))
 (.call 13 [.var 39, .var 40, .var 41, .var 42, .var 29, .var 30] (.br (.var 55)
 (.call 18 [.var 53] (.callm 19 [.var 54] (.call 20 (.var 57 :: .var 60 :: va [58, 58, 61, 62] []) (.br (.var 63)
 (.call 14 [.var 56] (.call 15 [.var 59] (.br (.and (.cmp .eql (.var 65) (.var 71)) (.and (.cmp .eql (.var 66) (.var 72)) (.and (.cmp .eql (.var 67) (.var 73)) (.and (.cmp .eql (.var 68) (.var 74)) (.beq (.var 69) (.var 75))))))
 (.call 16 [.var 64] (.call 17 [.var 70] (.br (.cmp .eql (.var 77) (.var 79))
 (.back 1 29 [.var 76, .var 78, .var 31, .var 32, .var 33, .var 34, .var 35, .var 36, .var 37, .var 38, .var 49, .var 50, .var 51, .var 52, .var 43, .var 44, .var 45, .var 46, .ex (.bin .add .i64 (.var 47) (.lit 1))])
 (.ret [.bx (.lit false)]))))
 (.ret [.bx (.lit false)]))))
 (.ret [.bx (.lit false)])))))
 (.ret [.bx (.lit false)])))
 (.br (.cmp .eql (.var 48) (.lit 3))
 (.call 13 [.var 43, .var 44, .var 45, .var 46, .var 29, .var 30] (.br (.var 55)
 (.call 18 [.var 53] (.callm 19 [.var 54] (.call 20 (.var 57 :: .var 60 :: va [58, 58, 61, 62] []) (.br (.var 63)
 (.call 14 [.var 56] (.call 15 [.var 59] (.br (.and (.cmp .eql (.var 65) (.var 71)) (.and (.cmp .eql (.var 66) (.var 72)) (.and (.cmp .eql (.var 67) (.var 73)) (.and (.cmp .eql (.var 68) (.var 74)) (.beq (.var 69) (.var 75))))))
 (.call 16 [.var 64] (.call 17 [.var 70] (.br (.cmp .eql (.var 77) (.var 79))
 (.back 1 29 [.var 76, .var 78, .var 31, .var 32, .var 33, .var 34, .var 35, .var 36, .var 37, .var 38, .var 39, .var 40, .var 41, .var 42, .var 49, .var 50, .var 51, .var 52, .ex (.bin .add .i64 (.var 47) (.lit 1))])
 (.ret [.bx (.lit false)]))))
 (.ret [.bx (.lit false)]))))
 (.ret [.bx (.lit false)])))))
 (.ret [.bx (.lit false)])))
 (.need (.lit false) .ok)))))
 (.br (.cmp .eql (.fld 14 (.var 47) 1) (.lit 1))
 (.need (.cmp .leq (.lit 0) (.var 47)) (.need (.cmp .lss (.var 47) (.var 15)) (.need (.cmp .lss (.var 47) (.nrow 14)) (.need (.cmp .leq (.lit 0) (.var 47)) (.need (.cmp .lss (.var 47) (.nrow 14)) (.and (.and (.call 9 (va [0, 1, 2, 3, 4, 5, 6, 7, 8, 9] ([.ex (.fld 14 (.var 47) 2)])) (.and (.call 10 (va [0, 1, 2, 3, 4, 5, 6, 7, 8, 9] ([.ex (.fld 14 (.var 47) 2)])) (.and (.and (.br (.cmp .eql (.var 48) (.lit 0))
 (.and (.call 18 [.var 29] (.callm 19 [.var 30] (.call 20 (.var 52 :: .var 55 :: va [53, 53, 56, 57] []) (.br (.var 58)
 (.call 14 [.var 51] (.call 15 [.var 54] (.br (.and (.cmp .eql (.var 60) (.var 66)) (.and (.cmp .eql (.var 61) (.var 67)) (.and (.cmp .eql (.var 62) (.var 68)) (.and (.cmp .eql (.var 63) (.var 69)) (.beq (.var 64) (.var 70))))))
 (.call 16 [.var 59] (.call 17 [.var 65] (.br (.cmp .eql (.var 72) (.var 74))
 (.ext (.mk 31 []) (.ext (.mk 35 []) (.back 1 29 [.var 71, .var 73, .var 49, .var 50, .var 75, .var 76, .var 35, .var 36, .var 37, .var 38, .var 39, .var 40, .var 41, .var 42, .var 43, .var 44, .var 45, .var 46, .ex (.bin .add .i64 (.var 47) (.lit 1))])))
 (.ret [.bx (.lit false)]))))
 (.ret [.bx (.lit false)]))))
 (.ret [.bx (.lit false)]))))) .ok)
 (.br (.cmp .eql (.var 48) (.lit 1))
 (.and (.call 18 [.var 29] (.callm 19 [.var 30] (.call 20 (.var 52 :: .var 55 :: va [53, 53, 56, 57] []) (.br (.var 58)
 (.call 14 [.var 51] (.call 15 [.var 54] (.br (.and (.cmp .eql (.var 60) (.var 66)) (.and (.cmp .eql (.var 61) (.var 67)) (.and (.cmp .eql (.var 62) (.var 68)) (.and (.cmp .eql (.var 63) (.var 69)) (.beq (.var 64) (.var 70))))))
 (.call 16 [.var 59] (.call 17 [.var 65] (.br (.cmp .eql (.var 72) (.var 74))
 (.ext (.mk 31 []) (.ext (.mk 35 []) (.back 1 29 [.var 71, .var 73, .var 31, .var 32, .var 33, .var 34, .var 49, .var 50, .var 75, .var 76, .var 39, .var 40, .var 41, .var 42, .var 43, .var 44, .var 45, .var 46, .ex (.bin .add .i64 (.var 47) (.lit 1))])))
 (.ret [.bx (.lit false)]))))
 (.ret [.bx (.lit false)]))))
 (.ret [.bx (.lit false)]))))) .ok)
 (.br (.cmp .eql (.var 48) (.lit 2))
 (.and (.call 18 [.var 29] (.callm 19 [.var 30] (.call 20 (.var 52 :: .var 55 :: va [53, 53, 56, 57] []) (.br (.var 58)
 (.call 14 [.var 51] (.call 15 [.var 54] (.br (.and (.cmp .eql (.var 60) (.var 66)) (.and (.cmp .eql (.var 61) (.var 67)) (.and (.cmp .eql (.var 62) (.var 68)) (.and (.cmp .eql (.var 63) (.var 69)) (.beq (.var 64) (.var 70))))))
 (.call 16 [.var 59] (.call 17 [.var 65] (.br (.cmp .eql (.var 72) (.var 74))
 (.ext (.mk 31 []) (.ext (.mk 35 []) (.back 1 29 [.var 71, .var 73, .var 31, .var 32, .var 33, .var 34, .var 35, .var 36, .var 37, .var 38, .var 49, .var 50, .var 75, .var 76, .var 43, .var 44, .var 45, .var 46, .ex (.bin .add .i64 (.var 47) (.lit 1))])))
 (.ret [.bx (.lit false)]))))
 (.ret [.bx (.lit false)]))))
 (.ret [.bx (.lit false)]))))) .ok)
 (.br (.cmp .eql (.var 48) (.lit 3))
 (.and (.call 18 [.var 29] (.callm 19 [.var 30] (.call 20 (.var 52 :: .var 55 :: va [53, 53, 56, 57] []) (.br (.var 58)
 (.call 14 [.var 51] (.call 15 [.var 54] (.br (.and (.cmp .eql (.var 60) (.var 66)) (.and (.cmp .eql (.var 61) (.var 67)) (.and (.cmp .eql (.var 62) (.var 68)) (.and (.cmp .eql (.var 63) (.var 69)) (.beq (.var 64) (.var 70))))))
 (.call 16 [.var 59] (.call 17 [.var 65] (.br (.cmp .eql (.var 72) (.var 74))
 (.ext (.mk 31 []) (.ext (.mk 35 []) (.back 1 29 [.var 71, .var 73, .var 31, .var 32, .var 33, .var 34, .var 35, .var 36, .var 37, .var 38, .var 39, .var 40, .var 41, .var 42, .var 49, .var 50, .var 75, .var 76, .ex (.bin .add .i64 (.var 47) (.lit 1))])))
 (.ret [.bx (.lit false)]))))
 (.ret [.bx (.lit false)]))))
 (.ret [.bx (.lit false)]))))) .ok)
 (.need (.lit false) .ok))))) .ok) .ok)) .ok)) .ok) .ok))))))
 (.br (.cmp .eql (.fld 14 (.var 47) 1) (.lit 2))
 (.need (.cmp .leq (.lit 0) (.var 47)) (.need (.cmp .lss (.var 47) (.var 15)) (.need (.cmp .lss (.var 47) (.nrow 14)) (.need (.cmp .leq (.lit 0) (.var 47)) (.need (.cmp .lss (.var 47) (.nrow 14)) (.and (.and (.call 11 (va [0, 1, 2, 3, 4, 5, 6, 7, 8, 9] ([.ex (.fld 14 (.var 47) 0), .ex (.fld 14 (.var 47) 3)])) (.and (.call 12 (va [0, 1, 2, 3, 4, 5, 6, 7, 8, 9] ([.ex (.fld 14 (.var 47) 0), .ex (.fld 14 (.var 47) 3)])) (.and (.and (.br (.cmp .eql (.var 48) (.lit 0))
 (.and (.call 18 [.var 29] (.callm 19 [.var 30] (.call 20 (.var 52 :: .var 55 :: va [53, 53, 56, 57] []) (.br (.var 58)
 (.call 14 [.var 51] (.call 15 [.var 54] (.br (.and (.cmp .eql (.var 60) (.var 66)) (.and (.cmp .eql (.var 61) (.var 67)) (.and (.cmp .eql (.var 62) (.var 68)) (.and (.cmp .eql (.var 63) (.var 69)) (.beq (.var 64) (.var 70))))))
 (.call 16 [.var 59] (.call 17 [.var 65] (.br (.cmp .eql (.var 72) (.var 74))
 (.ext (.mk 11 []) (.ext (.mk 15 []) (.back 1 29 [.var 71, .var 73, .var 75, .var 76, .var 49, .var 50, .var 35, .var 36, .var 37, .var 38, .var 39, .var 40, .var 41, .var 42, .var 43, .var 44, .var 45, .var 46, .ex (.bin .add .i64 (.var 47) (.lit 1))])))
 (.ret [.bx (.lit false)]))))
 (.ret [.bx (.lit false)]))))
 (.ret [.bx (.lit false)]))))) .ok)
 (.br (.cmp .eql (.var 48) (.lit 1))
 (.and (.call 18 [.var 29] (.callm 19 [.var 30] (.call 20 (.var 52 :: .var 55 :: va [53, 53, 56, 57] []) (.br (.var 58)
 (.call 14 [.var 51] (.call 15 [.var 54] (.br (.and (.cmp .eql (.var 60) (.var 66)) (.and (.cmp .eql (.var 61) (.var 67)) (.and (.cmp .eql (.var 62) (.var 68)) (.and (.cmp .eql (.var 63) (.var 69)) (.beq (.var 64) (.var 70))))))
 (.call 16 [.var 59] (.call 17 [.var 65] (.br (.cmp .eql (.var 72) (.var 74))
 (.ext (.mk 11 []) (.ext (.mk 15 []) (.back 1 29 [.var 71, .var 73, .var 31, .var 32, .var 33, .var 34, .var 75, .var 76, .var 49, .var 50, .var 39, .var 40, .var 41, .var 42, .var 43, .var 44, .var 45, .var 46, .ex (.bin .add .i64 (.var 47) (.lit 1))])))
 (.ret [.bx (.lit false)]))))
 (.ret [.bx (.lit false)]))))
 (.ret [.bx (.lit false)]))))) .ok)
 (.br (.cmp .eql (.var 48) (.lit 2))
 (.and (.call 18 [.var 29] (.callm 19 [.var 30] (.call 20 (.var 52 :: .var 55 :: va [53, 53, 56, 57] []) (.br (.var 58)
 (.call 14 [.var 51] (.call 15 [.var 54] (.br (.and (.cmp .eql (.var 60) (.var 66)) (.and (.cmp .eql (.var 61) (.var 67)) (.and (.cmp .eql (.var 62) (.var 68)) (.and (.cmp .eql (.var 63) (.var 69)) (.beq (.var 64) (.var 70))))))
 (.call 16 [.var 59] (.call 17 [.var 65] (.br (.cmp .eql (.var 72) (.var 74))
 (.ext (.mk 11 []) (.ext (.mk 15 []) (.back 1 29 [.var 71, .var 73, .var 31, .var 32, .var 33, .var 34, .var 35, .var 36, .var 37, .var 38, .var 75, .var 76, .var 49, .var 50, .var 43, .var 44, .var 45, .var 46, .ex (.bin .add .i64 (.var 47) (.lit 1))])))
 (.ret [.bx (.lit false)]))))
 (.ret [.bx (.lit false)]))))
 (.ret [.bx (.lit false)]))))) .ok)
 (.br (.cmp .eql (.var 48) (.lit 3))
 (.and (.call 18 [.var 29] (.callm 19 [.var 30] (.call 20 (.var 52 :: .var 55 :: va [53, 53, 56, 57] []) (.br (.var 58)
 (.call 14 [.var 51] (.call 15 [.var 54] (.br (.and (.cmp .eql (.var 60) (.var 66)) (.and (.cmp .eql (.var 61) (.var 67)) (.and (.cmp .eql (.var 62) (.var 68)) (.and (.cmp .eql (.var 63) (.var 69)) (.beq (.var 64) (.var 70))))))
 (.call 16 [.var 59] (.call 17 [.var 65] (.br (.cmp .eql (.var 72) (.var 74))
 (.ext (.mk 11 []) (.ext (.mk 15 []) (.back 1 29 [.var 71, .var 73, .var 31, .var 32, .var 33, .var 34, .var 35, .var 36, .var 37, .var 38, .var 39, .var 40, .var 41, .var 42, .var 75, .var 76, .var 49, .var 50, .ex (.bin .add .i64 (.var 47) (.lit 1))])))
 (.ret [.bx (.lit false)]))))
 (.ret [.bx (.lit false)]))))
 (.ret [.bx (.lit false)]))))) .ok)
 (.need (.lit false) .ok))))) .ok) .ok)) .ok)) .ok) .ok))))))
 (.call 18 [.var 29] (.callm 19 [.var 30] (.call 20 (.var 50 :: .var 53 :: va [51, 51, 54, 55] []) (.br (.var 56)
 (.call 14 [.var 49] (.call 15 [.var 52] (.br (.and (.cmp .eql (.var 58) (.var 64)) (.and (.cmp .eql (.var 59) (.var 65)) (.and (.cmp .eql (.var 60) (.var 66)) (.and (.cmp .eql (.var 61) (.var 67)) (.beq (.var 62) (.var 68))))))
 (.call 16 [.var 57] (.call 17 [.var 63] (.br (.cmp .eql (.var 70) (.var 72))
 (.back 1 29 [.var 69, .var 71, .var 31, .var 32, .var 33, .var 34, .var 35, .var 36, .var 37, .var 38, .var 39, .var 40, .var 41, .var 42, .var 43, .var 44, .var 45, .var 46, .ex (.bin .add .i64 (.var 47) (.lit 1))])
 (.ret [.bx (.lit false)]))))
 (.ret [.bx (.lit false)]))))
 (.ret [.bx (.lit false)])))))))))))))))))))
 (.call 21 [] (.ret [.bx (.var 48)]))))
def tLStepsL1 : Tree := (.need (.cmp .leq (.lit 0) (.var 12)) (.br (.cmp .lss (.var 28) (.var 12))
 (.need (.cmp .leq (.lit 0) (.var 28)) (.need (.cmp .lss (.var 28) (.var 12)) (.need (.cmp .lss (.var 28) (.nrow 11)) (.need (.cmp .leq (.lit 0) (.var 28)) (.need (.cmp .lss (.var 28) (.nrow 11)) (.call 7 [.var 26, .ex (.var 28), .ex (.fld 11 (.var 28) 0)] (.need (.cmp .leq (.lit 0) (.var 28)) (.need (.cmp .lss (.var 28) (.var 12)) (.need (.cmp .lss (.var 28) (.nrow 11)) (.need (.cmp .leq (.lit 0) (.var 28)) (.need (.cmp .lss (.var 28) (.nrow 11)) (.call 8 [.var 27, .ex (.var 28), .ex (.fld 11 (.var 28) 0)] (.back 0 26 [.var 29, .var 30, .ex (.bin .add .i64 (.var 28) (.lit 1))])))))))))))))
 (.br (.isnil 26)
 (.ret [.bx (.lit false)])
 (.ext (.mk 11 []) (.ext (.mk 15 []) (.ext (.mk 31 []) (.ext (.mk 35 []) (.ext (.mk 11 []) (.ext (.mk 15 []) (.ext (.mk 31 []) (.ext (.mk 35 []) (.ext (.mk 11 []) (.ext (.mk 15 []) (.ext (.mk 31 []) (.ext (.mk 35 []) (.ext (.mk 11 []) (.ext (.mk 15 []) (.ext (.mk 31 []) (.ext (.mk 35 []) (.loop 1 29 [.var 26, .var 27, .var 29, .var 30, .var 31, .var 32, .var 33, .var 34, .var 35, .var 36, .var 37, .var 38, .var 39, .var 40, .var 41, .var 42, .var 43, .var 44, .ex (.lit 0)] tLStepsL0))))))))))))))))))))
def tLSteps : Tree := (.and (.call 1 (va [0, 1, 2, 3, 4, 5, 6, 7, 8, 9, 10] []) (.and (.call 2 (va [0, 1, 2, 3, 4, 5, 6, 7, 8, 9, 10] []) (.br (.cmp .eql (.var 17) (.var 18))
 (.call 2 (va [0, 1, 2, 3, 4, 5, 6, 7, 8, 9, 10] []) (.br (.cmp .eql (.var 19) (.lit 0))
 (.br (.cmp .gtr (.var 2) (.lit 12))
 (.call 21 [] (.ret [.bx (.var 20)]))
 (.br (.cmp .gtr (.var 8) (.lit 4))
 (.call 21 [] (.ret [.bx (.var 20)]))
 (.br (.cmp .gtr (.var 10) (.lit 80))
 (.call 21 [] (.ret [.bx (.var 20)]))
 (.need (.cmp .leq (.lit 0) (.var 12)) (.br (.cmp .gtr (.var 12) (.lit 80))
 (.call 21 [] (.ret [.bx (.var 20)]))
 (.need (.cmp .leq (.lit 0) (.var 15)) (.br (.cmp .gtr (.var 15) (.lit 120))
 (.call 21 [] (.ret [.bx (.var 20)]))
 (.call 3 [.ex (.var 10)] (.call 4 [.ex (.var 10)] (.br (.cmp .eql (.var 21) (.lit 0))
 (.br (.cmp .eql (.var 23) (.lit 0))
 (.br (.isnil 20)
 (.ret [.bx (.lit false)])
 (.call 5 (.var 20 :: va [0, 1, 2, 3, 4, 5, 6, 7, 8, 9] []) (.call 6 (.var 22 :: va [0, 1, 2, 3, 4, 5, 6, 7, 8, 9] []) (.loop 0 26 [.var 24, .var 25, .ex (.lit 0)] tLStepsL1))))
 (.ret [.bx (.lit false)]))
 (.ret [.bx (.lit false)])))))))))))
 (.call 21 [] (.ret [.bx (.var 20)]))))
 (.ret [.bx (.lit false)]))) .ok)) .ok)
theorem rLSteps : runCtr { (cxMg Tryz.prog [lLS1, lLS2]) with hints := hsLSteps } 20 cLSteps [] [] = tLSteps := by
  dsimp only [tLStepsL0, tLSteps, va, List.map_cons, List.map_nil, List.cons_append, List.nil_append]
  kernel_rfl

end Go.Proofs.YtdldcofddfkkbaaGreat
/- The law of limbos beside the document: what the contracts say (printed by gen_lm.py). -/
namespace Go.Proofs.YtdldcofddfkkbaaGreat
set_option linter.unusedVariables false
set_option linter.unusedSimpArgs false
set_option linter.unusedSectionVars false
open Go Go.RowKit

theorem topW_isW {i w : Int} (h : -1 ≤ i) (h1 : i ≤ 65534) : isW (topW i w) := by
  unfold topW
  exact ⟨by omega, by omega⟩
theorem idxW_lo' (s w : Int) : -1 ≤ idxW s w ∧ idxW s w ≤ 65534 := by
  unfold idxW; split <;> omega
theorem ret_ok {R : RetSt} {M : MemSt} (h : R.ok) : (R.step M).1.ok := by
  unfold RetSt.step
  split
  · rename_i e; exact .inr (h.resolve_left (by rw [e]; decide))
  · split
    · rename_i e
      have h' := h.resolve_left (by rw [e]; decide)
      split
      · exact .inr h'
      · split
        · exact .inr h'
        · show RetSt.ok (if _ then _ else _)
          split
          · exact .inl rfl
          · exact .inr h'
    · exact h
theorem ret_fine {R : RetSt} {M : MemSt} (h : R.ok) (hM : M.fine) : (R.step M).2.fine := by
  unfold RetSt.step
  split
  · exact fine_load hM _
  · split
    · rename_i e
      have h' := h.resolve_left (by rw [e]; decide)
      split
      · exact fine_load hM _
      · rename_i e1
        split
        · have := idxW_lo' (R.x 2) R.w
          exact fine_store hM ⟨by omega, by omega⟩
        · exact fine_cas hM (topW_isW (by omega) h'.2)
    · exact hM
theorem ret_len {R : RetSt} {M : MemSt} : (R.step M).2.W.length = M.W.length := by
  unfold RetSt.step
  split
  · exact len_load _ _
  · split
    · split
      · exact len_load _ _
      · split
        · exact len_store _ _ _
        · exact len_cas _ _ _ _
    · rfl
theorem col_len {C : ColSt} {M : MemSt} : (C.step M).2.W.length = M.W.length := by
  unfold ColSt.step
  repeat' split
  all_goals first | exact len_load _ _ | exact len_store _ _ _ | exact len_cas _ _ _ _ | exact len_add _ _ _ | rfl
theorem isW_u64 (x : Int) : isW (IntKind.u64.wrap x) := ⟨wrap64_lo _, by simp [IntKind.wrap, IntKind.signed, IntKind.bits]; omega⟩
theorem col_fine {C : ColSt} {M : MemSt} (h : C.ok) (hM : M.fine) : (C.step M).2.fine := by
  obtain ⟨h1, h2, h3, h4⟩ := h
  unfold ColSt.step
  split
  · rename_i e0
    split
    · exact fine_load hM _
    · rename_i e1
      split
      · exact fine_load hM _
      · have := h2 e0 e1
        exact fine_cas hM ⟨by omega, by omega⟩
  · split
    · split
      · exact fine_load hM _
      · exact fine_cas hM (topW_isW (by omega) (by omega))
    · split
      · exact fine_load hM _
      · split
        · rename_i e3
          have := h4 (.inr e3)
          split
          · exact fine_load hM _
          · split
            · exact fine_store hM (isW_u64 _)
            · split
              · split
                · exact fine_load hM _
                · split
                  · have := idxW_lo' (C.x 2) C.pw
                    exact fine_store hM ⟨by omega, by omega⟩
                  · exact fine_cas hM (topW_isW (by omega) (by omega))
              · exact fine_add hM _ _
        · exact hM
theorem ended_ok {l : List Int} {n e : Int} (h : l[2]?.getD 0 ≤ 4096) : (ColSt.ended l n e).ok := ⟨h, fun e => absurd e (by show ¬ (9 : Int) = 0; decide), fun e => absurd e (by show ¬ (9 : Int) = 1; decide), fun e => absurd e (by show ¬ ((9 : Int) = 2 ∨ (9 : Int) = 3); decide)⟩
theorem zero_ok {l : List Int} {c p al aw an av : Int} (h : l[2]?.getD 0 ≤ 4096) (hp : ¬ al = 0 → 0 ≤ p ∧ p < 4294967296) : (ColSt.mk l 0 c p al aw an av 0 0 0 0 0 0 0 0 0 0).ok := ⟨h, fun _ => hp, fun e => absurd e (by show ¬ (0 : Int) = 1; decide), fun e => absurd e (by show ¬ ((0 : Int) = 2 ∨ (0 : Int) = 3); decide)⟩
theorem all_ok {C : ColSt} {ll lw : Int} (h : C.x 2 ≤ 4096) (hp : ¬ ll = 1 → 0 ≤ idxW (C.x 2) lw) : (C.all ll lw).ok := ⟨h, fun e => absurd e (by show ¬ (1 : Int) = 0; decide), fun _ => hp, fun e => absurd e (by show ¬ ((1 : Int) = 2 ∨ (1 : Int) = 3); decide)⟩
theorem link_ok {C : ColSt} {i n : Int} (h : C.x 2 ≤ 4096) (hp : 0 ≤ i ∧ i ≤ 65534) : (C.link i n).ok := ⟨h, fun e => absurd e (by show ¬ (2 : Int) = 0; decide), fun e => absurd e (by show ¬ (2 : Int) = 1; decide), fun _ => hp⟩
theorem free_ok {C : ColSt} {nx fl fg pl pw : Int} (h : C.x 2 ≤ 4096) (hp : 0 ≤ C.i ∧ C.i ≤ 65534) : (C.free nx fl fg pl pw).ok := ⟨h, fun e => absurd e (by show ¬ (3 : Int) = 0; decide), fun e => absurd e (by show ¬ (3 : Int) = 1; decide), fun _ => hp⟩
theorem turn_ok {C : ColSt} {w f : Int} (h : C.x 2 ≤ 4096) (hp : 0 ≤ C.p ∧ C.p < 4294967296) : (C.turn w f).ok := by
  unfold ColSt.turn
  split <;> exact zero_ok h (fun _ => hp)
theorem freed_ok {C : ColSt} (h : C.x 2 ≤ 4096) : C.freed.ok := by
  unfold ColSt.freed
  split
  · exact ended_ok h
  · exact link_ok h ⟨by omega, by omega⟩
theorem col_ok {C : ColSt} {M : MemSt} (h : C.ok) : (C.step M).1.ok := by
  have hC := h
  obtain ⟨h1, h2, h3, h4⟩ := h
  unfold ColSt.step
  split
  · rename_i e0
    split
    · show ColSt.ok (if _ then _ else _)
      split
      · rename_i e2
        exact turn_ok h1 ⟨by omega, by omega⟩
      · exact ended_ok h1
    · rename_i e1
      have hp := h2 e0 e1
      split
      · show ColSt.ok (if _ then _ else _)
        split
        · exact turn_ok h1 hp
        · exact ended_ok h1
      · show ColSt.ok (if _ then _ else _)
        split
        · exact all_ok h1 (fun e => absurd rfl e)
        · exact ended_ok h1
  · split
    · rename_i e1
      split
      · show ColSt.ok (if _ then _ else _)
        split
        · exact ended_ok h1
        · exact all_ok h1 (fun _ => by omega)
      · rename_i e2
        have := h3 e1 e2
        show ColSt.ok (if _ then _ else _)
        split
        · exact link_ok h1 ⟨this, (idxW_lo' _ _).2⟩
        · exact all_ok h1 (fun e => absurd rfl e)
    · split
      · rename_i e2
        exact free_ok h1 (h4 (.inl e2))
      · split
        · rename_i e3
          have hi := h4 (.inr e3)
          split
          · show ColSt.ok (if _ then _ else _)
            split <;> exact free_ok h1 hi
          · split
            · exact free_ok h1 hi
            · split
              · split
                · exact free_ok h1 hi
                · split
                  · exact free_ok h1 hi
                  · show ColSt.ok (if _ then _ else _)
                    split
                    · exact freed_ok h1
                    · exact free_ok h1 hi
              · exact freed_ok h1
        · exact hC
theorem rnew_ok {l : List Int} {s i : Int} (h : s ≤ 4096) : (RetSt.new l s i).ok := by
  unfold RetSt.new
  split
  · exact .inl rfl
  · exact .inr ⟨by show 0 ≤ i; omega, by show i ≤ 65534; omega⟩
theorem cnew_okk {l : List Int} {ec tp c p : Int} (h : l[2]?.getD 0 ≤ 4096) : (ColSt.new l ec tp c p).ok := by
  unfold ColSt.new
  split
  · exact ended_ok h
  · exact zero_ok h (fun e => absurd rfl e)
theorem pick4 {x : Int} : x.emod 4 = 0 ∨ x.emod 4 = 1 ∨ x.emod 4 = 2 ∨ x.emod 4 = 3 := by
  have := Int.emod_nonneg x (show (4 : Int) ≠ 0 by decide)
  have := Int.emod_lt_of_pos x (show (0 : Int) < 4 by decide)
  show x % 4 = 0 ∨ x % 4 = 1 ∨ x % 4 = 2 ∨ x % 4 = 3
  omega
end Go.Proofs.YtdldcofddfkkbaaGreat
