import Derived.Test.YtbmbiiiacajolaaGreatYcM
import Derived.Test.YtbmbiiiacajolaaGreatVd
import Derived.Test.YtbmbiiiacajolaaGreatPg
import Derived.Test.YtbmbiiiacajolaaGreatLt
import Derived.KernelRfl
/- The chapter's law beside the document: contracts. -/
namespace Go.Proofs.YtbmbiiiacajolaaGreat
set_option linter.unusedVariables false
set_option linter.unusedSimpArgs false
set_option linter.unusedSectionVars false
open Go

def actTs : List (Option IntKind) := [some .i64, some .i64, some .u64, some .u64, some .i64, some .i64]
def tsPre (ins : List (EV U)) : Prop := ∃ a0 a1 a2 a3 a4 a5 a6 a7 a8 a9 a10 a11 a12 s : Int, ∃ gi, ∃ ki : Nat, ∃ ci gl, ∃ kl : Nat, ∃ cl vi vl, ins = [.i a0, .i a1, .i a2, .i a3, .i a4, .i a5, .i a6, .i a7, .i a8, .i a9, .i a10, .i a11, .i a12, .i s, .f gi ki, .i ki, .i ci, .f gl kl, .i kl, .i cl, .i vi, .i vl] ∧ isI a6 ∧ isI a12 ∧ (∀ j, j < ki → isW (gi j 0)) ∧ (∀ j, j < kl → isW (gl j 2) ∧ isW (gl j 3))
def cTSteps : Ctr U :=
  { fn := 4, nin := 22, args := [twV 0, .int .i64 (.var 13), .slice 0 (.var 15) (.var 16), .slice 1 (.var 18) (.var 19), .int .i64 (.var 20), .int .i64 (.var 21)], heap := [.ro [some .u64] 14, .ro actTs 17]
    pre := tsPre, nout := 1, out := fun _ => [.b true], ret := .bool (.var 22), post := [.ro [some .u64] 14, .ro actTs 17] }
def ctsYd : List (Ctr U) := [cPick, cTFits, cDF15, cNew, cQNew, cTFill, cQTFill, cStore, cQStore, cSeen, cNewLay, cQNewLay, cLayStep, cQLayStep, cLayErr, cQLayErr, cLayBy, cQLayBy, cLast, cQLast, cCount, cQCount, cWords, cQWords, cSameWords, boolC 24]
/-! laws -/
def lhA (o : Option LaySt) : U := match o with | none => .layNil | some L => .lay L
def lhB (o : Option LaySt) : U := match o with | none => .rlayNil | some L => .rlay L
def lhOk (o : Option LaySt) : Prop := ∀ L, o = some L → L.ok ∧ isW L.key
def ts1Inv (env : List (EV U)) : Prop := ∃ a0 a1 a2 a3 a4 a5 a6 a7 a8 a9 a10 a11 a12 s : Int, ∃ gi, ∃ ki : Nat, ∃ ci gl, ∃ kl : Nat, ∃ cl vi vl, ∃ x22 x23 x24 x25 x26 x27 x28 x29 x30 : EV U, ∃ M : MemSt, ∃ j : Int, env = [.i a0, .i a1, .i a2, .i a3, .i a4, .i a5, .i a6, .i a7, .i a8, .i a9, .i a10, .i a11, .i a12, .i s, .f gi ki, .i ki, .i ci, .f gl kl, .i kl, .i cl, .i vi, .i vl, x22, x23, x24, x25, x26, x27, x28, x29, x30, .u (.mem M), .u (.rmem M), .i j] ∧
  0 ≤ j ∧ j ≤ ki ∧ ki ≤ 130 ∧ kl ≤ 60 ∧ 1 ≤ M.W.length ∧ M.fine ∧ okT a0 a1 a2 a5 = true ∧ (∀ j, j < ki → isW (gi j 0)) ∧ (∀ j, j < kl → isW (gl j 2) ∧ isW (gl j 3))
def ts2Inv (env : List (EV U)) : Prop := ∃ a0 a1 a2 a3 a4 a5 a6 a7 a8 a9 a10 a11 a12 s : Int, ∃ gi, ∃ ki : Nat, ∃ ci gl, ∃ kl : Nat, ∃ cl vi vl, ∃ x22 x23 x24 x25 x26 x27 x28 x29 x30 x31 x32 x33 x34 x35 x36 : EV U, ∃ M : MemSt, ∃ o0 o1 o2 : Option LaySt, ∃ j : Int, env = [.i a0, .i a1, .i a2, .i a3, .i a4, .i a5, .i a6, .i a7, .i a8, .i a9, .i a10, .i a11, .i a12, .i s, .f gi ki, .i ki, .i ci, .f gl kl, .i kl, .i cl, .i vi, .i vl, x22, x23, x24, x25, x26, x27, x28, x29, x30, x31, x32, x33, x34, x35, x36, .u (.mem M), .u (.rmem M), .u (lhA o0), .u (lhB o0), .u (lhA o1), .u (lhB o1), .u (lhA o2), .u (lhB o2), .i j] ∧
  0 ≤ j ∧ j ≤ kl ∧ kl ≤ 60 ∧ 1 ≤ M.W.length ∧ M.fine ∧ okT a0 a1 a2 a5 = true ∧ (∀ j, j < kl → isW (gl j 2) ∧ isW (gl j 3)) ∧ lhOk o0 ∧ lhOk o1 ∧ lhOk o2
def lTS1 : LoopS U :=
  { fn := 25, rid := 8, nv := 3, tm := [(12, .int .i64 (.var 33))], hp := [(4, .abs 31), (5, .abs 32)], reb := [], inv := ts1Inv, mu := fun env => (gI env 15 - gI env 33).toNat }
def lTS2 : LoopS U :=
  { fn := 4, rid := 10, nv := 9, tm := [(16, .int .i64 (.var 45))]
    hp := [(4, .abs 37), (5, .abs 38), (6, .cells [.hnd 7, .hnd 8, .hnd 9, .hnd 10, .hnd 11, .hnd 12] 72), (7, .abs 39), (8, .abs 40), (9, .abs 41), (10, .abs 42), (11, .abs 43), (12, .abs 44)]
    reb := [(7, 7), (8, 13), (9, 7), (10, 13), (11, 7), (12, 13)], inv := ts2Inv, mu := fun env => (gI env 18 - gI env 45).toNat }
def cxYd (P : Program) (l : List (LoopS U)) : Cx U := { cx P ctsYd with join := true, loops := l }
end Go.Proofs.YtbmbiiiacajolaaGreat
/- The ways of the runs, as a program of ours printed them. -/
namespace Go.Proofs.YtbmbiiiacajolaaGreat
set_option linter.unusedVariables false
set_option linter.unusedSimpArgs false
set_option linter.unusedSectionVars false
open Go
set_option maxRecDepth 100000

def hsTSteps : List (Nat × Nat × List Nat) := []
def tTStepsL0 : Tree := (.need (.cmp .leq (.lit 0) (.var 18)) (.br (.cmp .lss (.var 45) (.var 18))
 (.need (.cmp .leq (.lit 0) (.var 45)) (.need (.cmp .lss (.var 45) (.var 18)) (.need (.cmp .lss (.var 45) (.nrow 17)) (.need (.cmp .leq (.lit 0) (.var 45)) (.need (.cmp .lss (.var 45) (.nrow 17)) (.call 0 [.ex (.fld 17 (.var 45) 0), .ex (.lit 3)] (.need (.cmp .leq (.lit 0) (.var 45)) (.need (.cmp .lss (.var 45) (.var 18)) (.need (.cmp .lss (.var 45) (.nrow 17)) (.need (.cmp .leq (.lit 0) (.var 45)) (.need (.cmp .lss (.var 45) (.nrow 17)) (.br (.cmp .eql (.fld 17 (.var 45) 1) (.lit 1))
 (.need (.cmp .leq (.lit 0) (.var 45)) (.need (.cmp .lss (.var 45) (.var 18)) (.need (.cmp .lss (.var 45) (.nrow 17)) (.need (.cmp .leq (.lit 0) (.var 45)) (.need (.cmp .lss (.var 45) (.nrow 17)) (.need (.cmp .leq (.lit 0) (.var 45)) (.need (.cmp .lss (.var 45) (.var 18)) (.need (.cmp .lss (.var 45) (.nrow 17)) (.need (.cmp .leq (.lit 0) (.var 45)) (.need (.cmp .lss (.var 45) (.nrow 17)) (.need (.cmp .leq (.lit 0) (.var 45)) (.need (.cmp .lss (.var 45) (.var 18)) (.need (.cmp .lss (.var 45) (.nrow 17)) (.need (.cmp .leq (.lit 0) (.var 45)) (.need (.cmp .lss (.var 45) (.nrow 17)) (.need (.cmp .leq (.lit 0) (.var 45)) (.need (.cmp .lss (.var 45) (.var 18)) (.need (.cmp .lss (.var 45) (.nrow 17)) (.need (.cmp .leq (.lit 0) (.var 45)) (.need (.cmp .lss (.var 45) (.nrow 17)) (.need (.cmp .leq (.lit 0) (.var 45)) (.need (.cmp .lss (.var 45) (.var 18)) (.need (.cmp .lss (.var 45) (.nrow 17)) (.need (.cmp .leq (.lit 0) (.var 45)) (.need (.cmp .lss (.var 45) (.nrow 17)) (.need (.cmp .leq (.lit 0) (.var 45)) (.need (.cmp .lss (.var 45) (.var 18)) (.need (.cmp .lss (.var 45) (.nrow 17)) (.need (.cmp .leq (.lit 0) (.var 45)) (.need (.cmp .lss (.var 45) (.nrow 17)) (.need (.cmp .leq (.lit 0) (.var 45)) (.need (.cmp .lss (.var 45) (.var 18)) (.need (.cmp .lss (.var 45) (.nrow 17)) (.need (.cmp .leq (.lit 0) (.var 45)) (.need (.cmp .lss (.var 45) (.nrow 17)) (.need (.cmp .leq (.lit 0) (.var 45)) (.need (.cmp .lss (.var 45) (.var 18)) (.need (.cmp .lss (.var 45) (.nrow 17)) (.need (.cmp .leq (.lit 0) (.var 45)) (.need (.cmp .lss (.var 45) (.nrow 17)) (.and (.call 10 [.ex (.var 0), .ex (.var 1), .ex (.var 2), .ex (.var 3), .ex (.var 4), .ex (.var 5), .ex (.var 6), .ex (.var 7), .ex (.var 8), .ex (.var 9), .ex (.var 10), .ex (.var 11), .ex (.var 12), .ex (.fld 17 (.var 45) 2), .ex (.fld 17 (.var 45) 3), .ex (.fld 17 (.var 45) 4), .ex (.fld 17 (.var 45) 5)] (.and (.call 11 [.ex (.var 0), .ex (.var 1), .ex (.var 2), .ex (.var 3), .ex (.var 4), .ex (.var 5), .ex (.var 6), .ex (.var 7), .ex (.var 8), .ex (.var 9), .ex (.var 10), .ex (.var 11), .ex (.var 12), .ex (.fld 17 (.var 45) 2), .ex (.fld 17 (.var 45) 3), .ex (.fld 17 (.var 45) 4), .ex (.fld 17 (.var 45) 5)] (.and (.br (.cmp .eql (.var 46) (.lit 0))
 (.and (.br (.isnil 48)
 (.and (.call 18 [.var 37] (.and (.call 19 [.var 38] (.br (.and (.cmp .eql (.var 50) (.var 56)) (.and (.cmp .eql (.var 51) (.var 57)) (.and (.cmp .eql (.var 52) (.var 58)) (.and (.cmp .eql (.var 53) (.var 59)) (.beq (.var 54) (.var 60))))))
 (.and (.call 20 [.var 49] (.and (.call 21 [.var 55] (.br (.cmp .eql (.var 62) (.var 64))
 (.and (.call 22 [.var 61] (.and (.callm 23 [.var 63] (.and (.call 24 [.var 66, .var 69, .ex (.var 67), .ex (.var 67), .ex (.var 70), .ex (.var 71)] (.br (.var 72)
 (.back 1 37 [.var 65, .var 68, .var 47, .var 48, .var 41, .var 42, .var 43, .var 44, .ex (.bin .add .i64 (.var 45) (.lit 1))])
 (.ret [.bx (.lit false)]))) .ok)) .ok)) .ok)
 (.ret [.bx (.lit false)]))) .ok)) .ok)
 (.ret [.bx (.lit false)]))) .ok)) .ok)
 (.and (.call 14 [.var 47] (.and (.call 15 [.var 48] (.br (.cmp .eql (.var 50) (.var 52))
 (.and (.call 16 [.var 49] (.and (.call 17 [.var 51] (.br (.cmp .eql (.var 54) (.var 56))
 (.and (.call 18 [.var 37] (.and (.call 19 [.var 38] (.br (.and (.cmp .eql (.var 58) (.var 64)) (.and (.cmp .eql (.var 59) (.var 65)) (.and (.cmp .eql (.var 60) (.var 66)) (.and (.cmp .eql (.var 61) (.var 67)) (.beq (.var 62) (.var 68))))))
 (.and (.call 20 [.var 57] (.and (.call 21 [.var 63] (.br (.cmp .eql (.var 70) (.var 72))
 (.and (.call 22 [.var 69] (.and (.callm 23 [.var 71] (.and (.call 24 [.var 74, .var 77, .ex (.var 75), .ex (.var 75), .ex (.var 78), .ex (.var 79)] (.br (.var 80)
 (.back 1 37 [.var 73, .var 76, .var 53, .var 55, .var 41, .var 42, .var 43, .var 44, .ex (.bin .add .i64 (.var 45) (.lit 1))])
 (.ret [.bx (.lit false)]))) .ok)) .ok)) .ok)
 (.ret [.bx (.lit false)]))) .ok)) .ok)
 (.ret [.bx (.lit false)]))) .ok)) .ok)
 (.ret [.bx (.lit false)]))) .ok)) .ok)
 (.ret [.bx (.lit false)]))) .ok)) .ok)) .ok)
 (.br (.cmp .eql (.var 46) (.lit 1))
 (.and (.br (.isnil 48)
 (.and (.call 18 [.var 37] (.and (.call 19 [.var 38] (.br (.and (.cmp .eql (.var 50) (.var 56)) (.and (.cmp .eql (.var 51) (.var 57)) (.and (.cmp .eql (.var 52) (.var 58)) (.and (.cmp .eql (.var 53) (.var 59)) (.beq (.var 54) (.var 60))))))
 (.and (.call 20 [.var 49] (.and (.call 21 [.var 55] (.br (.cmp .eql (.var 62) (.var 64))
 (.and (.call 22 [.var 61] (.and (.callm 23 [.var 63] (.and (.call 24 [.var 66, .var 69, .ex (.var 67), .ex (.var 67), .ex (.var 70), .ex (.var 71)] (.br (.var 72)
 (.back 1 37 [.var 65, .var 68, .var 39, .var 40, .var 47, .var 48, .var 43, .var 44, .ex (.bin .add .i64 (.var 45) (.lit 1))])
 (.ret [.bx (.lit false)]))) .ok)) .ok)) .ok)
 (.ret [.bx (.lit false)]))) .ok)) .ok)
 (.ret [.bx (.lit false)]))) .ok)) .ok)
 (.and (.call 14 [.var 47] (.and (.call 15 [.var 48] (.br (.cmp .eql (.var 50) (.var 52))
 (.and (.call 16 [.var 49] (.and (.call 17 [.var 51] (.br (.cmp .eql (.var 54) (.var 56))
 (.and (.call 18 [.var 37] (.and (.call 19 [.var 38] (.br (.and (.cmp .eql (.var 58) (.var 64)) (.and (.cmp .eql (.var 59) (.var 65)) (.and (.cmp .eql (.var 60) (.var 66)) (.and (.cmp .eql (.var 61) (.var 67)) (.beq (.var 62) (.var 68))))))
 (.and (.call 20 [.var 57] (.and (.call 21 [.var 63] (.br (.cmp .eql (.var 70) (.var 72))
 (.and (.call 22 [.var 69] (.and (.callm 23 [.var 71] (.and (.call 24 [.var 74, .var 77, .ex (.var 75), .ex (.var 75), .ex (.var 78), .ex (.var 79)] (.br (.var 80)
 (.back 1 37 [.var 73, .var 76, .var 39, .var 40, .var 53, .var 55, .var 43, .var 44, .ex (.bin .add .i64 (.var 45) (.lit 1))])
 (.ret [.bx (.lit false)]))) .ok)) .ok)) .ok)
 (.ret [.bx (.lit false)]))) .ok)) .ok)
 (.ret [.bx (.lit false)]))) .ok)) .ok)
 (.ret [.bx (.lit false)]))) .ok)) .ok)
 (.ret [.bx (.lit false)]))) .ok)) .ok)) .ok)
 (.br (.cmp .eql (.var 46) (.lit 2))
 (.and (.br (.isnil 48)
 (.and (.call 18 [.var 37] (.and (.call 19 [.var 38] (.br (.and (.cmp .eql (.var 50) (.var 56)) (.and (.cmp .eql (.var 51) (.var 57)) (.and (.cmp .eql (.var 52) (.var 58)) (.and (.cmp .eql (.var 53) (.var 59)) (.beq (.var 54) (.var 60))))))
 (.and (.call 20 [.var 49] (.and (.call 21 [.var 55] (.br (.cmp .eql (.var 62) (.var 64))
 (.and (.call 22 [.var 61] (.and (.callm 23 [.var 63] (.and (.call 24 [.var 66, .var 69, .ex (.var 67), .ex (.var 67), .ex (.var 70), .ex (.var 71)] (.br (.var 72)
 (.back 1 37 [.var 65, .var 68, .var 39, .var 40, .var 41, .var 42, .var 47, .var 48, .ex (.bin .add .i64 (.var 45) (.lit 1))])
 (.ret [.bx (.lit false)]))) .ok)) .ok)) .ok)
 (.ret [.bx (.lit false)]))) .ok)) .ok)
 (.ret [.bx (.lit false)]))) .ok)) .ok)
 (.and (.call 14 [.var 47] (.and (.call 15 [.var 48] (.br (.cmp .eql (.var 50) (.var 52))
 (.and (.call 16 [.var 49] (.and (.call 17 [.var 51] (.br (.cmp .eql (.var 54) (.var 56))
 (.and (.call 18 [.var 37] (.and (.call 19 [.var 38] (.br (.and (.cmp .eql (.var 58) (.var 64)) (.and (.cmp .eql (.var 59) (.var 65)) (.and (.cmp .eql (.var 60) (.var 66)) (.and (.cmp .eql (.var 61) (.var 67)) (.beq (.var 62) (.var 68))))))
 (.and (.call 20 [.var 57] (.and (.call 21 [.var 63] (.br (.cmp .eql (.var 70) (.var 72))
 (.and (.call 22 [.var 69] (.and (.callm 23 [.var 71] (.and (.call 24 [.var 74, .var 77, .ex (.var 75), .ex (.var 75), .ex (.var 78), .ex (.var 79)] (.br (.var 80)
 (.back 1 37 [.var 73, .var 76, .var 39, .var 40, .var 41, .var 42, .var 53, .var 55, .ex (.bin .add .i64 (.var 45) (.lit 1))])
 (.ret [.bx (.lit false)]))) .ok)) .ok)) .ok)
 (.ret [.bx (.lit false)]))) .ok)) .ok)
 (.ret [.bx (.lit false)]))) .ok)) .ok)
 (.ret [.bx (.lit false)]))) .ok)) .ok)
 (.ret [.bx (.lit false)]))) .ok)) .ok)) .ok)
 (.need (.lit false) .ok)))) .ok)) .ok)) .ok)))))))))))))))))))))))))))))))))))))))))
 (.need (.cmp .leq (.lit 0) (.var 45)) (.need (.cmp .lss (.var 45) (.var 18)) (.need (.cmp .lss (.var 45) (.nrow 17)) (.need (.cmp .leq (.lit 0) (.var 45)) (.need (.cmp .lss (.var 45) (.nrow 17)) (.br (.cmp .eql (.fld 17 (.var 45) 1) (.lit 0))
 (.br (.cmp .eql (.var 46) (.lit 0))
 (.br (.isnil 40)
 (.and (.call 18 [.var 37] (.and (.call 19 [.var 38] (.br (.and (.cmp .eql (.var 48) (.var 54)) (.and (.cmp .eql (.var 49) (.var 55)) (.and (.cmp .eql (.var 50) (.var 56)) (.and (.cmp .eql (.var 51) (.var 57)) (.beq (.var 52) (.var 58))))))
 (.and (.call 20 [.var 47] (.and (.call 21 [.var 53] (.br (.cmp .eql (.var 60) (.var 62))
 (.and (.call 22 [.var 59] (.and (.callm 23 [.var 61] (.and (.call 24 [.var 64, .var 67, .ex (.var 65), .ex (.var 65), .ex (.var 68), .ex (.var 69)] (.br (.var 70)
 (.back 1 37 [.var 63, .var 66, .var 39, .var 40, .var 41, .var 42, .var 43, .var 44, .ex (.bin .add .i64 (.var 45) (.lit 1))])
 (.ret [.bx (.lit false)]))) .ok)) .ok)) .ok)
 (.ret [.bx (.lit false)]))) .ok)) .ok)
 (.ret [.bx (.lit false)]))) .ok)) .ok)
 (.and (.call 12 [.var 39, .var 37] (.and (.call 13 [.var 40, .var 38] (.br (.beq (.var 49) (.var 52))
 (.br (.isnil 50)
 (.and (.call 18 [.var 48] (.and (.call 19 [.var 51] (.br (.and (.cmp .eql (.var 54) (.var 60)) (.and (.cmp .eql (.var 55) (.var 61)) (.and (.cmp .eql (.var 56) (.var 62)) (.and (.cmp .eql (.var 57) (.var 63)) (.beq (.var 58) (.var 64))))))
 (.and (.call 20 [.var 53] (.and (.call 21 [.var 59] (.br (.cmp .eql (.var 66) (.var 68))
 (.and (.call 22 [.var 65] (.and (.callm 23 [.var 67] (.and (.call 24 [.var 70, .var 73, .ex (.var 71), .ex (.var 71), .ex (.var 74), .ex (.var 75)] (.br (.var 76)
 (.back 1 37 [.var 69, .var 72, .var 47, .var 50, .var 41, .var 42, .var 43, .var 44, .ex (.bin .add .i64 (.var 45) (.lit 1))])
 (.ret [.bx (.lit false)]))) .ok)) .ok)) .ok)
 (.ret [.bx (.lit false)]))) .ok)) .ok)
 (.ret [.bx (.lit false)]))) .ok)) .ok)
 (.and (.call 14 [.var 47] (.and (.call 15 [.var 50] (.br (.cmp .eql (.var 54) (.var 56))
 (.and (.call 16 [.var 53] (.and (.call 17 [.var 55] (.br (.cmp .eql (.var 58) (.var 60))
 (.and (.call 18 [.var 48] (.and (.call 19 [.var 51] (.br (.and (.cmp .eql (.var 62) (.var 68)) (.and (.cmp .eql (.var 63) (.var 69)) (.and (.cmp .eql (.var 64) (.var 70)) (.and (.cmp .eql (.var 65) (.var 71)) (.beq (.var 66) (.var 72))))))
 (.and (.call 20 [.var 61] (.and (.call 21 [.var 67] (.br (.cmp .eql (.var 74) (.var 76))
 (.and (.call 22 [.var 73] (.and (.callm 23 [.var 75] (.and (.call 24 [.var 78, .var 81, .ex (.var 79), .ex (.var 79), .ex (.var 82), .ex (.var 83)] (.br (.var 84)
 (.back 1 37 [.var 77, .var 80, .var 57, .var 59, .var 41, .var 42, .var 43, .var 44, .ex (.bin .add .i64 (.var 45) (.lit 1))])
 (.ret [.bx (.lit false)]))) .ok)) .ok)) .ok)
 (.ret [.bx (.lit false)]))) .ok)) .ok)
 (.ret [.bx (.lit false)]))) .ok)) .ok)
 (.ret [.bx (.lit false)]))) .ok)) .ok)
 (.ret [.bx (.lit false)]))) .ok)) .ok))
 (.ret [.bx (.lit false)]))) .ok)) .ok))
 (.br (.cmp .eql (.var 46) (.lit 1))
 (.br (.isnil 42)
 (.and (.call 18 [.var 37] (.and (.call 19 [.var 38] (.br (.and (.cmp .eql (.var 48) (.var 54)) (.and (.cmp .eql (.var 49) (.var 55)) (.and (.cmp .eql (.var 50) (.var 56)) (.and (.cmp .eql (.var 51) (.var 57)) (.beq (.var 52) (.var 58))))))
 (.and (.call 20 [.var 47] (.and (.call 21 [.var 53] (.br (.cmp .eql (.var 60) (.var 62))
 (.and (.call 22 [.var 59] (.and (.callm 23 [.var 61] (.and (.call 24 [.var 64, .var 67, .ex (.var 65), .ex (.var 65), .ex (.var 68), .ex (.var 69)] (.br (.var 70)
 (.back 1 37 [.var 63, .var 66, .var 39, .var 40, .var 41, .var 42, .var 43, .var 44, .ex (.bin .add .i64 (.var 45) (.lit 1))])
 (.ret [.bx (.lit false)]))) .ok)) .ok)) .ok)
 (.ret [.bx (.lit false)]))) .ok)) .ok)
 (.ret [.bx (.lit false)]))) .ok)) .ok)
 (.and (.call 12 [.var 41, .var 37] (.and (.call 13 [.var 42, .var 38] (.br (.beq (.var 49) (.var 52))
 (.br (.isnil 50)
 (.and (.call 18 [.var 48] (.and (.call 19 [.var 51] (.br (.and (.cmp .eql (.var 54) (.var 60)) (.and (.cmp .eql (.var 55) (.var 61)) (.and (.cmp .eql (.var 56) (.var 62)) (.and (.cmp .eql (.var 57) (.var 63)) (.beq (.var 58) (.var 64))))))
 (.and (.call 20 [.var 53] (.and (.call 21 [.var 59] (.br (.cmp .eql (.var 66) (.var 68))
 (.and (.call 22 [.var 65] (.and (.callm 23 [.var 67] (.and (.call 24 [.var 70, .var 73, .ex (.var 71), .ex (.var 71), .ex (.var 74), .ex (.var 75)] (.br (.var 76)
 (.back 1 37 [.var 69, .var 72, .var 39, .var 40, .var 47, .var 50, .var 43, .var 44, .ex (.bin .add .i64 (.var 45) (.lit 1))])
 (.ret [.bx (.lit false)]))) .ok)) .ok)) .ok)
 (.ret [.bx (.lit false)]))) .ok)) .ok)
 (.ret [.bx (.lit false)]))) .ok)) .ok)
 (.and (.call 14 [.var 47] (.and (.call 15 [.var 50] (.br (.cmp .eql (.var 54) (.var 56))
 (.and (.call 16 [.var 53] (.and (.call 17 [.var 55] (.br (.cmp .eql (.var 58) (.var 60))
 (.and (.call 18 [.var 48] (.and (.call 19 [.var 51] (.br (.and (.cmp .eql (.var 62) (.var 68)) (.and (.cmp .eql (.var 63) (.var 69)) (.and (.cmp .eql (.var 64) (.var 70)) (.and (.cmp .eql (.var 65) (.var 71)) (.beq (.var 66) (.var 72))))))
 (.and (.call 20 [.var 61] (.and (.call 21 [.var 67] (.br (.cmp .eql (.var 74) (.var 76))
 (.and (.call 22 [.var 73] (.and (.callm 23 [.var 75] (.and (.call 24 [.var 78, .var 81, .ex (.var 79), .ex (.var 79), .ex (.var 82), .ex (.var 83)] (.br (.var 84)
 (.back 1 37 [.var 77, .var 80, .var 39, .var 40, .var 57, .var 59, .var 43, .var 44, .ex (.bin .add .i64 (.var 45) (.lit 1))])
 (.ret [.bx (.lit false)]))) .ok)) .ok)) .ok)
 (.ret [.bx (.lit false)]))) .ok)) .ok)
 (.ret [.bx (.lit false)]))) .ok)) .ok)
 (.ret [.bx (.lit false)]))) .ok)) .ok)
 (.ret [.bx (.lit false)]))) .ok)) .ok))
 (.ret [.bx (.lit false)]))) .ok)) .ok))
 (.br (.cmp .eql (.var 46) (.lit 2))
 (.br (.isnil 44)
 (.and (.call 18 [.var 37] (.and (.call 19 [.var 38] (.br (.and (.cmp .eql (.var 48) (.var 54)) (.and (.cmp .eql (.var 49) (.var 55)) (.and (.cmp .eql (.var 50) (.var 56)) (.and (.cmp .eql (.var 51) (.var 57)) (.beq (.var 52) (.var 58))))))
 (.and (.call 20 [.var 47] (.and (.call 21 [.var 53] (.br (.cmp .eql (.var 60) (.var 62))
 (.and (.call 22 [.var 59] (.and (.callm 23 [.var 61] (.and (.call 24 [.var 64, .var 67, .ex (.var 65), .ex (.var 65), .ex (.var 68), .ex (.var 69)] (.br (.var 70)
 (.back 1 37 [.var 63, .var 66, .var 39, .var 40, .var 41, .var 42, .var 43, .var 44, .ex (.bin .add .i64 (.var 45) (.lit 1))])
 (.ret [.bx (.lit false)]))) .ok)) .ok)) .ok)
 (.ret [.bx (.lit false)]))) .ok)) .ok)
 (.ret [.bx (.lit false)]))) .ok)) .ok)
 (.and (.call 12 [.var 43, .var 37] (.and (.call 13 [.var 44, .var 38] (.br (.beq (.var 49) (.var 52))
 (.br (.isnil 50)
 (.and (.call 18 [.var 48] (.and (.call 19 [.var 51] (.br (.and (.cmp .eql (.var 54) (.var 60)) (.and (.cmp .eql (.var 55) (.var 61)) (.and (.cmp .eql (.var 56) (.var 62)) (.and (.cmp .eql (.var 57) (.var 63)) (.beq (.var 58) (.var 64))))))
 (.and (.call 20 [.var 53] (.and (.call 21 [.var 59] (.br (.cmp .eql (.var 66) (.var 68))
 (.and (.call 22 [.var 65] (.and (.callm 23 [.var 67] (.and (.call 24 [.var 70, .var 73, .ex (.var 71), .ex (.var 71), .ex (.var 74), .ex (.var 75)] (.br (.var 76)
 (.back 1 37 [.var 69, .var 72, .var 39, .var 40, .var 41, .var 42, .var 47, .var 50, .ex (.bin .add .i64 (.var 45) (.lit 1))])
 (.ret [.bx (.lit false)]))) .ok)) .ok)) .ok)
 (.ret [.bx (.lit false)]))) .ok)) .ok)
 (.ret [.bx (.lit false)]))) .ok)) .ok)
 (.and (.call 14 [.var 47] (.and (.call 15 [.var 50] (.br (.cmp .eql (.var 54) (.var 56))
 (.and (.call 16 [.var 53] (.and (.call 17 [.var 55] (.br (.cmp .eql (.var 58) (.var 60))
 (.and (.call 18 [.var 48] (.and (.call 19 [.var 51] (.br (.and (.cmp .eql (.var 62) (.var 68)) (.and (.cmp .eql (.var 63) (.var 69)) (.and (.cmp .eql (.var 64) (.var 70)) (.and (.cmp .eql (.var 65) (.var 71)) (.beq (.var 66) (.var 72))))))
 (.and (.call 20 [.var 61] (.and (.call 21 [.var 67] (.br (.cmp .eql (.var 74) (.var 76))
 (.and (.call 22 [.var 73] (.and (.callm 23 [.var 75] (.and (.call 24 [.var 78, .var 81, .ex (.var 79), .ex (.var 79), .ex (.var 82), .ex (.var 83)] (.br (.var 84)
 (.back 1 37 [.var 77, .var 80, .var 39, .var 40, .var 41, .var 42, .var 57, .var 59, .ex (.bin .add .i64 (.var 45) (.lit 1))])
 (.ret [.bx (.lit false)]))) .ok)) .ok)) .ok)
 (.ret [.bx (.lit false)]))) .ok)) .ok)
 (.ret [.bx (.lit false)]))) .ok)) .ok)
 (.ret [.bx (.lit false)]))) .ok)) .ok)
 (.ret [.bx (.lit false)]))) .ok)) .ok))
 (.ret [.bx (.lit false)]))) .ok)) .ok))
 (.need (.lit false) .ok))))
 (.br (.cmp .eql (.var 46) (.lit 0))
 (.br (.isnil 40)
 (.and (.call 18 [.var 37] (.and (.call 19 [.var 38] (.br (.and (.cmp .eql (.var 48) (.var 54)) (.and (.cmp .eql (.var 49) (.var 55)) (.and (.cmp .eql (.var 50) (.var 56)) (.and (.cmp .eql (.var 51) (.var 57)) (.beq (.var 52) (.var 58))))))
 (.and (.call 20 [.var 47] (.and (.call 21 [.var 53] (.br (.cmp .eql (.var 60) (.var 62))
 (.and (.call 22 [.var 59] (.and (.callm 23 [.var 61] (.and (.call 24 [.var 64, .var 67, .ex (.var 65), .ex (.var 65), .ex (.var 68), .ex (.var 69)] (.br (.var 70)
 (.back 1 37 [.var 63, .var 66, .var 39, .var 40, .var 41, .var 42, .var 43, .var 44, .ex (.bin .add .i64 (.var 45) (.lit 1))])
 (.ret [.bx (.lit false)]))) .ok)) .ok)) .ok)
 (.ret [.bx (.lit false)]))) .ok)) .ok)
 (.ret [.bx (.lit false)]))) .ok)) .ok)
 (.and (.call 14 [.var 39] (.and (.call 15 [.var 40] (.br (.cmp .eql (.var 48) (.var 50))
 (.and (.call 16 [.var 47] (.and (.call 17 [.var 49] (.br (.cmp .eql (.var 52) (.var 54))
 (.and (.call 18 [.var 37] (.and (.call 19 [.var 38] (.br (.and (.cmp .eql (.var 56) (.var 62)) (.and (.cmp .eql (.var 57) (.var 63)) (.and (.cmp .eql (.var 58) (.var 64)) (.and (.cmp .eql (.var 59) (.var 65)) (.beq (.var 60) (.var 66))))))
 (.and (.call 20 [.var 55] (.and (.call 21 [.var 61] (.br (.cmp .eql (.var 68) (.var 70))
 (.and (.call 22 [.var 67] (.and (.callm 23 [.var 69] (.and (.call 24 [.var 72, .var 75, .ex (.var 73), .ex (.var 73), .ex (.var 76), .ex (.var 77)] (.br (.var 78)
 (.back 1 37 [.var 71, .var 74, .var 51, .var 53, .var 41, .var 42, .var 43, .var 44, .ex (.bin .add .i64 (.var 45) (.lit 1))])
 (.ret [.bx (.lit false)]))) .ok)) .ok)) .ok)
 (.ret [.bx (.lit false)]))) .ok)) .ok)
 (.ret [.bx (.lit false)]))) .ok)) .ok)
 (.ret [.bx (.lit false)]))) .ok)) .ok)
 (.ret [.bx (.lit false)]))) .ok)) .ok))
 (.br (.cmp .eql (.var 46) (.lit 1))
 (.br (.isnil 42)
 (.and (.call 18 [.var 37] (.and (.call 19 [.var 38] (.br (.and (.cmp .eql (.var 48) (.var 54)) (.and (.cmp .eql (.var 49) (.var 55)) (.and (.cmp .eql (.var 50) (.var 56)) (.and (.cmp .eql (.var 51) (.var 57)) (.beq (.var 52) (.var 58))))))
 (.and (.call 20 [.var 47] (.and (.call 21 [.var 53] (.br (.cmp .eql (.var 60) (.var 62))
 (.and (.call 22 [.var 59] (.and (.callm 23 [.var 61] (.and (.call 24 [.var 64, .var 67, .ex (.var 65), .ex (.var 65), .ex (.var 68), .ex (.var 69)] (.br (.var 70)
 (.back 1 37 [.var 63, .var 66, .var 39, .var 40, .var 41, .var 42, .var 43, .var 44, .ex (.bin .add .i64 (.var 45) (.lit 1))])
 (.ret [.bx (.lit false)]))) .ok)) .ok)) .ok)
 (.ret [.bx (.lit false)]))) .ok)) .ok)
 (.ret [.bx (.lit false)]))) .ok)) .ok)
 (.and (.call 14 [.var 41] (.and (.call 15 [.var 42] (.br (.cmp .eql (.var 48) (.var 50))
 (.and (.call 16 [.var 47] (.and (.call 17 [.var 49] (.br (.cmp .eql (.var 52) (.var 54))
 (.and (.call 18 [.var 37] (.and (.call 19 [.var 38] (.br (.and (.cmp .eql (.var 56) (.var 62)) (.and (.cmp .eql (.var 57) (.var 63)) (.and (.cmp .eql (.var 58) (.var 64)) (.and (.cmp .eql (.var 59) (.var 65)) (.beq (.var 60) (.var 66))))))
 (.and (.call 20 [.var 55] (.and (.call 21 [.var 61] (.br (.cmp .eql (.var 68) (.var 70))
 (.and (.call 22 [.var 67] (.and (.callm 23 [.var 69] (.and (.call 24 [.var 72, .var 75, .ex (.var 73), .ex (.var 73), .ex (.var 76), .ex (.var 77)] (.br (.var 78)
 (.back 1 37 [.var 71, .var 74, .var 39, .var 40, .var 51, .var 53, .var 43, .var 44, .ex (.bin .add .i64 (.var 45) (.lit 1))])
 (.ret [.bx (.lit false)]))) .ok)) .ok)) .ok)
 (.ret [.bx (.lit false)]))) .ok)) .ok)
 (.ret [.bx (.lit false)]))) .ok)) .ok)
 (.ret [.bx (.lit false)]))) .ok)) .ok)
 (.ret [.bx (.lit false)]))) .ok)) .ok))
 (.br (.cmp .eql (.var 46) (.lit 2))
 (.br (.isnil 44)
 (.and (.call 18 [.var 37] (.and (.call 19 [.var 38] (.br (.and (.cmp .eql (.var 48) (.var 54)) (.and (.cmp .eql (.var 49) (.var 55)) (.and (.cmp .eql (.var 50) (.var 56)) (.and (.cmp .eql (.var 51) (.var 57)) (.beq (.var 52) (.var 58))))))
 (.and (.call 20 [.var 47] (.and (.call 21 [.var 53] (.br (.cmp .eql (.var 60) (.var 62))
 (.and (.call 22 [.var 59] (.and (.callm 23 [.var 61] (.and (.call 24 [.var 64, .var 67, .ex (.var 65), .ex (.var 65), .ex (.var 68), .ex (.var 69)] (.br (.var 70)
 (.back 1 37 [.var 63, .var 66, .var 39, .var 40, .var 41, .var 42, .var 43, .var 44, .ex (.bin .add .i64 (.var 45) (.lit 1))])
 (.ret [.bx (.lit false)]))) .ok)) .ok)) .ok)
 (.ret [.bx (.lit false)]))) .ok)) .ok)
 (.ret [.bx (.lit false)]))) .ok)) .ok)
 (.and (.call 14 [.var 43] (.and (.call 15 [.var 44] (.br (.cmp .eql (.var 48) (.var 50))
 (.and (.call 16 [.var 47] (.and (.call 17 [.var 49] (.br (.cmp .eql (.var 52) (.var 54))
 (.and (.call 18 [.var 37] (.and (.call 19 [.var 38] (.br (.and (.cmp .eql (.var 56) (.var 62)) (.and (.cmp .eql (.var 57) (.var 63)) (.and (.cmp .eql (.var 58) (.var 64)) (.and (.cmp .eql (.var 59) (.var 65)) (.beq (.var 60) (.var 66))))))
 (.and (.call 20 [.var 55] (.and (.call 21 [.var 61] (.br (.cmp .eql (.var 68) (.var 70))
 (.and (.call 22 [.var 67] (.and (.callm 23 [.var 69] (.and (.call 24 [.var 72, .var 75, .ex (.var 73), .ex (.var 73), .ex (.var 76), .ex (.var 77)] (.br (.var 78)
 (.back 1 37 [.var 71, .var 74, .var 39, .var 40, .var 41, .var 42, .var 51, .var 53, .ex (.bin .add .i64 (.var 45) (.lit 1))])
 (.ret [.bx (.lit false)]))) .ok)) .ok)) .ok)
 (.ret [.bx (.lit false)]))) .ok)) .ok)
 (.ret [.bx (.lit false)]))) .ok)) .ok)
 (.ret [.bx (.lit false)]))) .ok)) .ok)
 (.ret [.bx (.lit false)]))) .ok)) .ok))
 (.need (.lit false) .ok))))))))))))))))))))))
 (.call 9 [.var 37, .var 38, .ex (.var 0), .ex (.var 1), .ex (.var 2), .ex (.var 3), .ex (.var 4), .ex (.var 5), .ex (.var 6), .ex (.var 7), .ex (.var 8), .ex (.var 9), .ex (.var 10), .ex (.var 11), .ex (.var 12), .ex (.var 20), .ex (.var 21)] (.br (.var 48)
 (.call 9 [.var 46, .var 47, .ex (.var 0), .ex (.var 1), .ex (.var 2), .ex (.var 3), .ex (.var 4), .ex (.var 5), .ex (.var 6), .ex (.var 7), .ex (.var 8), .ex (.var 9), .ex (.var 10), .ex (.var 11), .ex (.var 12), .ex (.var 20), .ex (.lit 0)] (.br (.var 51)
 (.call 25 [] (.ret [.bx (.var 52)]))
 (.ret [.bx (.lit false)])))
 (.ret [.bx (.lit false)])))))
def tTStepsL1 : Tree := (.need (.cmp .leq (.lit 0) (.var 15)) (.br (.cmp .lss (.var 33) (.var 15))
 (.need (.cmp .leq (.lit 0) (.var 33)) (.need (.cmp .lss (.var 33) (.var 15)) (.need (.cmp .lss (.var 33) (.nrow 14)) (.need (.cmp .leq (.lit 0) (.var 33)) (.need (.cmp .lss (.var 33) (.nrow 14)) (.call 7 [.var 31, .ex (.var 33), .ex (.fld 14 (.var 33) 0)] (.need (.cmp .leq (.lit 0) (.var 33)) (.need (.cmp .lss (.var 33) (.var 15)) (.need (.cmp .lss (.var 33) (.nrow 14)) (.need (.cmp .leq (.lit 0) (.var 33)) (.need (.cmp .lss (.var 33) (.nrow 14)) (.call 8 [.var 32, .ex (.var 33), .ex (.fld 14 (.var 33) 0)] (.back 0 31 [.var 34, .var 35, .ex (.bin .add .i64 (.var 33) (.lit 1))])))))))))))))
 (.br (.isnil 31)
 (.ret [.bx (.lit false)])
 (.call 9 [.var 31, .var 32, .ex (.var 0), .ex (.var 1), .ex (.var 2), .ex (.var 3), .ex (.var 4), .ex (.var 5), .ex (.var 6), .ex (.var 7), .ex (.var 8), .ex (.var 9), .ex (.var 10), .ex (.var 11), .ex (.var 12), .ex (.var 20), .ex (.var 21)] (.br (.var 36)
 (.ext (.mk 7 []) (.ext (.mk 13 []) (.ext (.mk 7 []) (.ext (.mk 13 []) (.ext (.mk 7 []) (.ext (.mk 13 []) (.loop 1 37 [.var 34, .var 35, .var 37, .var 38, .var 39, .var 40, .var 41, .var 42, .ex (.lit 0)] tTStepsL0)))))))
 (.ret [.bx (.lit false)]))))))
def tTSteps : Tree := (.and (.call 1 [.ex (.var 0), .ex (.var 1), .ex (.var 2), .ex (.var 3), .ex (.var 4), .ex (.var 5), .ex (.var 6), .ex (.var 7), .ex (.var 8), .ex (.var 9), .ex (.var 10), .ex (.var 11), .ex (.var 12), .ex (.var 13)] (.and (.call 2 [.ex (.var 0), .ex (.var 1), .ex (.var 2), .ex (.var 3), .ex (.var 4), .ex (.var 5), .ex (.var 6), .ex (.var 7), .ex (.var 8), .ex (.var 9), .ex (.var 10), .ex (.var 11), .ex (.var 12), .ex (.var 13)] (.br (.cmp .eql (.var 22) (.var 23))
 (.call 2 [.ex (.var 0), .ex (.var 1), .ex (.var 2), .ex (.var 3), .ex (.var 4), .ex (.var 5), .ex (.var 6), .ex (.var 7), .ex (.var 8), .ex (.var 9), .ex (.var 10), .ex (.var 11), .ex (.var 12), .ex (.var 13)] (.br (.cmp .eql (.var 24) (.lit 0))
 (.br (.cmp .gtr (.var 5) (.lit 12))
 (.call 25 [] (.ret [.bx (.var 25)]))
 (.br (.cmp .gtr (.var 13) (.lit 130))
 (.call 25 [] (.ret [.bx (.var 25)]))
 (.need (.cmp .leq (.lit 0) (.var 15)) (.br (.cmp .gtr (.var 15) (.lit 130))
 (.call 25 [] (.ret [.bx (.var 25)]))
 (.need (.cmp .leq (.lit 0) (.var 18)) (.br (.cmp .gtr (.var 18) (.lit 60))
 (.call 25 [] (.ret [.bx (.var 25)]))
 (.call 3 [.ex (.var 13)] (.call 4 [.ex (.var 13)] (.br (.cmp .eql (.var 26) (.lit 0))
 (.br (.cmp .eql (.var 28) (.lit 0))
 (.br (.isnil 25)
 (.ret [.bx (.lit false)])
 (.call 5 [.var 25, .ex (.var 0), .ex (.var 1), .ex (.var 2), .ex (.var 3), .ex (.var 4), .ex (.var 5), .ex (.var 6), .ex (.var 7), .ex (.var 8), .ex (.var 9), .ex (.var 10), .ex (.var 11), .ex (.var 12)] (.call 6 [.var 27, .ex (.var 0), .ex (.var 1), .ex (.var 2), .ex (.var 3), .ex (.var 4), .ex (.var 5), .ex (.var 6), .ex (.var 7), .ex (.var 8), .ex (.var 9), .ex (.var 10), .ex (.var 11), .ex (.var 12)] (.loop 0 31 [.var 29, .var 30, .ex (.lit 0)] tTStepsL1))))
 (.ret [.bx (.lit false)]))
 (.ret [.bx (.lit false)]))))))))))
 (.call 25 [] (.ret [.bx (.var 25)]))))
 (.ret [.bx (.lit false)]))) .ok)) .ok)
theorem rTSteps : runCtr { (cxYd Tryz.prog [lTS1, lTS2]) with hints := hsTSteps } 20 cTSteps [] [] = tTSteps := by kernel_rfl

end Go.Proofs.YtbmbiiiacajolaaGreat
/- The law of towers beside the document: what the contracts say (printed by gen_yd.py). -/
namespace Go.Proofs.YtbmbiiiacajolaaGreat
set_option linter.unusedVariables false
set_option linter.unusedSimpArgs false
set_option linter.unusedSectionVars false
open Go Go.RowKit

theorem lhA_n : lhA none = .layNil := rfl
theorem lhA_s (L : LaySt) : lhA (some L) = .lay L := rfl
theorem lhB_n : lhB none = .rlayNil := rfl
theorem lhB_s (L : LaySt) : lhB (some L) = .rlay L := rfl
theorem lh_none : lhOk none := fun _ h => by cases h
theorem lh_some {L : LaySt} (h : L.ok ∧ isW L.key) : lhOk (some L) := fun _ e => by cases e; exact h
theorem newLay_lok {a0 a1 a2 a3 a4 a5 a6 a7 a8 a9 a10 a11 a12 r k j h : Int} (hk : isW k) : (newLay [a0, a1, a2, a3, a4, a5, a6, a7, a8, a9, a10, a11, a12] a0 a1 a2 a5 r k j h).ok ∧ isW (newLay [a0, a1, a2, a3, a4, a5, a6, a7, a8, a9, a10, a11, a12] a0 a1 a2 a5 r k j h).key := by
  have no : ∀ x : Int, refusedL a0 a1 a2 a5 r j h = x → ¬ x = 0 → (newLay [a0, a1, a2, a3, a4, a5, a6, a7, a8, a9, a10, a11, a12] a0 a1 a2 a5 r k j h).ok ∧ isW (newLay [a0, a1, a2, a3, a4, a5, a6, a7, a8, a9, a10, a11, a12] a0 a1 a2 a5 r k j h).key := fun x e hx => by
    rw [newLay_no e hx]
    exact ⟨⟨0, 0, 0, 0, 0, 0, 0, 0, 0, 0, 0, 0, 0, 0, 0, 0, 0, 0, 0, 0, .inr ⟨x, rfl, hx⟩⟩, isW0⟩
  cases ht : okT a0 a1 a2 a5
  · exact no 2 (rf_2 ht) (by decide)
  · have ha := okT_a ht
    cases hr : refOk r
    · exact no 5 (rf_5 ht hr) (by decide)
    · by_cases c : r % 65536 - 1 < 0 ∨ r / 9223372036854775808 = 1 ∨ a5 ≤ r % 65536 - 1 ∨ j < 0 ∨ 65534 < j ∨ h < 1 ∨ a2 < h
      · exact no 3 (rf_3 ht hr c) (by decide)
      · rw [newLay_ok (rf_0 ht hr c)]
        exact ⟨⟨a0, a1, a2, a3, a4, a5, a6, a7, a8, a9, a10, a11, a12, _, _, _, _, _, _, _, .inl ⟨rfl, .inl ⟨rfl, rfl⟩, by omega, by omega, by omega, by omega⟩⟩, hk⟩
theorem step_lok {L : LaySt} {M : MemSt} (h : L.ok ∧ isW L.key) : (stepLay L M).1.ok ∧ isW (stepLay L M).1.key := by
  obtain ⟨hL, hk⟩ := h
  unfold stepLay
  split
  · exact ⟨hL, hk⟩
  · rename_i hn
    refine ⟨?_, hk⟩
    obtain ⟨a0, a1, a2, a3, a4, a5, a6, a7, a8, a9, a10, a11, a12, r, i, k, j, h, n, b, ⟨rfl, hb, g1, g2, g3, g4⟩ | ⟨e, rfl, he⟩⟩ := hL
    · have hn' : ¬ n = 9 := hn
      refine ⟨a0, a1, a2, a3, a4, a5, a6, a7, a8, a9, a10, a11, a12, r, i, k, j, h, _, _, .inl ⟨rfl, .inr ⟨?_, rfl⟩, g1, g2, g3, g4⟩⟩
      show (if n = 3 then 9 else n + 1 : Int) = 1 ∨ (if n = 3 then 9 else n + 1 : Int) = 2 ∨ (if n = 3 then 9 else n + 1 : Int) = 3 ∨ (if n = 3 then 9 else n + 1 : Int) = 9
      split <;> omega
    · exact absurd rfl hn
theorem step_fine {L : LaySt} {M : MemSt} (h : L.ok ∧ isW L.key) (hM : M.fine) : (stepLay L M).2.fine := by
  obtain ⟨hL, hk⟩ := h
  unfold stepLay
  split
  · exact hM
  · rename_i hn
    refine fine_store hM ?_
    obtain ⟨a0, a1, a2, a3, a4, a5, a6, a7, a8, a9, a10, a11, a12, r, i, k, j, h, n, b, ⟨rfl, hb, g1, g2, g3, g4⟩ | ⟨e, rfl, he⟩⟩ := hL
    · show isW (if n = 0 then k else if n = 1 then j else if n = 2 then h else 2)
      split
      · exact hk
      · split
        · exact ⟨g1, by omega⟩
        · split
          · exact ⟨by omega, by omega⟩
          · exact ⟨by decide, by decide⟩
    · exact absurd rfl hn
theorem step_len {L : LaySt} {M : MemSt} : (stepLay L M).2.W.length = M.W.length := by
  unfold stepLay
  split
  · rfl
  · exact len_store _ _ _
theorem pick3 {x : Int} : x.emod 3 = 0 ∨ x.emod 3 = 1 ∨ x.emod 3 = 2 := by
  have := Int.emod_nonneg x (show (3 : Int) ≠ 0 by decide)
  have := Int.emod_lt_of_pos x (show (0 : Int) < 3 by decide)
  show x % 3 = 0 ∨ x % 3 = 1 ∨ x % 3 = 2
  omega
theorem out_qlast (M : MemSt) : cQLast.out [.u (.rmem M)] = [.u (.rmem M), .i M.k, .i M.a, .i M.o, .i M.n, .b M.h] := rfl
theorem out_qcount (M : MemSt) : cQCount.out [.u (.rmem M)] = [.u (.rmem M), .i M.N] := rfl
theorem out_qnew {n : Int} (h : 1 ≤ n) (h1 : n ≤ 4096) : cQNew.out [.i n] = [.u (.rmem (.new n)), .i 0] := by simp [cQNew, h, h1]
theorem pre_sw {M : MemSt} {c : List Int} (h : M.W.length ≤ 4096) : cSameWords.pre [.l M.W, .l (M.W ++ c), .i M.W.length, .i M.W.length, .i M.W.length, .i ((M.W.length + c.length : Nat) : Int)] :=
  pre_same (by omega) (by omega) (by omega) (by simp; omega) (by omega)
theorem out_sw {M : MemSt} {c : List Int} : cSameWords.out [.l M.W, .l (M.W ++ c), .i M.W.length, .i M.W.length, .i M.W.length, .i ((M.W.length + c.length : Nat) : Int)] = [.b true] := by
  rw [out_same]; simp
theorem qwords {M : MemSt} {k : Tree} {env : List (EV U)} {X : Cx U} {R : List (EV U) → List (EV U) → Prop} {ci : Nat} {β : List Bnd} (hc : X.cts[ci]? = some cQWords) (ha : β.map (Bnd.den env) = [.u (.rmem M)]) (h : 1 ≤ M.W.length) (h1 : M.W.length ≤ 4096)
    (hk : ∀ (c : List Int) (env' : List (EV U)), env ++ [.u (.rmem M), .l (M.W ++ c), .i M.W.length, .i ((M.W.length + c.length : Nat) : Int)] = env' → k.sat X R env') : (Tree.callm ci β k).sat X R env :=
  st_callm hc ha ⟨_, rfl, h, h1⟩ (fun o env' ho he => by obtain ⟨c, rfl⟩ := ho; exact hk c env' he)
theorem out_tfits (n h a t l s g w m ea ep ec tp c : Int) : cTFits.out [.i n, .i h, .i a, .i t, .i l, .i s, .i g, .i w, .i m, .i ea, .i ep, .i ec, .i tp, .i c] = [.i (fits15 n h a t l s g w m ea ep ec tp c)] := rfl
theorem out_dfits (n h a t l s g w m ea ep ec tp c : Int) : cDF15.out [.i n, .i h, .i a, .i t, .i l, .i s, .i g, .i w, .i m, .i ea, .i ep, .i ec, .i tp, .i c] = [.i (fits15D n h a t l s g w m ea ep ec tp c)] := rfl
theorem out_seen (M : MemSt) (a0 a1 a2 a3 a4 a5 a6 a7 a8 a9 a10 a11 a12 i l : Int) : cSeen.out [.u (.mem M), .u (.rmem M), .i a0, .i a1, .i a2, .i a3, .i a4, .i a5, .i a6, .i a7, .i a8, .i a9, .i a10, .i a11, .i a12, .i i, .i l] = [.u (.mem M), .u (.rmem M), .b true] := rfl
theorem out_newlay (a0 a1 a2 a3 a4 a5 a6 a7 a8 a9 a10 a11 a12 r k j h : Int) : cNewLay.out [.i a0, .i a1, .i a2, .i a3, .i a4, .i a5, .i a6, .i a7, .i a8, .i a9, .i a10, .i a11, .i a12, .i r, .i k, .i j, .i h] = [.u (.lay (newLay [a0, a1, a2, a3, a4, a5, a6, a7, a8, a9, a10, a11, a12] a0 a1 a2 a5 r k j h))] := rfl
theorem out_qnewlay (a0 a1 a2 a3 a4 a5 a6 a7 a8 a9 a10 a11 a12 r k j h : Int) : cQNewLay.out [.i a0, .i a1, .i a2, .i a3, .i a4, .i a5, .i a6, .i a7, .i a8, .i a9, .i a10, .i a11, .i a12, .i r, .i k, .i j, .i h] = [.u (.rlay (newLay [a0, a1, a2, a3, a4, a5, a6, a7, a8, a9, a10, a11, a12] a0 a1 a2 a5 r k j h))] := rfl
theorem out_laystep (L : LaySt) (M : MemSt) : cLayStep.out [.u (.lay L), .u (.mem M)] = [.u (.lay (stepLay L M).1), .u (.mem (stepLay L M).2), .b ((stepLay L M).1.line == 9)] := rfl
theorem out_qlaystep (L : LaySt) (M : MemSt) : cQLayStep.out [.u (.rlay L), .u (.rmem M)] = [.u (.rlay (stepLay L M).1), .u (.rmem (stepLay L M).2), .b ((stepLay L M).1.line == 9)] := rfl
theorem out_layerr (L : LaySt) : cLayErr.out [.u (.lay L)] = [.u (.lay L), .i (errLay L)] := rfl
theorem out_qlayerr (L : LaySt) : cQLayErr.out [.u (.rlay L)] = [.u (.rlay L), .i (errLay L)] := rfl
theorem out_layby (L : LaySt) : cLayBy.out [.u (.lay L)] = [.u (.lay L), .i L.by_] := rfl
theorem out_qlayby (L : LaySt) : cQLayBy.out [.u (.rlay L)] = [.u (.rlay L), .i L.by_] := rfl
theorem out_awk (f : FuncId) : (boolC f).out [] = [.b true] := rfl
section
variable {k : Tree} {env env' : List (EV U)} {X : Cx U} {R : List (EV U) → List (EV U) → Prop}
theorem mk_layNil (hX : X.objs = objs) (he : env ++ [.u .layNil] = env') (hk : k.sat X R env') : (Tree.ext (.mk 7 []) k).sat X R env := st_mk (T := layNilT) (by rw [hX]; rfl) rfl rfl he hk
theorem mk_rlayNil (hX : X.objs = objs) (he : env ++ [.u .rlayNil] = env') (hk : k.sat X R env') : (Tree.ext (.mk 13 []) k).sat X R env := st_mk (T := rlayNilT) (by rw [hX]; rfl) rfl rfl he hk
end
end Go.Proofs.YtbmbiiiacajolaaGreat
/- The law of towers beside the document: a round (printed by gen_yd.py). -/
namespace Go.Proofs.YtbmbiiiacajolaaGreat
set_option linter.unusedVariables false
set_option linter.unusedSimpArgs false
set_option linter.unusedSectionVars false
open Go Go.RowKit

set_option maxRecDepth 10000 in
set_option maxHeartbeats 8000000 in
theorem bTS0 (P : Program) (hs : List (Nat × Nat × List Nat)) {a0 a1 a2 a3 a4 a5 a6 a7 a8 a9 a10 a11 a12 s : Int} {gi : Nat → Nat → Int} {ki : Nat} {ci : Int} {gl : Nat → Nat → Int} {kl : Nat} {cl vi vl : Int} {x22 x23 x24 x25 x26 x27 x28 x29 x30 x31 x32 x33 x34 x35 x36 : EV U} {M : MemSt} {o0 o1 o2 : Option LaySt} {i : Int} (h1 : 0 ≤ i) (h2 : i ≤ kl) (h3 : kl ≤ 60) (h4 : 1 ≤ M.W.length) (hM : M.fine) (ht : okT a0 a1 a2 a5 = true) (hw : ∀ j, j < kl → isW (gl j 2) ∧ isW (gl j 3)) (k0 : lhOk o0) (k1 : lhOk o1) (k2 : lhOk o2) (hp : (gl i.toNat 0).emod 3 = 0) :
    tTStepsL0.sat { cxYd P [lTS1, lTS2] with hints := hs } (ctrR cTSteps) [.i a0, .i a1, .i a2, .i a3, .i a4, .i a5, .i a6, .i a7, .i a8, .i a9, .i a10, .i a11, .i a12, .i s, .f gi ki, .i ki, .i ci, .f gl kl, .i kl, .i cl, .i vi, .i vl, x22, x23, x24, x25, x26, x27, x28, x29, x30, x31, x32, x33, x34, x35, x36, .u (.mem M), .u (.rmem M), .u (lhA o0), .u (lhB o0), .u (lhA o1), .u (lhB o1), .u (lhA o2), .u (lhB o2), .i i] := by
  by_cases hi : i < kl
  · obtain ⟨hw2, hw3⟩ := hw i.toNat (by omega)
    rcases o0 with _ | L
    · have hL : True := trivial
      skip
      unfold tTStepsL0
      simp only [lhA_n, lhA_s, lhB_n, lhB_s]
      repeat' (first
        | (first
          | (with_reducible refine st_need ?_ ?_
             focus (simp only [dn, reduceCtorEq, hp] <;> first | omega | assumption))
          | (with_reducible refine st_and ?_ ?_)
          | (with_reducible exact st_ok)
          | (with_reducible refine st_br (fun hc => ?_) (fun hc => ?_) <;> (simp only [dn, reduceCtorEq, hp] at hc) <;> (try (exfalso; first | contradiction | omega)))
          | (refine st_call (by rfl) (by simp only [dn, reduceCtorEq, hp] <;> rfl) ?_ (by simp only [out_pick, hp, out_newlay, out_qnewlay, out_laystep, out_qlaystep, out_layerr, out_qlayerr, out_layby, out_qlayby, out_last, out_qlast, out_count, out_qcount, out_words, out_sw, out_seen, out_awk] <;> rfl) (by simp only [dn] <;> rfl) ?_
             focus (first | exact pre_pick (by decide) (by decide) | exact ⟨_, _, _, _, _, _, _, _, _, _, _, _, _, _, _, _, _, rfl, hw2⟩ | exact ⟨_, _, rfl, hL.1⟩ | exact ⟨_, _, rfl, hL.1, hM.1⟩ | exact ⟨_, rfl, (newLay_lok hw3).1⟩ | exact ⟨_, rfl, (step_lok hL).1⟩ | exact ⟨_, rfl, hL.1⟩ | exact ⟨_, rfl⟩ | rfl | exact pre_sw (by first | exact hM.1 | exact (step_fine hL hM).1) | exact ⟨_, _, _, _, _, _, _, _, _, _, _, _, _, _, _, _, rfl, hM, ht⟩))
          | (with_reducible refine st_ret (by simp only [dn, reduceCtorEq, hp] <;> rfl) ?_
             (first | rfl | exact ⟨_, rfl⟩)))
        | (refine qwords (by rfl) (by simp only [dn, reduceCtorEq, hp] <;> rfl) ?_ ?_ (fun cc env' he => ?_)
           focus (first | assumption | (rw [step_len]; assumption))
           focus exact (by first | exact hM.1 | exact (step_fine hL hM).1)
           simp only [List.cons_append, List.nil_append] at he
           subst he)
        | (refine st_back (by rfl) (by simp only [dn, reduceCtorEq, hp] <;> rfl) (by simp only [dn] <;> rfl) (by rfl) ?_ ?_
           focus (rw [wrap_small (n := i + 1) (by omega) (by omega)]
                  first
                    | exact ⟨_, _, _, _, _, _, _, _, _, _, _, _, _, _, _, _, _, _, _, _, _, _, _, _, _, _, _, _, _, _, _, _, _, _, _, _, _, _, (some _), _, _, _, rfl, by omega, by omega, h3, by first | assumption | (rw [step_len]; assumption), (by first | exact hM | exact step_fine hL hM), ht, hw, (lh_some (by first | exact newLay_lok hw3 | exact step_lok hL | exact hL)), k1, k2⟩
                    | exact ⟨_, _, _, _, _, _, _, _, _, _, _, _, _, _, _, _, _, _, _, _, _, _, _, _, _, _, _, _, _, _, _, _, _, _, _, _, _, _, none, _, _, _, rfl, by omega, by omega, h3, by first | assumption | (rw [step_len]; assumption), (by first | exact hM | exact step_fine hL hM), ht, hw, lh_none, k1, k2⟩)
           focus (rw [wrap_small (n := i + 1) (by omega) (by omega)]; show ((kl : Int) - (i + 1)).toNat < ((kl : Int) - i).toNat; omega))
        | fail "no step")
    · have hL := k0 L rfl
      skip
      unfold tTStepsL0
      simp only [lhA_n, lhA_s, lhB_n, lhB_s]
      repeat' (first
        | (first
          | (with_reducible refine st_need ?_ ?_
             focus (simp only [dn, reduceCtorEq, hp] <;> first | omega | assumption))
          | (with_reducible refine st_and ?_ ?_)
          | (with_reducible exact st_ok)
          | (with_reducible refine st_br (fun hc => ?_) (fun hc => ?_) <;> (simp only [dn, reduceCtorEq, hp] at hc) <;> (try (exfalso; first | contradiction | omega)))
          | (refine st_call (by rfl) (by simp only [dn, reduceCtorEq, hp] <;> rfl) ?_ (by simp only [out_pick, hp, out_newlay, out_qnewlay, out_laystep, out_qlaystep, out_layerr, out_qlayerr, out_layby, out_qlayby, out_last, out_qlast, out_count, out_qcount, out_words, out_sw, out_seen, out_awk] <;> rfl) (by simp only [dn] <;> rfl) ?_
             focus (first | exact pre_pick (by decide) (by decide) | exact ⟨_, _, _, _, _, _, _, _, _, _, _, _, _, _, _, _, _, rfl, hw2⟩ | exact ⟨_, _, rfl, hL.1⟩ | exact ⟨_, _, rfl, hL.1, hM.1⟩ | exact ⟨_, rfl, (newLay_lok hw3).1⟩ | exact ⟨_, rfl, (step_lok hL).1⟩ | exact ⟨_, rfl, hL.1⟩ | exact ⟨_, rfl⟩ | rfl | exact pre_sw (by first | exact hM.1 | exact (step_fine hL hM).1) | exact ⟨_, _, _, _, _, _, _, _, _, _, _, _, _, _, _, _, rfl, hM, ht⟩))
          | (with_reducible refine st_ret (by simp only [dn, reduceCtorEq, hp] <;> rfl) ?_
             (first | rfl | exact ⟨_, rfl⟩)))
        | (refine qwords (by rfl) (by simp only [dn, reduceCtorEq, hp] <;> rfl) ?_ ?_ (fun cc env' he => ?_)
           focus (first | assumption | (rw [step_len]; assumption))
           focus exact (by first | exact hM.1 | exact (step_fine hL hM).1)
           simp only [List.cons_append, List.nil_append] at he
           subst he)
        | (refine st_back (by rfl) (by simp only [dn, reduceCtorEq, hp] <;> rfl) (by simp only [dn] <;> rfl) (by rfl) ?_ ?_
           focus (rw [wrap_small (n := i + 1) (by omega) (by omega)]
                  first
                    | exact ⟨_, _, _, _, _, _, _, _, _, _, _, _, _, _, _, _, _, _, _, _, _, _, _, _, _, _, _, _, _, _, _, _, _, _, _, _, _, _, (some _), _, _, _, rfl, by omega, by omega, h3, by first | assumption | (rw [step_len]; assumption), (by first | exact hM | exact step_fine hL hM), ht, hw, (lh_some (by first | exact newLay_lok hw3 | exact step_lok hL | exact hL)), k1, k2⟩
                    | exact ⟨_, _, _, _, _, _, _, _, _, _, _, _, _, _, _, _, _, _, _, _, _, _, _, _, _, _, _, _, _, _, _, _, _, _, _, _, _, _, none, _, _, _, rfl, by omega, by omega, h3, by first | assumption | (rw [step_len]; assumption), (by first | exact hM | exact step_fine hL hM), ht, hw, lh_none, k1, k2⟩)
           focus (rw [wrap_small (n := i + 1) (by omega) (by omega)]; show ((kl : Int) - (i + 1)).toNat < ((kl : Int) - i).toNat; omega))
        | fail "no step")
  · have hw2 : True := trivial
    have hw3 : True := trivial
    have hL : True := trivial
    unfold tTStepsL0
    simp only [lhA_n, lhA_s, lhB_n, lhB_s]
    repeat' (first
      | (first
        | (with_reducible refine st_need ?_ ?_
           focus (simp only [dn, reduceCtorEq, hp] <;> first | omega | assumption))
        | (with_reducible refine st_and ?_ ?_)
        | (with_reducible exact st_ok)
        | (with_reducible refine st_br (fun hc => ?_) (fun hc => ?_) <;> (simp only [dn, reduceCtorEq, hp] at hc) <;> (try (exfalso; first | contradiction | omega)))
        | (refine st_call (by rfl) (by simp only [dn, reduceCtorEq, hp] <;> rfl) ?_ (by simp only [out_pick, hp, out_newlay, out_qnewlay, out_laystep, out_qlaystep, out_layerr, out_qlayerr, out_layby, out_qlayby, out_last, out_qlast, out_count, out_qcount, out_words, out_sw, out_seen, out_awk] <;> rfl) (by simp only [dn] <;> rfl) ?_
           focus (first | exact pre_pick (by decide) (by decide) | exact ⟨_, _, _, _, _, _, _, _, _, _, _, _, _, _, _, _, _, rfl, hw2⟩ | exact ⟨_, _, rfl, hL.1⟩ | exact ⟨_, _, rfl, hL.1, hM.1⟩ | exact ⟨_, rfl, (newLay_lok hw3).1⟩ | exact ⟨_, rfl, (step_lok hL).1⟩ | exact ⟨_, rfl, hL.1⟩ | exact ⟨_, rfl⟩ | rfl | exact pre_sw (by first | exact hM.1 | exact (step_fine hL hM).1) | exact ⟨_, _, _, _, _, _, _, _, _, _, _, _, _, _, _, _, rfl, hM, ht⟩))
        | (with_reducible refine st_ret (by simp only [dn, reduceCtorEq, hp] <;> rfl) ?_
           (first | rfl | exact ⟨_, rfl⟩)))
      | (refine qwords (by rfl) (by simp only [dn, reduceCtorEq, hp] <;> rfl) ?_ ?_ (fun cc env' he => ?_)
         focus (first | assumption | (rw [step_len]; assumption))
         focus exact (by first | exact hM.1 | exact (step_fine hL hM).1)
         simp only [List.cons_append, List.nil_append] at he
         subst he)
      | (refine st_back (by rfl) (by simp only [dn, reduceCtorEq, hp] <;> rfl) (by simp only [dn] <;> rfl) (by rfl) ?_ ?_
         focus (rw [wrap_small (n := i + 1) (by omega) (by omega)]
                first
                  | exact ⟨_, _, _, _, _, _, _, _, _, _, _, _, _, _, _, _, _, _, _, _, _, _, _, _, _, _, _, _, _, _, _, _, _, _, _, _, _, _, (some _), _, _, _, rfl, by omega, by omega, h3, by first | assumption | (rw [step_len]; assumption), (by first | exact hM | exact step_fine hL hM), ht, hw, (lh_some (by first | exact newLay_lok hw3 | exact step_lok hL | exact hL)), k1, k2⟩
                  | exact ⟨_, _, _, _, _, _, _, _, _, _, _, _, _, _, _, _, _, _, _, _, _, _, _, _, _, _, _, _, _, _, _, _, _, _, _, _, _, _, none, _, _, _, rfl, by omega, by omega, h3, by first | assumption | (rw [step_len]; assumption), (by first | exact hM | exact step_fine hL hM), ht, hw, lh_none, k1, k2⟩)
         focus (rw [wrap_small (n := i + 1) (by omega) (by omega)]; show ((kl : Int) - (i + 1)).toNat < ((kl : Int) - i).toNat; omega))
      | fail "no step")
set_option maxRecDepth 10000 in
set_option maxHeartbeats 8000000 in
theorem bTS1 (P : Program) (hs : List (Nat × Nat × List Nat)) {a0 a1 a2 a3 a4 a5 a6 a7 a8 a9 a10 a11 a12 s : Int} {gi : Nat → Nat → Int} {ki : Nat} {ci : Int} {gl : Nat → Nat → Int} {kl : Nat} {cl vi vl : Int} {x22 x23 x24 x25 x26 x27 x28 x29 x30 x31 x32 x33 x34 x35 x36 : EV U} {M : MemSt} {o0 o1 o2 : Option LaySt} {i : Int} (h1 : 0 ≤ i) (h2 : i ≤ kl) (h3 : kl ≤ 60) (h4 : 1 ≤ M.W.length) (hM : M.fine) (ht : okT a0 a1 a2 a5 = true) (hw : ∀ j, j < kl → isW (gl j 2) ∧ isW (gl j 3)) (k0 : lhOk o0) (k1 : lhOk o1) (k2 : lhOk o2) (hp : (gl i.toNat 0).emod 3 = 1) :
    tTStepsL0.sat { cxYd P [lTS1, lTS2] with hints := hs } (ctrR cTSteps) [.i a0, .i a1, .i a2, .i a3, .i a4, .i a5, .i a6, .i a7, .i a8, .i a9, .i a10, .i a11, .i a12, .i s, .f gi ki, .i ki, .i ci, .f gl kl, .i kl, .i cl, .i vi, .i vl, x22, x23, x24, x25, x26, x27, x28, x29, x30, x31, x32, x33, x34, x35, x36, .u (.mem M), .u (.rmem M), .u (lhA o0), .u (lhB o0), .u (lhA o1), .u (lhB o1), .u (lhA o2), .u (lhB o2), .i i] := by
  by_cases hi : i < kl
  · obtain ⟨hw2, hw3⟩ := hw i.toNat (by omega)
    rcases o1 with _ | L
    · have hL : True := trivial
      skip
      unfold tTStepsL0
      simp only [lhA_n, lhA_s, lhB_n, lhB_s]
      repeat' (first
        | (first
          | (with_reducible refine st_need ?_ ?_
             focus (simp only [dn, reduceCtorEq, hp] <;> first | omega | assumption))
          | (with_reducible refine st_and ?_ ?_)
          | (with_reducible exact st_ok)
          | (with_reducible refine st_br (fun hc => ?_) (fun hc => ?_) <;> (simp only [dn, reduceCtorEq, hp] at hc) <;> (try (exfalso; first | contradiction | omega)))
          | (refine st_call (by rfl) (by simp only [dn, reduceCtorEq, hp] <;> rfl) ?_ (by simp only [out_pick, hp, out_newlay, out_qnewlay, out_laystep, out_qlaystep, out_layerr, out_qlayerr, out_layby, out_qlayby, out_last, out_qlast, out_count, out_qcount, out_words, out_sw, out_seen, out_awk] <;> rfl) (by simp only [dn] <;> rfl) ?_
             focus (first | exact pre_pick (by decide) (by decide) | exact ⟨_, _, _, _, _, _, _, _, _, _, _, _, _, _, _, _, _, rfl, hw2⟩ | exact ⟨_, _, rfl, hL.1⟩ | exact ⟨_, _, rfl, hL.1, hM.1⟩ | exact ⟨_, rfl, (newLay_lok hw3).1⟩ | exact ⟨_, rfl, (step_lok hL).1⟩ | exact ⟨_, rfl, hL.1⟩ | exact ⟨_, rfl⟩ | rfl | exact pre_sw (by first | exact hM.1 | exact (step_fine hL hM).1) | exact ⟨_, _, _, _, _, _, _, _, _, _, _, _, _, _, _, _, rfl, hM, ht⟩))
          | (with_reducible refine st_ret (by simp only [dn, reduceCtorEq, hp] <;> rfl) ?_
             (first | rfl | exact ⟨_, rfl⟩)))
        | (refine qwords (by rfl) (by simp only [dn, reduceCtorEq, hp] <;> rfl) ?_ ?_ (fun cc env' he => ?_)
           focus (first | assumption | (rw [step_len]; assumption))
           focus exact (by first | exact hM.1 | exact (step_fine hL hM).1)
           simp only [List.cons_append, List.nil_append] at he
           subst he)
        | (refine st_back (by rfl) (by simp only [dn, reduceCtorEq, hp] <;> rfl) (by simp only [dn] <;> rfl) (by rfl) ?_ ?_
           focus (rw [wrap_small (n := i + 1) (by omega) (by omega)]
                  first
                    | exact ⟨_, _, _, _, _, _, _, _, _, _, _, _, _, _, _, _, _, _, _, _, _, _, _, _, _, _, _, _, _, _, _, _, _, _, _, _, _, _, _, (some _), _, _, rfl, by omega, by omega, h3, by first | assumption | (rw [step_len]; assumption), (by first | exact hM | exact step_fine hL hM), ht, hw, k0, (lh_some (by first | exact newLay_lok hw3 | exact step_lok hL | exact hL)), k2⟩
                    | exact ⟨_, _, _, _, _, _, _, _, _, _, _, _, _, _, _, _, _, _, _, _, _, _, _, _, _, _, _, _, _, _, _, _, _, _, _, _, _, _, _, none, _, _, rfl, by omega, by omega, h3, by first | assumption | (rw [step_len]; assumption), (by first | exact hM | exact step_fine hL hM), ht, hw, k0, lh_none, k2⟩)
           focus (rw [wrap_small (n := i + 1) (by omega) (by omega)]; show ((kl : Int) - (i + 1)).toNat < ((kl : Int) - i).toNat; omega))
        | fail "no step")
    · have hL := k1 L rfl
      skip
      unfold tTStepsL0
      simp only [lhA_n, lhA_s, lhB_n, lhB_s]
      repeat' (first
        | (first
          | (with_reducible refine st_need ?_ ?_
             focus (simp only [dn, reduceCtorEq, hp] <;> first | omega | assumption))
          | (with_reducible refine st_and ?_ ?_)
          | (with_reducible exact st_ok)
          | (with_reducible refine st_br (fun hc => ?_) (fun hc => ?_) <;> (simp only [dn, reduceCtorEq, hp] at hc) <;> (try (exfalso; first | contradiction | omega)))
          | (refine st_call (by rfl) (by simp only [dn, reduceCtorEq, hp] <;> rfl) ?_ (by simp only [out_pick, hp, out_newlay, out_qnewlay, out_laystep, out_qlaystep, out_layerr, out_qlayerr, out_layby, out_qlayby, out_last, out_qlast, out_count, out_qcount, out_words, out_sw, out_seen, out_awk] <;> rfl) (by simp only [dn] <;> rfl) ?_
             focus (first | exact pre_pick (by decide) (by decide) | exact ⟨_, _, _, _, _, _, _, _, _, _, _, _, _, _, _, _, _, rfl, hw2⟩ | exact ⟨_, _, rfl, hL.1⟩ | exact ⟨_, _, rfl, hL.1, hM.1⟩ | exact ⟨_, rfl, (newLay_lok hw3).1⟩ | exact ⟨_, rfl, (step_lok hL).1⟩ | exact ⟨_, rfl, hL.1⟩ | exact ⟨_, rfl⟩ | rfl | exact pre_sw (by first | exact hM.1 | exact (step_fine hL hM).1) | exact ⟨_, _, _, _, _, _, _, _, _, _, _, _, _, _, _, _, rfl, hM, ht⟩))
          | (with_reducible refine st_ret (by simp only [dn, reduceCtorEq, hp] <;> rfl) ?_
             (first | rfl | exact ⟨_, rfl⟩)))
        | (refine qwords (by rfl) (by simp only [dn, reduceCtorEq, hp] <;> rfl) ?_ ?_ (fun cc env' he => ?_)
           focus (first | assumption | (rw [step_len]; assumption))
           focus exact (by first | exact hM.1 | exact (step_fine hL hM).1)
           simp only [List.cons_append, List.nil_append] at he
           subst he)
        | (refine st_back (by rfl) (by simp only [dn, reduceCtorEq, hp] <;> rfl) (by simp only [dn] <;> rfl) (by rfl) ?_ ?_
           focus (rw [wrap_small (n := i + 1) (by omega) (by omega)]
                  first
                    | exact ⟨_, _, _, _, _, _, _, _, _, _, _, _, _, _, _, _, _, _, _, _, _, _, _, _, _, _, _, _, _, _, _, _, _, _, _, _, _, _, _, (some _), _, _, rfl, by omega, by omega, h3, by first | assumption | (rw [step_len]; assumption), (by first | exact hM | exact step_fine hL hM), ht, hw, k0, (lh_some (by first | exact newLay_lok hw3 | exact step_lok hL | exact hL)), k2⟩
                    | exact ⟨_, _, _, _, _, _, _, _, _, _, _, _, _, _, _, _, _, _, _, _, _, _, _, _, _, _, _, _, _, _, _, _, _, _, _, _, _, _, _, none, _, _, rfl, by omega, by omega, h3, by first | assumption | (rw [step_len]; assumption), (by first | exact hM | exact step_fine hL hM), ht, hw, k0, lh_none, k2⟩)
           focus (rw [wrap_small (n := i + 1) (by omega) (by omega)]; show ((kl : Int) - (i + 1)).toNat < ((kl : Int) - i).toNat; omega))
        | fail "no step")
  · have hw2 : True := trivial
    have hw3 : True := trivial
    have hL : True := trivial
    unfold tTStepsL0
    simp only [lhA_n, lhA_s, lhB_n, lhB_s]
    repeat' (first
      | (first
        | (with_reducible refine st_need ?_ ?_
           focus (simp only [dn, reduceCtorEq, hp] <;> first | omega | assumption))
        | (with_reducible refine st_and ?_ ?_)
        | (with_reducible exact st_ok)
        | (with_reducible refine st_br (fun hc => ?_) (fun hc => ?_) <;> (simp only [dn, reduceCtorEq, hp] at hc) <;> (try (exfalso; first | contradiction | omega)))
        | (refine st_call (by rfl) (by simp only [dn, reduceCtorEq, hp] <;> rfl) ?_ (by simp only [out_pick, hp, out_newlay, out_qnewlay, out_laystep, out_qlaystep, out_layerr, out_qlayerr, out_layby, out_qlayby, out_last, out_qlast, out_count, out_qcount, out_words, out_sw, out_seen, out_awk] <;> rfl) (by simp only [dn] <;> rfl) ?_
           focus (first | exact pre_pick (by decide) (by decide) | exact ⟨_, _, _, _, _, _, _, _, _, _, _, _, _, _, _, _, _, rfl, hw2⟩ | exact ⟨_, _, rfl, hL.1⟩ | exact ⟨_, _, rfl, hL.1, hM.1⟩ | exact ⟨_, rfl, (newLay_lok hw3).1⟩ | exact ⟨_, rfl, (step_lok hL).1⟩ | exact ⟨_, rfl, hL.1⟩ | exact ⟨_, rfl⟩ | rfl | exact pre_sw (by first | exact hM.1 | exact (step_fine hL hM).1) | exact ⟨_, _, _, _, _, _, _, _, _, _, _, _, _, _, _, _, rfl, hM, ht⟩))
        | (with_reducible refine st_ret (by simp only [dn, reduceCtorEq, hp] <;> rfl) ?_
           (first | rfl | exact ⟨_, rfl⟩)))
      | (refine qwords (by rfl) (by simp only [dn, reduceCtorEq, hp] <;> rfl) ?_ ?_ (fun cc env' he => ?_)
         focus (first | assumption | (rw [step_len]; assumption))
         focus exact (by first | exact hM.1 | exact (step_fine hL hM).1)
         simp only [List.cons_append, List.nil_append] at he
         subst he)
      | (refine st_back (by rfl) (by simp only [dn, reduceCtorEq, hp] <;> rfl) (by simp only [dn] <;> rfl) (by rfl) ?_ ?_
         focus (rw [wrap_small (n := i + 1) (by omega) (by omega)]
                first
                  | exact ⟨_, _, _, _, _, _, _, _, _, _, _, _, _, _, _, _, _, _, _, _, _, _, _, _, _, _, _, _, _, _, _, _, _, _, _, _, _, _, _, (some _), _, _, rfl, by omega, by omega, h3, by first | assumption | (rw [step_len]; assumption), (by first | exact hM | exact step_fine hL hM), ht, hw, k0, (lh_some (by first | exact newLay_lok hw3 | exact step_lok hL | exact hL)), k2⟩
                  | exact ⟨_, _, _, _, _, _, _, _, _, _, _, _, _, _, _, _, _, _, _, _, _, _, _, _, _, _, _, _, _, _, _, _, _, _, _, _, _, _, _, none, _, _, rfl, by omega, by omega, h3, by first | assumption | (rw [step_len]; assumption), (by first | exact hM | exact step_fine hL hM), ht, hw, k0, lh_none, k2⟩)
         focus (rw [wrap_small (n := i + 1) (by omega) (by omega)]; show ((kl : Int) - (i + 1)).toNat < ((kl : Int) - i).toNat; omega))
      | fail "no step")
set_option maxRecDepth 10000 in
set_option maxHeartbeats 8000000 in
theorem bTS2 (P : Program) (hs : List (Nat × Nat × List Nat)) {a0 a1 a2 a3 a4 a5 a6 a7 a8 a9 a10 a11 a12 s : Int} {gi : Nat → Nat → Int} {ki : Nat} {ci : Int} {gl : Nat → Nat → Int} {kl : Nat} {cl vi vl : Int} {x22 x23 x24 x25 x26 x27 x28 x29 x30 x31 x32 x33 x34 x35 x36 : EV U} {M : MemSt} {o0 o1 o2 : Option LaySt} {i : Int} (h1 : 0 ≤ i) (h2 : i ≤ kl) (h3 : kl ≤ 60) (h4 : 1 ≤ M.W.length) (hM : M.fine) (ht : okT a0 a1 a2 a5 = true) (hw : ∀ j, j < kl → isW (gl j 2) ∧ isW (gl j 3)) (k0 : lhOk o0) (k1 : lhOk o1) (k2 : lhOk o2) (hp : (gl i.toNat 0).emod 3 = 2) :
    tTStepsL0.sat { cxYd P [lTS1, lTS2] with hints := hs } (ctrR cTSteps) [.i a0, .i a1, .i a2, .i a3, .i a4, .i a5, .i a6, .i a7, .i a8, .i a9, .i a10, .i a11, .i a12, .i s, .f gi ki, .i ki, .i ci, .f gl kl, .i kl, .i cl, .i vi, .i vl, x22, x23, x24, x25, x26, x27, x28, x29, x30, x31, x32, x33, x34, x35, x36, .u (.mem M), .u (.rmem M), .u (lhA o0), .u (lhB o0), .u (lhA o1), .u (lhB o1), .u (lhA o2), .u (lhB o2), .i i] := by
  by_cases hi : i < kl
  · obtain ⟨hw2, hw3⟩ := hw i.toNat (by omega)
    rcases o2 with _ | L
    · have hL : True := trivial
      skip
      unfold tTStepsL0
      simp only [lhA_n, lhA_s, lhB_n, lhB_s]
      repeat' (first
        | (first
          | (with_reducible refine st_need ?_ ?_
             focus (simp only [dn, reduceCtorEq, hp] <;> first | omega | assumption))
          | (with_reducible refine st_and ?_ ?_)
          | (with_reducible exact st_ok)
          | (with_reducible refine st_br (fun hc => ?_) (fun hc => ?_) <;> (simp only [dn, reduceCtorEq, hp] at hc) <;> (try (exfalso; first | contradiction | omega)))
          | (refine st_call (by rfl) (by simp only [dn, reduceCtorEq, hp] <;> rfl) ?_ (by simp only [out_pick, hp, out_newlay, out_qnewlay, out_laystep, out_qlaystep, out_layerr, out_qlayerr, out_layby, out_qlayby, out_last, out_qlast, out_count, out_qcount, out_words, out_sw, out_seen, out_awk] <;> rfl) (by simp only [dn] <;> rfl) ?_
             focus (first | exact pre_pick (by decide) (by decide) | exact ⟨_, _, _, _, _, _, _, _, _, _, _, _, _, _, _, _, _, rfl, hw2⟩ | exact ⟨_, _, rfl, hL.1⟩ | exact ⟨_, _, rfl, hL.1, hM.1⟩ | exact ⟨_, rfl, (newLay_lok hw3).1⟩ | exact ⟨_, rfl, (step_lok hL).1⟩ | exact ⟨_, rfl, hL.1⟩ | exact ⟨_, rfl⟩ | rfl | exact pre_sw (by first | exact hM.1 | exact (step_fine hL hM).1) | exact ⟨_, _, _, _, _, _, _, _, _, _, _, _, _, _, _, _, rfl, hM, ht⟩))
          | (with_reducible refine st_ret (by simp only [dn, reduceCtorEq, hp] <;> rfl) ?_
             (first | rfl | exact ⟨_, rfl⟩)))
        | (refine qwords (by rfl) (by simp only [dn, reduceCtorEq, hp] <;> rfl) ?_ ?_ (fun cc env' he => ?_)
           focus (first | assumption | (rw [step_len]; assumption))
           focus exact (by first | exact hM.1 | exact (step_fine hL hM).1)
           simp only [List.cons_append, List.nil_append] at he
           subst he)
        | (refine st_back (by rfl) (by simp only [dn, reduceCtorEq, hp] <;> rfl) (by simp only [dn] <;> rfl) (by rfl) ?_ ?_
           focus (rw [wrap_small (n := i + 1) (by omega) (by omega)]
                  first
                    | exact ⟨_, _, _, _, _, _, _, _, _, _, _, _, _, _, _, _, _, _, _, _, _, _, _, _, _, _, _, _, _, _, _, _, _, _, _, _, _, _, _, _, (some _), _, rfl, by omega, by omega, h3, by first | assumption | (rw [step_len]; assumption), (by first | exact hM | exact step_fine hL hM), ht, hw, k0, k1, (lh_some (by first | exact newLay_lok hw3 | exact step_lok hL | exact hL))⟩
                    | exact ⟨_, _, _, _, _, _, _, _, _, _, _, _, _, _, _, _, _, _, _, _, _, _, _, _, _, _, _, _, _, _, _, _, _, _, _, _, _, _, _, _, none, _, rfl, by omega, by omega, h3, by first | assumption | (rw [step_len]; assumption), (by first | exact hM | exact step_fine hL hM), ht, hw, k0, k1, lh_none⟩)
           focus (rw [wrap_small (n := i + 1) (by omega) (by omega)]; show ((kl : Int) - (i + 1)).toNat < ((kl : Int) - i).toNat; omega))
        | fail "no step")
    · have hL := k2 L rfl
      skip
      unfold tTStepsL0
      simp only [lhA_n, lhA_s, lhB_n, lhB_s]
      repeat' (first
        | (first
          | (with_reducible refine st_need ?_ ?_
             focus (simp only [dn, reduceCtorEq, hp] <;> first | omega | assumption))
          | (with_reducible refine st_and ?_ ?_)
          | (with_reducible exact st_ok)
          | (with_reducible refine st_br (fun hc => ?_) (fun hc => ?_) <;> (simp only [dn, reduceCtorEq, hp] at hc) <;> (try (exfalso; first | contradiction | omega)))
          | (refine st_call (by rfl) (by simp only [dn, reduceCtorEq, hp] <;> rfl) ?_ (by simp only [out_pick, hp, out_newlay, out_qnewlay, out_laystep, out_qlaystep, out_layerr, out_qlayerr, out_layby, out_qlayby, out_last, out_qlast, out_count, out_qcount, out_words, out_sw, out_seen, out_awk] <;> rfl) (by simp only [dn] <;> rfl) ?_
             focus (first | exact pre_pick (by decide) (by decide) | exact ⟨_, _, _, _, _, _, _, _, _, _, _, _, _, _, _, _, _, rfl, hw2⟩ | exact ⟨_, _, rfl, hL.1⟩ | exact ⟨_, _, rfl, hL.1, hM.1⟩ | exact ⟨_, rfl, (newLay_lok hw3).1⟩ | exact ⟨_, rfl, (step_lok hL).1⟩ | exact ⟨_, rfl, hL.1⟩ | exact ⟨_, rfl⟩ | rfl | exact pre_sw (by first | exact hM.1 | exact (step_fine hL hM).1) | exact ⟨_, _, _, _, _, _, _, _, _, _, _, _, _, _, _, _, rfl, hM, ht⟩))
          | (with_reducible refine st_ret (by simp only [dn, reduceCtorEq, hp] <;> rfl) ?_
             (first | rfl | exact ⟨_, rfl⟩)))
        | (refine qwords (by rfl) (by simp only [dn, reduceCtorEq, hp] <;> rfl) ?_ ?_ (fun cc env' he => ?_)
           focus (first | assumption | (rw [step_len]; assumption))
           focus exact (by first | exact hM.1 | exact (step_fine hL hM).1)
           simp only [List.cons_append, List.nil_append] at he
           subst he)
        | (refine st_back (by rfl) (by simp only [dn, reduceCtorEq, hp] <;> rfl) (by simp only [dn] <;> rfl) (by rfl) ?_ ?_
           focus (rw [wrap_small (n := i + 1) (by omega) (by omega)]
                  first
                    | exact ⟨_, _, _, _, _, _, _, _, _, _, _, _, _, _, _, _, _, _, _, _, _, _, _, _, _, _, _, _, _, _, _, _, _, _, _, _, _, _, _, _, (some _), _, rfl, by omega, by omega, h3, by first | assumption | (rw [step_len]; assumption), (by first | exact hM | exact step_fine hL hM), ht, hw, k0, k1, (lh_some (by first | exact newLay_lok hw3 | exact step_lok hL | exact hL))⟩
                    | exact ⟨_, _, _, _, _, _, _, _, _, _, _, _, _, _, _, _, _, _, _, _, _, _, _, _, _, _, _, _, _, _, _, _, _, _, _, _, _, _, _, _, none, _, rfl, by omega, by omega, h3, by first | assumption | (rw [step_len]; assumption), (by first | exact hM | exact step_fine hL hM), ht, hw, k0, k1, lh_none⟩)
           focus (rw [wrap_small (n := i + 1) (by omega) (by omega)]; show ((kl : Int) - (i + 1)).toNat < ((kl : Int) - i).toNat; omega))
        | fail "no step")
  · have hw2 : True := trivial
    have hw3 : True := trivial
    have hL : True := trivial
    unfold tTStepsL0
    simp only [lhA_n, lhA_s, lhB_n, lhB_s]
    repeat' (first
      | (first
        | (with_reducible refine st_need ?_ ?_
           focus (simp only [dn, reduceCtorEq, hp] <;> first | omega | assumption))
        | (with_reducible refine st_and ?_ ?_)
        | (with_reducible exact st_ok)
        | (with_reducible refine st_br (fun hc => ?_) (fun hc => ?_) <;> (simp only [dn, reduceCtorEq, hp] at hc) <;> (try (exfalso; first | contradiction | omega)))
        | (refine st_call (by rfl) (by simp only [dn, reduceCtorEq, hp] <;> rfl) ?_ (by simp only [out_pick, hp, out_newlay, out_qnewlay, out_laystep, out_qlaystep, out_layerr, out_qlayerr, out_layby, out_qlayby, out_last, out_qlast, out_count, out_qcount, out_words, out_sw, out_seen, out_awk] <;> rfl) (by simp only [dn] <;> rfl) ?_
           focus (first | exact pre_pick (by decide) (by decide) | exact ⟨_, _, _, _, _, _, _, _, _, _, _, _, _, _, _, _, _, rfl, hw2⟩ | exact ⟨_, _, rfl, hL.1⟩ | exact ⟨_, _, rfl, hL.1, hM.1⟩ | exact ⟨_, rfl, (newLay_lok hw3).1⟩ | exact ⟨_, rfl, (step_lok hL).1⟩ | exact ⟨_, rfl, hL.1⟩ | exact ⟨_, rfl⟩ | rfl | exact pre_sw (by first | exact hM.1 | exact (step_fine hL hM).1) | exact ⟨_, _, _, _, _, _, _, _, _, _, _, _, _, _, _, _, rfl, hM, ht⟩))
        | (with_reducible refine st_ret (by simp only [dn, reduceCtorEq, hp] <;> rfl) ?_
           (first | rfl | exact ⟨_, rfl⟩)))
      | (refine qwords (by rfl) (by simp only [dn, reduceCtorEq, hp] <;> rfl) ?_ ?_ (fun cc env' he => ?_)
         focus (first | assumption | (rw [step_len]; assumption))
         focus exact (by first | exact hM.1 | exact (step_fine hL hM).1)
         simp only [List.cons_append, List.nil_append] at he
         subst he)
      | (refine st_back (by rfl) (by simp only [dn, reduceCtorEq, hp] <;> rfl) (by simp only [dn] <;> rfl) (by rfl) ?_ ?_
         focus (rw [wrap_small (n := i + 1) (by omega) (by omega)]
                first
                  | exact ⟨_, _, _, _, _, _, _, _, _, _, _, _, _, _, _, _, _, _, _, _, _, _, _, _, _, _, _, _, _, _, _, _, _, _, _, _, _, _, _, _, (some _), _, rfl, by omega, by omega, h3, by first | assumption | (rw [step_len]; assumption), (by first | exact hM | exact step_fine hL hM), ht, hw, k0, k1, (lh_some (by first | exact newLay_lok hw3 | exact step_lok hL | exact hL))⟩
                  | exact ⟨_, _, _, _, _, _, _, _, _, _, _, _, _, _, _, _, _, _, _, _, _, _, _, _, _, _, _, _, _, _, _, _, _, _, _, _, _, _, _, _, none, _, rfl, by omega, by omega, h3, by first | assumption | (rw [step_len]; assumption), (by first | exact hM | exact step_fine hL hM), ht, hw, k0, k1, lh_none⟩)
         focus (rw [wrap_small (n := i + 1) (by omega) (by omega)]; show ((kl : Int) - (i + 1)).toNat < ((kl : Int) - i).toNat; omega))
      | fail "no step")
end Go.Proofs.YtbmbiiiacajolaaGreat
