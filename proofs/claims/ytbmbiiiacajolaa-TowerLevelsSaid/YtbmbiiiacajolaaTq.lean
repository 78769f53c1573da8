/- What is linked on a level is told: the law's contract. -/
import Derived.Test.YtbmbiiiacajolaaTp
import Derived.Test.YtbmbiiiacajolaaTr
namespace Go.Proofs.Ytbmbiiiacajolaa
set_option linter.unusedVariables false
set_option linter.unusedSimpArgs false
set_option linter.unusedSectionVars false
open Go

def cSameInts : Ctr U :=
  { fn := 45, nin := 6, args := [.slice 0 (.var 2) (.var 3), .slice 1 (.var 4) (.var 5)], heap := [.row .i64 3 0, .row .i64 3 1]
    pre := fun ins => ∃ xs ys a b c d, ins = [.l xs, .l ys, .i a, .i c, .i b, .i d] ∧ 0 ≤ a ∧ a ≤ xs.length ∧ 0 ≤ b ∧ b ≤ ys.length ∧ a < 2 ^ 62, nout := 1
    out := fun ins => match ins with | [.l xs, .l ys, .i a, _, .i b, _] => [.b (decide (xs.take a.toNat = ys.take b.toNat))] | _ => []
    ret := .bool (.var 6), post := [.row .i64 3 0, .row .i64 3 1] }
def lSameInts : LoopS U :=
  { fn := 45, rid := 3, nv := 2, tm := [(5, .bool (.var 7)), (6, .int .i64 (.var 6))], hp := [], reb := []
    inv := fun env => ∃ k b, env.drop 6 = [.i k, .b b] ∧ 0 ≤ k ∧ k ≤ gI env 2 ∧ (b = true → gI env 2 = gI env 4 ∧ (gL env 0).take k.toNat = (gL env 1).take k.toNat) ∧ (b = false → (gL env 0).take (gI env 2).toNat ≠ (gL env 1).take (gI env 4).toNat)
    mu := fun env => (gI env 2 - gI env 6).toNat + if gB env 7 then 1 else 0 }
def cxTi (P : Program) : Cx U := { cx P [] with loops := [lSameInts] }
def ctsTq : List (Ctr U) := ctsT0 ++ [cSameInts, cPick, cTFillC, cNextT, cLevelT, cLiveT, cAmongT, lit (lB 8)]
def cTLevels : Ctr U :=
  { fn := 10, nin := 5, args := [.slice 0 (.var 1) (.var 2), .int .i64 (.var 3), .int .i64 (.var 4)], heap := [.ro [some .i64] 0]
    pre := fun ins => ∃ g, ∃ n : Nat, ∃ c lv mk, ins = [.f g n, .i n, .i c, .i lv, .i mk], nout := 1, out := fun _ => [.b true], ret := .bool (.var 5), post := [.ro [some .i64] 0] }
def rowOk (R : List Int) : Prop := R.Nodup ∧ ∀ x ∈ R, 0 ≤ x ∧ x < 3
def tv1Inv (env : List (EV U)) : Prop := ∃ g, ∃ n : Nat, ∃ c lv mk x6 x7, ∃ R cc : List Int, ∃ k, env = [.f g n, .i n, .i c, .i lv, .i mk, .b true, x6, x7, .u (.mem fillC), .l (R ++ cc), .i R.length, .i ((R.length + cc.length : Nat) : Int), .i k] ∧ 0 ≤ k ∧ k ≤ n ∧ k ≤ 20 ∧ rowOk R
def lTv1 : LoopS U :=
  { fn := 10, rid := 9, nv := 4, tm := [(13, .int .i64 (.var 12)), (11, .slice 3 (.var 10) (.var 11))], hp := [(3, .row .i64 3 9)], reb := [(3, 0)], inv := tv1Inv, mu := fun env => (gI env 1 - gI env 12).toNat }
def tv2Inv (env : List (EV U)) : Prop := ∃ g, ∃ n : Nat, ∃ c lv0 mk x6 x7 x8, ∃ R cc : List Int, ∃ x12 lv M at_ b, ∃ V vc : List Int, ∃ k, env = [.f g n, .i n, .i c, .i lv0, .i mk, .b true, x6, x7, x8, .l (R ++ cc), .i R.length, .i ((R.length + cc.length : Nat) : Int), x12, .i lv, .u (.mem M), .i at_, .b b, .l (V ++ vc), .i V.length, .i ((V.length + vc.length : Nat) : Int), .i k] ∧
  0 ≤ k ∧ k ≤ R.length + 1 ∧ rowOk R ∧ 0 ≤ lv ∧ lv ≤ 1 ∧ M.W = linkW R (bitsL mk) lv k.toNat ∧ (k ≤ R.length → at_ = prevE R k.toNat ∧ b = mkE (bitsL mk) k.toNat) ∧ V = liveR R (bitsL mk) (min k.toNat R.length)
def lTv2 : LoopS U :=
  { fn := 10, rid := 17, nv := 7, tm := [(15, .int .i64 (.var 15)), (16, .bool (.var 16)), (17, .int .i64 (.var 20)), (12, .slice 4 (.var 18) (.var 19))], hp := [(1, .abs 14), (4, .row .i64 3 17)], reb := [(4, 0)], inv := tv2Inv, mu := fun env => (gI env 10 + 1 - gI env 20).toNat }
def cxTv (P : Program) : Cx U := { cx P ctsTq with join := true, loops := [lTv1, lTv2] }
end Go.Proofs.Ytbmbiiiacajolaa
