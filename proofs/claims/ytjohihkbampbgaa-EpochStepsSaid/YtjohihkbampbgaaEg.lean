/- Epochs: the chapter's law beside the document: contracts. -/
import Derived.Test.YtjohihkbampbgaaEfV
namespace Go.Proofs.Ytjohihkbampbgaa
set_option linter.unusedVariables false
set_option linter.unusedSimpArgs false
set_option linter.unusedSectionVars false
open Go

def ctsEG : List (Ctr U) := ctsEA ++ [cEFits, cQEFits, cEFill, cQEFill, cENow, cQENow, cEPinned, cQEPinned, cENewPin, cQNewPin, cENewUnp, cQNewUnp, cENewAdv, cQNewAdv, cTold, cTold1, cTold2, cTold3, cSameInts, cOverInts, cQStore, cQNew, cQLast, cQCount, cQWords]
theorem hctsEG : ∀ (ci : Nat) (c : Ctr U), ctsEG[ci]? = some c → c.Holds objs Try.prog := ctsApp hctsEA (by
  intro ci c h
  match ci, h with
  | 0, h => cases h; exact hEFits
  | 1, h => cases h; exact hQEFits
  | 2, h => cases h; exact hEFill
  | 3, h => cases h; exact hQEFill
  | 4, h => cases h; exact hENow
  | 5, h => cases h; exact hQENow
  | 6, h => cases h; exact hEPinned
  | 7, h => cases h; exact hQEPinned
  | 8, h => cases h; exact hENewPin
  | 9, h => cases h; exact hQNewPin
  | 10, h => cases h; exact hENewUnp
  | 11, h => cases h; exact hQNewUnp
  | 12, h => cases h; exact hENewAdv
  | 13, h => cases h; exact hQNewAdv
  | 14, h => cases h; exact hTold
  | 15, h => cases h; exact hTold1
  | 16, h => cases h; exact hTold2
  | 17, h => cases h; exact hTold3
  | 18, h => cases h; exact hSameInts
  | 19, h => cases h; exact hOverInts
  | 20, h => cases h; exact hQStore
  | 21, h => cases h; exact hQNew
  | 22, h => cases h; exact hQLast
  | 23, h => cases h; exact hQCount
  | 24, h => cases h; exact hQWords
  | n + 25, h => cases h)
def actEs : List (Option IntKind) := [some .i64, some .i64, some .i64, some .i64]
def cESteps : Ctr U :=
  { fn := 13, nin := 10, args := [.agg [.int .i64 (.var 0), .int .i64 (.var 1), .int .i64 (.var 2)], .int .i64 (.var 3), .slice 0 (.var 5) (.var 6), .slice 1 (.var 8) (.var 9)], heap := [.ro [some .u64] 4, .ro actEs 7]
    pre := fun ins => ∃ a b n s gi, ∃ ki : Nat, ∃ ci gl, ∃ kl : Nat, ∃ cl, ins = [.i a, .i b, .i n, .i s, .f gi ki, .i ki, .i ci, .f gl kl, .i kl, .i cl] ∧ ∀ j, j < ki → isW (gi j 0), nout := 1, out := fun _ => [.b true], ret := .bool (.var 10), post := [.ro [some .u64] 4, .ro actEs 7] }
def es1Inv (env : List (EV U)) : Prop := ∃ a b n s gi, ∃ ki : Nat, ∃ ci gl, ∃ kl : Nat, ∃ cl x0 x1 x2 x3 x4 x5 x6 x7 x8 M i, env = [.i a, .i b, .i n, .i s, .f gi ki, .i ki, .i ci, .f gl kl, .i kl, .i cl, x0, x1, x2, x3, x4, x5, x6, x7, x8, .u (.mem M), .u (.rmem M), .i i] ∧ 0 ≤ i ∧ i ≤ ki ∧ ki ≤ 90 ∧ kl ≤ 120 ∧ 1 ≤ M.W.length ∧ M.fine ∧ (∀ j, j < ki → isW (gi j 0)) ∧ fitsE a b n s = 0
def es2Inv (env : List (EV U)) : Prop := ∃ a b n s gi, ∃ ki : Nat, ∃ ci gl, ∃ kl : Nat, ∃ cl x0 x1 x2 x3 x4 x5 x6 x7 x8 x9 x10 x11 M o0 o1 o2 o3 i, env = [.i a, .i b, .i n, .i s, .f gi ki, .i ki, .i ci, .f gl kl, .i kl, .i cl, x0, x1, x2, x3, x4, x5, x6, x7, x8, x9, x10, x11, .u (.mem M), .u (.rmem M), .u (coA o0), .u (coB o0), .u (coC o0), .u (coD o0), .u (coE o0), .u (coF o0), .u (coA o1), .u (coB o1), .u (coC o1), .u (coD o1), .u (coE o1), .u (coF o1), .u (coA o2), .u (coB o2), .u (coC o2), .u (coD o2), .u (coE o2), .u (coF o2), .u (coA o3), .u (coB o3), .u (coC o3), .u (coD o3), .u (coE o3), .u (coF o3), .i i] ∧ 0 ≤ i ∧ i ≤ kl ∧ kl ≤ 120 ∧ 1 ≤ M.W.length ∧ M.fine ∧ fitsE a b n s = 0 ∧ o0.ok ∧ o1.ok ∧ o2.ok ∧ o3.ok
def lES1 : LoopS U :=
  { fn := 71, rid := 8, nv := 3, tm := [(12, .int .i64 (.var 21))], hp := [(4, .abs 19), (5, .abs 20)], reb := [], inv := es1Inv, mu := fun env => (gI env 5 - gI env 21).toNat }
def lES2 : LoopS U :=
  { fn := 13, rid := 10, nv := 27, tm := [(12, .int .i64 (.var 48))]
    hp := [(4, .abs 22), (5, .abs 23), (6, .cells [.hnd 7, .hnd 8, .hnd 9, .hnd 10, .hnd 11, .hnd 12, .hnd 13, .hnd 14, .hnd 15, .hnd 16, .hnd 17, .hnd 18, .hnd 19, .hnd 20, .hnd 21, .hnd 22, .hnd 23, .hnd 24, .hnd 25, .hnd 26, .hnd 27, .hnd 28, .hnd 29, .hnd 30] 136), (7, .abs 24), (8, .abs 25), (9, .abs 26), (10, .abs 27), (11, .abs 28), (12, .abs 29), (13, .abs 30), (14, .abs 31), (15, .abs 32), (16, .abs 33), (17, .abs 34), (18, .abs 35), (19, .abs 36), (20, .abs 37), (21, .abs 38), (22, .abs 39), (23, .abs 40), (24, .abs 41), (25, .abs 42), (26, .abs 43), (27, .abs 44), (28, .abs 45), (29, .abs 46), (30, .abs 47)]
    reb := [(7, 13), (8, 15), (9, 18), (10, 20), (11, 23), (12, 25), (13, 13), (14, 15), (15, 18), (16, 20), (17, 23), (18, 25), (19, 13), (20, 15), (21, 18), (22, 20), (23, 23), (24, 25), (25, 13), (26, 15), (27, 18), (28, 20), (29, 23), (30, 25)], inv := es2Inv, mu := fun env => (gI env 8 - gI env 48).toNat }
def cxEG (P : Program) : Cx U := { cx P ctsEG with loops := [lES1, lES2] }
end Go.Proofs.Ytjohihkbampbgaa
