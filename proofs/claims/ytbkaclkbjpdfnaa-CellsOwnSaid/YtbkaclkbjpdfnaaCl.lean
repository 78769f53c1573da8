/- The chapter's laws with arguments: contracts. -/
import Derived.Test.YtbkaclkbjpdfnaaCk
import Derived.Test.YtbkaclkbjpdfnaaCrV
namespace Go.Proofs.Ytbkaclkbjpdfnaa
set_option linter.unusedVariables false
set_option linter.unusedSimpArgs false
set_option linter.unusedSectionVars false
open Go

def cNone : Ctr U :=
  { fn := 7, nin := 3, args := [.int .i64 (.var 0), .int .u64 (.var 1), .int .u64 (.var 2)], heap := [], pre := fun ins => ∃ at_ a b, ins = [.i at_, .i a, .i b], nout := 1, out := fun _ => [.b true], ret := .bool (.var 3), post := [] }
def actKs : List (Option IntKind) := [some .i64, some .i64, some .u64, some .u64]
def cActs : Ctr U :=
  { fn := 6, nin := 4, args := [.int .i64 (.var 0), .slice 0 (.var 2) (.var 3)], heap := [.ro actKs 1], pre := fun ins => ∃ n g k c, ins = [.i n, .f g k, .i k, .i c], nout := 1, out := fun _ => [.b true], ret := .bool (.var 4), post := [.ro actKs 1] }
def refMem (i : Nat) (row : Nat) : HE := .cells [.slice row (.var (i + 1)) (.var (i + 1)), .int .i64 (.var (i + 2)), .int .i64 (.var (i + 3)), .int .u64 (.var (i + 4)), .int .u64 (.var (i + 5)), .bool (.var (i + 6)), .int .i64 (.var (i + 7))] 65
def actsInv (env : List (EV U)) : Prop := ∃ n g k c u e r M i, env = [.i n, .f g k, .i k, .i c, u, .i e, .l r, .u (.mem M), .i M.W.length, .i M.k, .i M.a, .i M.o, .i M.n, .b M.h, .i M.N, .l M.W, .i i] ∧ 0 ≤ i ∧ i ≤ k ∧ k ≤ 60 ∧ M.W.length ≤ 4096
theorem actsInv_mk {n : Int} {g : Nat → Nat → Int} {k : Nat} {k' c : Int} {u : EV U} {e : Int} {r : List Int} {M : MemSt} {i L K A O N' N : Int} {H : Bool} {W : List Int} (hk : k' = k) (hL : L = M.W.length) (hK : K = M.k) (hA : A = M.a) (hO : O = M.o) (hN' : N' = M.n) (hH : H = M.h) (hN : N = M.N) (hW : W = M.W)
    (h1 : 0 ≤ i) (h2 : i ≤ k) (h3 : k ≤ 60) (h4 : M.W.length ≤ 4096) : actsInv [.i n, .f g k, .i k', .i c, u, .i e, .l r, .u (.mem M), .i L, .i K, .i A, .i O, .i N', .b H, .i N, .l W, .i i] := by
  subst hk hL hK hA hO hN' hH hN hW
  exact ⟨_, _, _, _, _, _, _, _, _, rfl, h1, h2, h3, h4⟩
def lActs : LoopS U :=
  { fn := 6, rid := 8, nv := 10, tm := [(9, .int .i64 (.var 16))], hp := [(1, .abs 7), (2, .row .u64 30 15), (3, refMem 7 2)], reb := []
    inv := actsInv
    mu := fun env => (gI env 2 - gI env 16).toNat }
def ctsL : List (Ctr U) := ctsC ++ [cAwake, cKnown, cRLoad, cRStore, cRCAS, cRAdd]
def cxL (P : Program) : Cx U := { cx P ctsL with loops := [lActs] }
end Go.Proofs.Ytbkaclkbjpdfnaa
