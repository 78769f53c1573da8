/- Which arenas, limbos and towers may be: what the functions answer, in plain words; contracts. -/
import Derived.Test.YtdldcofddfkkbaaGreatTd
namespace Go.Proofs.YtdldcofddfkkbaaGreat
set_option linter.unusedVariables false
set_option linter.unusedSimpArgs false
set_option linter.unusedSectionVars false
open Go

def fits10 (t l s c : Int) : Int := if c < 1 ∨ 4096 < c then 3 else if s < 1 ∨ 4096 < s ∨ t < 0 ∨ c ≤ t ∨ l < 0 ∨ IntKind.i64.wrap (c - s) < l ∨ (l ≤ t ∧ t < IntKind.i64.wrap (l + s)) then 2 else 0
def fits12 (t p n c : Int) : Int := if c < 1 ∨ 4096 < c then 3 else if n < 1 ∨ 64 < n ∨ t < 0 ∨ c ≤ t ∨ p < 0 ∨ IntKind.i64.wrap (c - n) < p ∨ (p ≤ t ∧ t < IntKind.i64.wrap (p + n)) then 2 else 0
/-- numbers that follow each other -/
def runI (a : Int) : Nat → List Int
  | 0 => []
  | n + 1 => runI a n ++ [IntKind.i64.wrap (a + n)]
def runP (a b : Int) : Nat → List Int
  | 0 => []
  | n + 1 => runP a b n ++ [IntKind.i64.wrap (a + n), IntKind.i64.wrap (b + n)]
/-- the cells of an arena, one row behind the other -/
def cells11 (t l s g w : Int) : List Int := [t] ++ (runI l s.toNat ++ (runI g s.toNat ++ [w]))
def fits11 (t l s g w m c : Int) : Int :=
  if c < 1 ∨ 4096 < c then 3 else if fits10 t l s c ≠ 0 ∨ m < 1 ∨ 4294967295 < m ∨ g < 0 ∨ IntKind.i64.wrap (c - s) < g ∨ w < 0 ∨ c ≤ w then 2 else if (cells11 t l s g w).Nodup then 0 else 2
/-- the cells of a limbo -/
def held13 (t l s g w ea ep ec tp : Int) : List Int := [t, w, ea, tp, IntKind.i64.wrap (tp + 1), IntKind.i64.wrap (tp + 2)] ++ runP l g s.toNat ++ runI ep ec.toNat
def fits13 (t l s g w m ea ep ec tp c : Int) : Int :=
  if c < 1 ∨ 4096 < c then 3 else if fits11 t l s g w m c ≠ 0 ∨ fits12 ea ep ec c ≠ 0 ∨ tp < 0 ∨ IntKind.i64.wrap (c - 3) < tp then 2 else if (held13 t l s g w ea ep ec tp).Nodup then 0 else 2
/-- the cells of a tower -/
def all15 (n h k t l s g w ea ep ec tp : Int) : List Int := held13 t l s g w ea ep ec tp ++ runI n (s * (4 + k)).toNat ++ runI h k.toNat
def fits15 (n h k t l s g w m ea ep ec tp c : Int) : Int :=
  if c < 1 ∨ 4096 < c then 3 else if okT n h k s = false ∨ fits13 t l s g w m ea ep ec tp c ≠ 0 then 2 else if (all15 n h k t l s g w ea ep ec tp).Nodup ∧ ∀ x ∈ all15 n h k t l s g w ea ep ec tp, x < c then 0 else 2

def ints (n : Nat) : List SV := (List.range n).map fun i => .int .i64 (.var i)
def cSFits : Ctr U :=
  { fn := 163, nin := 4, args := [.agg [.int .i64 (.var 0), .int .i64 (.var 1), .int .i64 (.var 2)], .int .i64 (.var 3)], heap := []
    pre := fun ins => ∃ a b n s, ins = [.i a, .i b, .i n, .i s], nout := 1
    out := fun ins => match ins with | [.i a, .i b, .i n, .i s] => [.i (fits10 a b n s)] | _ => []
    ret := .int .i64 (.var 4), post := [] }
def cEFits : Ctr U :=
  { fn := 86, nin := 4, args := [.agg [.int .i64 (.var 0), .int .i64 (.var 1), .int .i64 (.var 2)], .int .i64 (.var 3)], heap := []
    pre := fun ins => ∃ a b n s, ins = [.i a, .i b, .i n, .i s], nout := 1
    out := fun ins => match ins with | [.i a, .i b, .i n, .i s] => [.i (fits12 a b n s)] | _ => []
    ret := .int .i64 (.var 4), post := [] }
def cAFits : Ctr U :=
  { fn := 85, nin := 7, args := [.agg [.int .i64 (.var 0), .int .i64 (.var 1), .int .i64 (.var 2), .int .i64 (.var 3), .int .i64 (.var 4), .int .i64 (.var 5)], .int .i64 (.var 6)], heap := []
    pre := fun ins => ∃ t l s g w m c, ins = [.i t, .i l, .i s, .i g, .i w, .i m, .i c], nout := 1
    out := fun ins => match ins with | [.i t, .i l, .i s, .i g, .i w, .i m, .i c] => [.i (fits11 t l s g w m c)] | _ => []
    ret := .int .i64 (.var 7), post := [] }
def limV (j : Nat) : SV := .agg [.int .i64 (.var j), .int .i64 (.var (j + 1)), .int .i64 (.var (j + 2)), .int .i64 (.var (j + 3)), .int .i64 (.var (j + 4)), .int .i64 (.var (j + 5)), .int .i64 (.var (j + 6)), .int .i64 (.var (j + 7)), .int .i64 (.var (j + 8)), .int .i64 (.var (j + 9))]
/-- the cells of a limbo, told in a row -/
def cHeld (f : FuncId) : Ctr U :=
  { fn := f, nin := 10, args := [limV 0], heap := []
    pre := fun ins => ∃ t l s g w m ea ep ec tp, ins = [.i t, .i l, .i s, .i g, .i w, .i m, .i ea, .i ep, .i ec, .i tp] ∧ s ≤ 4096 ∧ ec ≤ 64, nout := 3, out := fun _ => []
    rel := some fun ins outs => ∃ t l s g w m ea ep ec tp, ∃ d : List Int, ins = [.i t, .i l, .i s, .i g, .i w, .i m, .i ea, .i ep, .i ec, .i tp] ∧ outs = [.l (held13 t l s g w ea ep ec tp ++ d), .i (held13 t l s g w ea ep ec tp).length, .i (((held13 t l s g w ea ep ec tp).length + d.length : Nat) : Int)]
    ret := .slice 0 (.var 11) (.var 12), post := [.row .i64 3 10] }
def cHeld1 : Ctr U := cHeld 87
def cHeld2 : Ctr U := cHeld 87
def cLFits : Ctr U :=
  { fn := 30, nin := 11, args := [limV 0, .int .i64 (.var 10)], heap := []
    pre := fun ins => ∃ t l s g w m ea ep ec tp c, ins = [.i t, .i l, .i s, .i g, .i w, .i m, .i ea, .i ep, .i ec, .i tp, .i c], nout := 1
    out := fun ins => match ins with | [.i t, .i l, .i s, .i g, .i w, .i m, .i ea, .i ep, .i ec, .i tp, .i c] => [.i (fits13 t l s g w m ea ep ec tp c)] | _ => []
    ret := .int .i64 (.var 11), post := [] }
def cSnd15 : Ctr U :=
  { fn := 140, nin := 13, args := [twV 0], heap := []
    pre := fun ins => ∃ n h k t l s g w m ea ep ec tp, ins = [.i n, .i h, .i k, .i t, .i l, .i s, .i g, .i w, .i m, .i ea, .i ep, .i ec, .i tp], nout := 1
    out := fun ins => match ins with | [.i n, .i h, .i k, .i t, .i l, .i s, .i g, .i w, .i m, .i ea, .i ep, .i ec, .i tp] => [.b (okT n h k s)] | _ => []
    ret := .bool (.var 13), post := [] }
def ctsPa : List (Ctr U) := [cSFits, cEFits]
def cxPa (P : Program) : Cx U := { cx P ctsPa with join := true }
end Go.Proofs.YtdldcofddfkkbaaGreat
