import Derived.Test.YtdabdbbgaekmdaaGreatMf
import Derived.Test.YtdabdbbgaekmdaaGreatDaM
import Derived.KernelRfl
/- Which jobs may be; laying them: contracts, loops (printed by gen_db.py). -/
namespace Go.Proofs.YtdabdbbgaekmdaaGreat
set_option linter.unusedVariables false
set_option linter.unusedSimpArgs false
set_option linter.unusedSectionVars false
open Go Go.RowKit

def fits10 (t l s c : Int) : Int := if c < 1 ∨ 4096 < c then 3 else if s < 1 ∨ 4096 < s ∨ t < 0 ∨ c ≤ t ∨ l < 0 ∨ IntKind.i64.wrap (c - s) < l ∨ (l ≤ t ∧ t < IntKind.i64.wrap (l + s)) then 2 else 0
def ok24 (st ks t ls s c : Int) : Prop := (0 ≤ st ∧ st + s ≤ c) ∧ (0 ≤ ks ∧ ks + s ≤ c) ∧ (st + s ≤ t ∨ t < st) ∧ (st + s ≤ ls ∨ ls + s ≤ st) ∧ (ks + s ≤ t ∨ t < ks) ∧ (ks + s ≤ ls ∨ ls + s ≤ ks) ∧ (ks + s ≤ st ∨ st + s ≤ ks)
instance (st ks t ls s c : Int) : Decidable (ok24 st ks t ls s c) := by unfold ok24; infer_instance
def fits24 (st ks t ls s c : Int) : Int := if c < 1 ∨ 4096 < c then 3 else if fits10 t ls s c = 0 ∧ s ≤ 64 ∧ ok24 st ks t ls s c then 0 else 2
/-- are numbers all from 0 on, below n, none of them twice? -/
def apartB (L : List Int) (n : Int) : Bool := decide (∀ x ∈ L, 0 ≤ x ∧ x < n) && decide L.Nodup
def runT (a b c : Int) : Nat → List Int
  | 0 => []
  | n + 1 => runT a b c n ++ [IntKind.i64.wrap (a + n), IntKind.i64.wrap (b + n), IntKind.i64.wrap (c + n)]
def cells24 (st ks t ls s : Int) : List Int := t :: runT ls st ks s.toNat
def cSFits : Ctr U :=
  { fn := 55, nin := 4, args := [.agg [.int .i64 (.var 0), .int .i64 (.var 1), .int .i64 (.var 2)], .int .i64 (.var 3)], heap := []
    pre := fun ins => ∃ a b n s, ins = [.i a, .i b, .i n, .i s], nout := 1
    out := fun ins => match ins with | [.i a, .i b, .i n, .i s] => [.i (fits10 a b n s)] | _ => []
    ret := .int .i64 (.var 4), post := [] }
def cDF10 : Ctr U := { cSFits with fn := 56 }
def cJFits : Ctr U :=
  { fn := 14, nin := 6, args := [.agg [.int .i64 (.var 0), .int .i64 (.var 1), .int .i64 (.var 2), .int .i64 (.var 3), .int .i64 (.var 4)], .int .i64 (.var 5)], heap := []
    pre := fun ins => ∃ st ks t ls s c : Int, ins = [.i st, .i ks, .i t, .i ls, .i s, .i c], nout := 1
    out := fun ins => match ins with | [.i st, .i ks, .i t, .i ls, .i s, .i c] => [.i (fits24 st ks t ls s c)] | _ => []
    ret := .int .i64 (.var 6), post := [] }
def cQFits : Ctr U :=
  { fn := 15, nin := 6, args := [.agg [.int .i64 (.var 0), .int .i64 (.var 1), .int .i64 (.var 2), .int .i64 (.var 3), .int .i64 (.var 4)], .int .i64 (.var 5)], heap := []
    pre := fun ins => ∃ st ks t ls s c : Int, ins = [.i st, .i ks, .i t, .i ls, .i s, .i c], nout := 1
    out := fun ins => match ins with | [.i st, .i ks, .i t, .i ls, .i s, .i c] => [.i (fits24 st ks t ls s c)] | _ => []
    ret := .int .i64 (.var 6), post := [] }
def cApt : Ctr U :=
  { fn := 58, nin := 4, args := [.slice 0 (.var 1) (.var 2), .int .i64 (.var 3)], heap := [.row .i64 3 0]
    pre := fun ins => ∃ xs a c n, ins = [.l xs, .i a, .i c, .i n] ∧ 0 ≤ a ∧ a ≤ xs.length ∧ a ≤ c ∧ a ≤ 20000 ∧ 0 ≤ n ∧ n ≤ 4096, nout := 1
    out := fun ins => match ins with | [.l xs, .i a, _, .i n] => [.b (apartB (xs.take a.toNat) n)] | _ => []
    ret := .bool (.var 4), post := [.row .i64 3 0] }
def cCe24 : Ctr U :=
  { fn := 59, nin := 5, args := [.agg [.int .i64 (.var 0), .int .i64 (.var 1), .int .i64 (.var 2), .int .i64 (.var 3), .int .i64 (.var 4)]], heap := []
    pre := fun ins => ∃ st ks t ls s : Int, ins = [.i st, .i ks, .i t, .i ls, .i s] ∧ s ≤ 64, nout := 3, out := fun _ => []
    rel := some fun ins outs => ∃ st ks t ls s : Int, ∃ d : List Int, ins = [.i st, .i ks, .i t, .i ls, .i s] ∧ outs = [.l (cells24 st ks t ls s ++ d), .i (cells24 st ks t ls s).length, .i (((cells24 st ks t ls s).length + d.length : Nat) : Int)]
    ret := .slice 0 (.var 6) (.var 7), post := [.row .i64 3 5] }
/-- which were seen -/
def seenL (L : List Int) (n : Int) : List Int := (List.range n.toNat).map fun (x : Nat) => if (x : Int) ∈ L then 1 else 0
theorem seen_len (L : List Int) (n : Int) : (seenL L n).length = n.toNat := by simp [seenL]
theorem seen_nil (n : Int) : List.replicate n.toNat 0 = seenL [] n := by
  unfold seenL
  apply List.ext_getElem (by simp)
  intro i h1 h2
  simp
theorem seen_get {L : List Int} {n x : Int} (h0 : 0 ≤ x) (h1 : x < n) : (seenL L n)[x.toNat]?.getD 0 = if x ∈ L then 1 else 0 := by
  unfold seenL
  rw [List.getElem?_map, List.getElem?_range (by omega)]
  show (if ((x.toNat : Nat) : Int) ∈ L then (1 : Int) else 0) = _
  rw [Int.toNat_of_nonneg h0]
theorem seen_set {L : List Int} {n x : Int} (h0 : 0 ≤ x) (h1 : x < n) : (seenL L n).set x.toNat 1 = seenL (L ++ [x]) n := by
  apply List.ext_getElem (by simp [seen_len])
  intro i h2 h3
  rw [List.getElem_set]
  simp only [seenL, List.getElem_map, List.getElem_range, List.mem_append, List.mem_singleton]
  by_cases e : x.toNat = i
  · subst e
    rw [if_pos rfl, if_pos (.inr (Int.toNat_of_nonneg h0))]
  · rw [if_neg e]
    have : ¬ (i : Int) = x := by omega
    simp only [this, or_false]
theorem nodup_put {L : List Int} {x : Int} (h : L.Nodup) (hx : x ∉ L) : (L ++ [x]).Nodup := by
  rw [List.nodup_append]
  exact ⟨h, by simp, fun a ha b hb e => hx (by rw [List.mem_singleton.1 hb] at e; exact e ▸ ha)⟩
theorem not_nodup {L M : List Int} {x : Int} (hx : x ∈ L) (h : ∃ d, M = (L ++ [x]) ++ d) : ¬ M.Nodup := by
  obtain ⟨d, rfl⟩ := h
  intro g
  rw [List.nodup_append, List.nodup_append] at g
  exact g.1.2.2 _ hx _ (by simp) rfl
def aptInv (env : List (EV U)) : Prop := ∃ xs a c n, ∃ x4 : EV U, ∃ k : Int, env = [.l xs, .i a, .i c, .i n, x4, .l (seenL (xs.take k.toNat) n), .i k] ∧ 0 ≤ a ∧ a ≤ xs.length ∧ a ≤ c ∧ a ≤ 20000 ∧ 0 ≤ n ∧ n ≤ 4096 ∧ 0 ≤ k ∧ k ≤ a ∧ (xs.take k.toNat).Nodup ∧ ∀ x ∈ xs.take k.toNat, 0 ≤ x ∧ x < n
def lApt : LoopS U := { fn := 58, rid := 3, nv := 2, tm := [(6, .int .i64 (.var 6))], hp := [(1, .rb 4 5)], reb := [], inv := aptInv, mu := fun env => (gI env 1 - gI env 6).toNat }
def ce24Inv (env : List (EV U)) : Prop := ∃ st ks t ls s : Int, ∃ k : Nat, ∃ V d : List Int, env = [.i st, .i ks, .i t, .i ls, .i s, .i k, .l (V ++ d), .i V.length, .i ((V.length + d.length : Nat) : Int)] ∧ s ≤ 64 ∧ k ≤ s.toNat ∧ V = t :: runT ls st ks k
def lCe24 : LoopS U := { fn := 59, rid := 3, nv := 4, tm := [(8, .junk), (4, .int .i64 (.var 5)), (3, .slice 1 (.var 7) (.var 8))], hp := [(1, .row .i64 3 6)], reb := [(1, 0)], inv := ce24Inv, mu := fun env => (gI env 4 - gI env 5).toNat }
def cxDa1 (P : Program) : Cx U := { cx P [] with join := true, loops := [lApt] }
def cxDc1 (P : Program) : Cx U := { cx P [] with join := true, loops := [lCe24] }
def cxDf (P : Program) : Cx U := cx P []
def cxDfj (P : Program) : Cx U := { cx P [cSFits] with join := true }
def ctsDfq : List (Ctr U) := [cDF10, cCe24, cApt]
def cxDfq (P : Program) : Cx U := { cx P ctsDfq with join := true }
end Go.Proofs.YtdabdbbgaekmdaaGreat
/- The ways of the runs, as a program of ours printed them. -/
namespace Go.Proofs.YtdabdbbgaekmdaaGreat
set_option linter.unusedVariables false
set_option linter.unusedSimpArgs false
set_option linter.unusedSectionVars false
open Go
set_option maxRecDepth 100000

def hsSFits : List (Nat × Nat × List Nat) := []
def tSFits : Tree := (.br (.cmp .lss (.var 3) (.lit 1))
 (.ret [.ex (.lit 3)])
 (.br (.cmp .gtr (.var 3) (.lit 4096))
 (.ret [.ex (.lit 3)])
 (.br (.cmp .geq (.var 2) (.lit 1))
 (.br (.cmp .leq (.var 2) (.lit 4096))
 (.br (.cmp .lss (.var 0) (.lit 0))
 (.ret [.ex (.lit 2)])
 (.br (.cmp .geq (.var 0) (.var 3))
 (.ret [.ex (.lit 2)])
 (.br (.cmp .lss (.var 1) (.lit 0))
 (.ret [.ex (.lit 2)])
 (.br (.cmp .gtr (.var 1) (.bin .sub .i64 (.var 3) (.var 2)))
 (.ret [.ex (.lit 2)])
 (.br (.cmp .geq (.var 0) (.var 1))
 (.br (.cmp .lss (.var 0) (.bin .add .i64 (.var 1) (.var 2)))
 (.ret [.ex (.lit 2)])
 (.ret [.ex (.lit 0)]))
 (.ret [.ex (.lit 0)]))))))
 (.ret [.ex (.lit 2)]))
 (.ret [.ex (.lit 2)]))))
theorem rSFits : runCtr { (cxDf Tryz.prog) with hints := hsSFits } 20 cSFits [] [] = tSFits := by kernel_rfl

def hsDF10 : List (Nat × Nat × List Nat) := []
def tDF10 : Tree := (.br (.cmp .lss (.var 3) (.lit 1))
 (.ret [.ex (.lit 3)])
 (.br (.cmp .gtr (.var 3) (.lit 4096))
 (.ret [.ex (.lit 3)])
 (.br (.cmp .lss (.var 2) (.lit 1))
 (.ret [.ex (.lit 2)])
 (.br (.cmp .gtr (.var 2) (.lit 4096))
 (.ret [.ex (.lit 2)])
 (.br (.cmp .lss (.var 0) (.lit 0))
 (.ret [.ex (.lit 2)])
 (.br (.cmp .geq (.var 0) (.var 3))
 (.ret [.ex (.lit 2)])
 (.br (.cmp .lss (.var 1) (.lit 0))
 (.ret [.ex (.lit 2)])
 (.br (.cmp .gtr (.var 1) (.bin .sub .i64 (.var 3) (.var 2)))
 (.ret [.ex (.lit 2)])
 (.br (.cmp .geq (.var 0) (.var 1))
 (.br (.cmp .lss (.var 0) (.bin .add .i64 (.var 1) (.var 2)))
 (.ret [.ex (.lit 2)])
 (.ret [.ex (.lit 0)]))
 (.ret [.ex (.lit 0)]))))))))))
theorem rDF10 : runCtr { (cxDf Tryz.prog) with hints := hsDF10 } 20 cDF10 [] [] = tDF10 := by kernel_rfl

def hsJFits : List (Nat × Nat × List Nat) := []
def tJFits : Tree := (.call 0 [.ex (.var 2), .ex (.var 3), .ex (.var 4), .ex (.var 5)] (.br (.cmp .eql (.var 6) (.lit 3))
 (.ret [.ex (.var 6)])
 (.br (.cmp .eql (.var 6) (.lit 0))
 (.br (.cmp .geq (.var 4) (.lit 1))
 (.br (.cmp .leq (.var 4) (.lit 64))
 (.br (.cmp .lss (.var 2) (.lit 0))
 (.ret [.ex (.lit 2)])
 (.br (.cmp .gtr (.var 2) (.bin .sub .i64 (.var 5) (.lit 1)))
 (.ret [.ex (.lit 2)])
 (.br (.cmp .lss (.var 3) (.lit 0))
 (.ret [.ex (.lit 2)])
 (.br (.cmp .gtr (.var 3) (.bin .sub .i64 (.var 5) (.var 4)))
 (.ret [.ex (.lit 2)])
 (.br (.cmp .lss (.var 3) (.bin .add .i64 (.var 2) (.lit 1)))
 (.br (.cmp .lss (.var 2) (.bin .add .i64 (.var 3) (.var 4)))
 (.ret [.ex (.lit 2)])
 (.br (.cmp .lss (.var 0) (.lit 0))
 (.ret [.ex (.lit 2)])
 (.br (.cmp .gtr (.var 0) (.bin .sub .i64 (.var 5) (.var 4)))
 (.ret [.ex (.lit 2)])
 (.br (.cmp .lss (.var 0) (.bin .add .i64 (.var 2) (.lit 1)))
 (.br (.cmp .lss (.var 2) (.bin .add .i64 (.var 0) (.var 4)))
 (.ret [.ex (.lit 2)])
 (.br (.cmp .lss (.var 0) (.bin .add .i64 (.var 3) (.var 4)))
 (.br (.cmp .lss (.var 3) (.bin .add .i64 (.var 0) (.var 4)))
 (.ret [.ex (.lit 2)])
 (.br (.cmp .lss (.var 1) (.lit 0))
 (.ret [.ex (.lit 2)])
 (.br (.cmp .gtr (.var 1) (.bin .sub .i64 (.var 5) (.var 4)))
 (.ret [.ex (.lit 2)])
 (.br (.cmp .lss (.var 1) (.bin .add .i64 (.var 2) (.lit 1)))
 (.br (.cmp .lss (.var 2) (.bin .add .i64 (.var 1) (.var 4)))
 (.ret [.ex (.lit 2)])
 (.br (.cmp .lss (.var 1) (.bin .add .i64 (.var 3) (.var 4)))
 (.br (.cmp .lss (.var 3) (.bin .add .i64 (.var 1) (.var 4)))
 (.ret [.ex (.lit 2)])
 (.br (.cmp .lss (.var 1) (.bin .add .i64 (.var 0) (.var 4)))
 (.br (.cmp .lss (.var 0) (.bin .add .i64 (.var 1) (.var 4)))
 (.ret [.ex (.lit 2)])
 (.ret [.ex (.lit 0)]))
 (.ret [.ex (.lit 0)])))
 (.br (.cmp .lss (.var 1) (.bin .add .i64 (.var 0) (.var 4)))
 (.br (.cmp .lss (.var 0) (.bin .add .i64 (.var 1) (.var 4)))
 (.ret [.ex (.lit 2)])
 (.ret [.ex (.lit 0)]))
 (.ret [.ex (.lit 0)]))))
 (.br (.cmp .lss (.var 1) (.bin .add .i64 (.var 3) (.var 4)))
 (.br (.cmp .lss (.var 3) (.bin .add .i64 (.var 1) (.var 4)))
 (.ret [.ex (.lit 2)])
 (.br (.cmp .lss (.var 1) (.bin .add .i64 (.var 0) (.var 4)))
 (.br (.cmp .lss (.var 0) (.bin .add .i64 (.var 1) (.var 4)))
 (.ret [.ex (.lit 2)])
 (.ret [.ex (.lit 0)]))
 (.ret [.ex (.lit 0)])))
 (.br (.cmp .lss (.var 1) (.bin .add .i64 (.var 0) (.var 4)))
 (.br (.cmp .lss (.var 0) (.bin .add .i64 (.var 1) (.var 4)))
 (.ret [.ex (.lit 2)])
 (.ret [.ex (.lit 0)]))
 (.ret [.ex (.lit 0)])))))))
 (.br (.cmp .lss (.var 1) (.lit 0))
 (.ret [.ex (.lit 2)])
 (.br (.cmp .gtr (.var 1) (.bin .sub .i64 (.var 5) (.var 4)))
 (.ret [.ex (.lit 2)])
 (.br (.cmp .lss (.var 1) (.bin .add .i64 (.var 2) (.lit 1)))
 (.br (.cmp .lss (.var 2) (.bin .add .i64 (.var 1) (.var 4)))
 (.ret [.ex (.lit 2)])
 (.br (.cmp .lss (.var 1) (.bin .add .i64 (.var 3) (.var 4)))
 (.br (.cmp .lss (.var 3) (.bin .add .i64 (.var 1) (.var 4)))
 (.ret [.ex (.lit 2)])
 (.br (.cmp .lss (.var 1) (.bin .add .i64 (.var 0) (.var 4)))
 (.br (.cmp .lss (.var 0) (.bin .add .i64 (.var 1) (.var 4)))
 (.ret [.ex (.lit 2)])
 (.ret [.ex (.lit 0)]))
 (.ret [.ex (.lit 0)])))
 (.br (.cmp .lss (.var 1) (.bin .add .i64 (.var 0) (.var 4)))
 (.br (.cmp .lss (.var 0) (.bin .add .i64 (.var 1) (.var 4)))
 (.ret [.ex (.lit 2)])
 (.ret [.ex (.lit 0)]))
 (.ret [.ex (.lit 0)]))))
 (.br (.cmp .lss (.var 1) (.bin .add .i64 (.var 3) (.var 4)))
 (.br (.cmp .lss (.var 3) (.bin .add .i64 (.var 1) (.var 4)))
 (.ret [.ex (.lit 2)])
 (.br (.cmp .lss (.var 1) (.bin .add .i64 (.var 0) (.var 4)))
 (.br (.cmp .lss (.var 0) (.bin .add .i64 (.var 1) (.var 4)))
 (.ret [.ex (.lit 2)])
 (.ret [.ex (.lit 0)]))
 (.ret [.ex (.lit 0)])))
 (.br (.cmp .lss (.var 1) (.bin .add .i64 (.var 0) (.var 4)))
 (.br (.cmp .lss (.var 0) (.bin .add .i64 (.var 1) (.var 4)))
 (.ret [.ex (.lit 2)])
 (.ret [.ex (.lit 0)]))
 (.ret [.ex (.lit 0)]))))))))
 (.br (.cmp .lss (.var 0) (.bin .add .i64 (.var 3) (.var 4)))
 (.br (.cmp .lss (.var 3) (.bin .add .i64 (.var 0) (.var 4)))
 (.ret [.ex (.lit 2)])
 (.br (.cmp .lss (.var 1) (.lit 0))
 (.ret [.ex (.lit 2)])
 (.br (.cmp .gtr (.var 1) (.bin .sub .i64 (.var 5) (.var 4)))
 (.ret [.ex (.lit 2)])
 (.br (.cmp .lss (.var 1) (.bin .add .i64 (.var 2) (.lit 1)))
 (.br (.cmp .lss (.var 2) (.bin .add .i64 (.var 1) (.var 4)))
 (.ret [.ex (.lit 2)])
 (.br (.cmp .lss (.var 1) (.bin .add .i64 (.var 3) (.var 4)))
 (.br (.cmp .lss (.var 3) (.bin .add .i64 (.var 1) (.var 4)))
 (.ret [.ex (.lit 2)])
 (.br (.cmp .lss (.var 1) (.bin .add .i64 (.var 0) (.var 4)))
 (.br (.cmp .lss (.var 0) (.bin .add .i64 (.var 1) (.var 4)))
 (.ret [.ex (.lit 2)])
 (.ret [.ex (.lit 0)]))
 (.ret [.ex (.lit 0)])))
 (.br (.cmp .lss (.var 1) (.bin .add .i64 (.var 0) (.var 4)))
 (.br (.cmp .lss (.var 0) (.bin .add .i64 (.var 1) (.var 4)))
 (.ret [.ex (.lit 2)])
 (.ret [.ex (.lit 0)]))
 (.ret [.ex (.lit 0)]))))
 (.br (.cmp .lss (.var 1) (.bin .add .i64 (.var 3) (.var 4)))
 (.br (.cmp .lss (.var 3) (.bin .add .i64 (.var 1) (.var 4)))
 (.ret [.ex (.lit 2)])
 (.br (.cmp .lss (.var 1) (.bin .add .i64 (.var 0) (.var 4)))
 (.br (.cmp .lss (.var 0) (.bin .add .i64 (.var 1) (.var 4)))
 (.ret [.ex (.lit 2)])
 (.ret [.ex (.lit 0)]))
 (.ret [.ex (.lit 0)])))
 (.br (.cmp .lss (.var 1) (.bin .add .i64 (.var 0) (.var 4)))
 (.br (.cmp .lss (.var 0) (.bin .add .i64 (.var 1) (.var 4)))
 (.ret [.ex (.lit 2)])
 (.ret [.ex (.lit 0)]))
 (.ret [.ex (.lit 0)])))))))
 (.br (.cmp .lss (.var 1) (.lit 0))
 (.ret [.ex (.lit 2)])
 (.br (.cmp .gtr (.var 1) (.bin .sub .i64 (.var 5) (.var 4)))
 (.ret [.ex (.lit 2)])
 (.br (.cmp .lss (.var 1) (.bin .add .i64 (.var 2) (.lit 1)))
 (.br (.cmp .lss (.var 2) (.bin .add .i64 (.var 1) (.var 4)))
 (.ret [.ex (.lit 2)])
 (.br (.cmp .lss (.var 1) (.bin .add .i64 (.var 3) (.var 4)))
 (.br (.cmp .lss (.var 3) (.bin .add .i64 (.var 1) (.var 4)))
 (.ret [.ex (.lit 2)])
 (.br (.cmp .lss (.var 1) (.bin .add .i64 (.var 0) (.var 4)))
 (.br (.cmp .lss (.var 0) (.bin .add .i64 (.var 1) (.var 4)))
 (.ret [.ex (.lit 2)])
 (.ret [.ex (.lit 0)]))
 (.ret [.ex (.lit 0)])))
 (.br (.cmp .lss (.var 1) (.bin .add .i64 (.var 0) (.var 4)))
 (.br (.cmp .lss (.var 0) (.bin .add .i64 (.var 1) (.var 4)))
 (.ret [.ex (.lit 2)])
 (.ret [.ex (.lit 0)]))
 (.ret [.ex (.lit 0)]))))
 (.br (.cmp .lss (.var 1) (.bin .add .i64 (.var 3) (.var 4)))
 (.br (.cmp .lss (.var 3) (.bin .add .i64 (.var 1) (.var 4)))
 (.ret [.ex (.lit 2)])
 (.br (.cmp .lss (.var 1) (.bin .add .i64 (.var 0) (.var 4)))
 (.br (.cmp .lss (.var 0) (.bin .add .i64 (.var 1) (.var 4)))
 (.ret [.ex (.lit 2)])
 (.ret [.ex (.lit 0)]))
 (.ret [.ex (.lit 0)])))
 (.br (.cmp .lss (.var 1) (.bin .add .i64 (.var 0) (.var 4)))
 (.br (.cmp .lss (.var 0) (.bin .add .i64 (.var 1) (.var 4)))
 (.ret [.ex (.lit 2)])
 (.ret [.ex (.lit 0)]))
 (.ret [.ex (.lit 0)])))))))))))
 (.br (.cmp .lss (.var 0) (.lit 0))
 (.ret [.ex (.lit 2)])
 (.br (.cmp .gtr (.var 0) (.bin .sub .i64 (.var 5) (.var 4)))
 (.ret [.ex (.lit 2)])
 (.br (.cmp .lss (.var 0) (.bin .add .i64 (.var 2) (.lit 1)))
 (.br (.cmp .lss (.var 2) (.bin .add .i64 (.var 0) (.var 4)))
 (.ret [.ex (.lit 2)])
 (.br (.cmp .lss (.var 0) (.bin .add .i64 (.var 3) (.var 4)))
 (.br (.cmp .lss (.var 3) (.bin .add .i64 (.var 0) (.var 4)))
 (.ret [.ex (.lit 2)])
 (.br (.cmp .lss (.var 1) (.lit 0))
 (.ret [.ex (.lit 2)])
 (.br (.cmp .gtr (.var 1) (.bin .sub .i64 (.var 5) (.var 4)))
 (.ret [.ex (.lit 2)])
 (.br (.cmp .lss (.var 1) (.bin .add .i64 (.var 2) (.lit 1)))
 (.br (.cmp .lss (.var 2) (.bin .add .i64 (.var 1) (.var 4)))
 (.ret [.ex (.lit 2)])
 (.br (.cmp .lss (.var 1) (.bin .add .i64 (.var 3) (.var 4)))
 (.br (.cmp .lss (.var 3) (.bin .add .i64 (.var 1) (.var 4)))
 (.ret [.ex (.lit 2)])
 (.br (.cmp .lss (.var 1) (.bin .add .i64 (.var 0) (.var 4)))
 (.br (.cmp .lss (.var 0) (.bin .add .i64 (.var 1) (.var 4)))
 (.ret [.ex (.lit 2)])
 (.ret [.ex (.lit 0)]))
 (.ret [.ex (.lit 0)])))
 (.br (.cmp .lss (.var 1) (.bin .add .i64 (.var 0) (.var 4)))
 (.br (.cmp .lss (.var 0) (.bin .add .i64 (.var 1) (.var 4)))
 (.ret [.ex (.lit 2)])
 (.ret [.ex (.lit 0)]))
 (.ret [.ex (.lit 0)]))))
 (.br (.cmp .lss (.var 1) (.bin .add .i64 (.var 3) (.var 4)))
 (.br (.cmp .lss (.var 3) (.bin .add .i64 (.var 1) (.var 4)))
 (.ret [.ex (.lit 2)])
 (.br (.cmp .lss (.var 1) (.bin .add .i64 (.var 0) (.var 4)))
 (.br (.cmp .lss (.var 0) (.bin .add .i64 (.var 1) (.var 4)))
 (.ret [.ex (.lit 2)])
 (.ret [.ex (.lit 0)]))
 (.ret [.ex (.lit 0)])))
 (.br (.cmp .lss (.var 1) (.bin .add .i64 (.var 0) (.var 4)))
 (.br (.cmp .lss (.var 0) (.bin .add .i64 (.var 1) (.var 4)))
 (.ret [.ex (.lit 2)])
 (.ret [.ex (.lit 0)]))
 (.ret [.ex (.lit 0)])))))))
 (.br (.cmp .lss (.var 1) (.lit 0))
 (.ret [.ex (.lit 2)])
 (.br (.cmp .gtr (.var 1) (.bin .sub .i64 (.var 5) (.var 4)))
 (.ret [.ex (.lit 2)])
 (.br (.cmp .lss (.var 1) (.bin .add .i64 (.var 2) (.lit 1)))
 (.br (.cmp .lss (.var 2) (.bin .add .i64 (.var 1) (.var 4)))
 (.ret [.ex (.lit 2)])
 (.br (.cmp .lss (.var 1) (.bin .add .i64 (.var 3) (.var 4)))
 (.br (.cmp .lss (.var 3) (.bin .add .i64 (.var 1) (.var 4)))
 (.ret [.ex (.lit 2)])
 (.br (.cmp .lss (.var 1) (.bin .add .i64 (.var 0) (.var 4)))
 (.br (.cmp .lss (.var 0) (.bin .add .i64 (.var 1) (.var 4)))
 (.ret [.ex (.lit 2)])
 (.ret [.ex (.lit 0)]))
 (.ret [.ex (.lit 0)])))
 (.br (.cmp .lss (.var 1) (.bin .add .i64 (.var 0) (.var 4)))
 (.br (.cmp .lss (.var 0) (.bin .add .i64 (.var 1) (.var 4)))
 (.ret [.ex (.lit 2)])
 (.ret [.ex (.lit 0)]))
 (.ret [.ex (.lit 0)]))))
 (.br (.cmp .lss (.var 1) (.bin .add .i64 (.var 3) (.var 4)))
 (.br (.cmp .lss (.var 3) (.bin .add .i64 (.var 1) (.var 4)))
 (.ret [.ex (.lit 2)])
 (.br (.cmp .lss (.var 1) (.bin .add .i64 (.var 0) (.var 4)))
 (.br (.cmp .lss (.var 0) (.bin .add .i64 (.var 1) (.var 4)))
 (.ret [.ex (.lit 2)])
 (.ret [.ex (.lit 0)]))
 (.ret [.ex (.lit 0)])))
 (.br (.cmp .lss (.var 1) (.bin .add .i64 (.var 0) (.var 4)))
 (.br (.cmp .lss (.var 0) (.bin .add .i64 (.var 1) (.var 4)))
 (.ret [.ex (.lit 2)])
 (.ret [.ex (.lit 0)]))
 (.ret [.ex (.lit 0)]))))))))
 (.br (.cmp .lss (.var 0) (.bin .add .i64 (.var 3) (.var 4)))
 (.br (.cmp .lss (.var 3) (.bin .add .i64 (.var 0) (.var 4)))
 (.ret [.ex (.lit 2)])
 (.br (.cmp .lss (.var 1) (.lit 0))
 (.ret [.ex (.lit 2)])
 (.br (.cmp .gtr (.var 1) (.bin .sub .i64 (.var 5) (.var 4)))
 (.ret [.ex (.lit 2)])
 (.br (.cmp .lss (.var 1) (.bin .add .i64 (.var 2) (.lit 1)))
 (.br (.cmp .lss (.var 2) (.bin .add .i64 (.var 1) (.var 4)))
 (.ret [.ex (.lit 2)])
 (.br (.cmp .lss (.var 1) (.bin .add .i64 (.var 3) (.var 4)))
 (.br (.cmp .lss (.var 3) (.bin .add .i64 (.var 1) (.var 4)))
 (.ret [.ex (.lit 2)])
 (.br (.cmp .lss (.var 1) (.bin .add .i64 (.var 0) (.var 4)))
 (.br (.cmp .lss (.var 0) (.bin .add .i64 (.var 1) (.var 4)))
 (.ret [.ex (.lit 2)])
 (.ret [.ex (.lit 0)]))
 (.ret [.ex (.lit 0)])))
 (.br (.cmp .lss (.var 1) (.bin .add .i64 (.var 0) (.var 4)))
 (.br (.cmp .lss (.var 0) (.bin .add .i64 (.var 1) (.var 4)))
 (.ret [.ex (.lit 2)])
 (.ret [.ex (.lit 0)]))
 (.ret [.ex (.lit 0)]))))
 (.br (.cmp .lss (.var 1) (.bin .add .i64 (.var 3) (.var 4)))
 (.br (.cmp .lss (.var 3) (.bin .add .i64 (.var 1) (.var 4)))
 (.ret [.ex (.lit 2)])
 (.br (.cmp .lss (.var 1) (.bin .add .i64 (.var 0) (.var 4)))
 (.br (.cmp .lss (.var 0) (.bin .add .i64 (.var 1) (.var 4)))
 (.ret [.ex (.lit 2)])
 (.ret [.ex (.lit 0)]))
 (.ret [.ex (.lit 0)])))
 (.br (.cmp .lss (.var 1) (.bin .add .i64 (.var 0) (.var 4)))
 (.br (.cmp .lss (.var 0) (.bin .add .i64 (.var 1) (.var 4)))
 (.ret [.ex (.lit 2)])
 (.ret [.ex (.lit 0)]))
 (.ret [.ex (.lit 0)])))))))
 (.br (.cmp .lss (.var 1) (.lit 0))
 (.ret [.ex (.lit 2)])
 (.br (.cmp .gtr (.var 1) (.bin .sub .i64 (.var 5) (.var 4)))
 (.ret [.ex (.lit 2)])
 (.br (.cmp .lss (.var 1) (.bin .add .i64 (.var 2) (.lit 1)))
 (.br (.cmp .lss (.var 2) (.bin .add .i64 (.var 1) (.var 4)))
 (.ret [.ex (.lit 2)])
 (.br (.cmp .lss (.var 1) (.bin .add .i64 (.var 3) (.var 4)))
 (.br (.cmp .lss (.var 3) (.bin .add .i64 (.var 1) (.var 4)))
 (.ret [.ex (.lit 2)])
 (.br (.cmp .lss (.var 1) (.bin .add .i64 (.var 0) (.var 4)))
 (.br (.cmp .lss (.var 0) (.bin .add .i64 (.var 1) (.var 4)))
 (.ret [.ex (.lit 2)])
 (.ret [.ex (.lit 0)]))
 (.ret [.ex (.lit 0)])))
 (.br (.cmp .lss (.var 1) (.bin .add .i64 (.var 0) (.var 4)))
 (.br (.cmp .lss (.var 0) (.bin .add .i64 (.var 1) (.var 4)))
 (.ret [.ex (.lit 2)])
 (.ret [.ex (.lit 0)]))
 (.ret [.ex (.lit 0)]))))
 (.br (.cmp .lss (.var 1) (.bin .add .i64 (.var 3) (.var 4)))
 (.br (.cmp .lss (.var 3) (.bin .add .i64 (.var 1) (.var 4)))
 (.ret [.ex (.lit 2)])
 (.br (.cmp .lss (.var 1) (.bin .add .i64 (.var 0) (.var 4)))
 (.br (.cmp .lss (.var 0) (.bin .add .i64 (.var 1) (.var 4)))
 (.ret [.ex (.lit 2)])
 (.ret [.ex (.lit 0)]))
 (.ret [.ex (.lit 0)])))
 (.br (.cmp .lss (.var 1) (.bin .add .i64 (.var 0) (.var 4)))
 (.br (.cmp .lss (.var 0) (.bin .add .i64 (.var 1) (.var 4)))
 (.ret [.ex (.lit 2)])
 (.ret [.ex (.lit 0)]))
 (.ret [.ex (.lit 0)])))))))))))))))
 (.ret [.ex (.lit 2)]))
 (.ret [.ex (.lit 2)]))
 (.ret [.ex (.lit 2)]))))
theorem rJFits : runCtr { (cxDfj Tryz.prog) with hints := hsJFits } 20 cJFits [] [] = tJFits := by kernel_rfl

def hsApt : List (Nat × Nat × List Nat) := []
def tAptL0 : Tree := (.need (.cmp .leq (.lit 0) (.var 1)) (.br (.cmp .lss (.var 6) (.var 1))
 (.need (.cmp .leq (.lit 0) (.var 6)) (.need (.cmp .lss (.var 6) (.var 1)) (.need (.cmp .lss (.var 6) (.len 0)) (.need (.cmp .leq (.lit 0) (.var 6)) (.need (.cmp .lss (.var 6) (.len 0)) (.br (.cmp .lss (.nth 0 (.var 6)) (.lit 0))
 (.ret [.bx (.lit false)])
 (.need (.cmp .leq (.lit 0) (.var 6)) (.need (.cmp .lss (.var 6) (.var 1)) (.need (.cmp .lss (.var 6) (.len 0)) (.need (.cmp .leq (.lit 0) (.var 6)) (.need (.cmp .lss (.var 6) (.len 0)) (.br (.cmp .geq (.nth 0 (.var 6)) (.var 3))
 (.ret [.bx (.lit false)])
 (.need (.cmp .leq (.lit 0) (.var 6)) (.need (.cmp .lss (.var 6) (.var 1)) (.need (.cmp .lss (.var 6) (.len 0)) (.need (.cmp .leq (.lit 0) (.var 6)) (.need (.cmp .lss (.var 6) (.len 0)) (.need (.cmp .leq (.lit 0) (.nth 0 (.var 6))) (.need (.cmp .lss (.nth 0 (.var 6)) (.var 3)) (.need (.cmp .lss (.nth 0 (.var 6)) (.len 5)) (.need (.cmp .leq (.lit 0) (.nth 0 (.var 6))) (.need (.cmp .lss (.nth 0 (.var 6)) (.len 5)) (.br (.cmp .neq (.nth 5 (.nth 0 (.var 6))) (.lit 0))
 (.ret [.bx (.lit false)])
 (.need (.cmp .leq (.lit 0) (.var 6)) (.need (.cmp .lss (.var 6) (.var 1)) (.need (.cmp .lss (.var 6) (.len 0)) (.need (.cmp .leq (.lit 0) (.var 6)) (.need (.cmp .lss (.var 6) (.len 0)) (.need (.cmp .leq (.lit 0) (.nth 0 (.var 6))) (.need (.cmp .lss (.nth 0 (.var 6)) (.var 3)) (.need (.cmp .lss (.nth 0 (.var 6)) (.len 5)) (.need (.cmp .leq (.lit 0) (.nth 0 (.var 6))) (.need (.cmp .lss (.nth 0 (.var 6)) (.len 5)) (.ext (.setl 5 (.nth 0 (.var 6)) (.lit 1)) (.back 0 5 [.var 7, .ex (.bin .add .i64 (.var 6) (.lit 1))])))))))))))))))))))))))))))))))))))
 (.ret [.bx (.lit true)])))
def tApt : Tree := (.need (.cmp .leq (.lit 0) (.var 3)) (.need (.cmp .leq (.var 3) (.lit 1000000)) (.ext (.repl (.var 3) (.lit 0)) (.loop 0 5 [.var 4, .ex (.lit 0)] tAptL0))))
theorem rApt : runCtr { (cxDa1 Tryz.prog) with hints := hsApt } 20 cApt [] [] = tApt := by kernel_rfl

def hsCe24 : List (Nat × Nat × List Nat) := []
def tCe24L0 : Tree := (.br (.cmp .lss (.var 5) (.var 4))
 (.need (.cmp .leq (.lit 0) (.var 7)) (.need (.cmp .leq (.var 7) (.var 8)) (.need (.cmp .leq (.var 8) (.len 6)) (.need (.cmp .leq (.len 6) (.var 8)) (.need (.cmp .leq (.var 7) (.lit 1000000)) (.apps (some 6) (.var 7) [(.bin .add .i64 (.var 3) (.var 5)), (.bin .add .i64 (.var 0) (.var 5)), (.bin .add .i64 (.var 1) (.var 5))] (.back 0 5 [.ex (.bin .add .i64 (.var 5) (.lit 1)), .var 9, .ex (.bin .add .i64 (.var 7) (.lit 3)), .ex (.var 10)])))))))
 (.ret [.var 6, .ex (.var 7), .ex (.var 8)]))
def tCe24 : Tree := (.ext (.lst [(.var 2)]) (.loop 0 5 [.ex (.lit 0), .var 5, .ex (.lit 1), .ex (.lit 1)] tCe24L0))
theorem rCe24 : runCtr { (cxDc1 Tryz.prog) with hints := hsCe24 } 20 cCe24 [] [] = tCe24 := by kernel_rfl

def hsQFits : List (Nat × Nat × List Nat) := []
def tQFits : Tree := (.br (.cmp .lss (.var 5) (.lit 1))
 (.ret [.ex (.lit 3)])
 (.br (.cmp .gtr (.var 5) (.lit 4096))
 (.ret [.ex (.lit 3)])
 (.call 0 [.ex (.var 2), .ex (.var 3), .ex (.var 4), .ex (.var 5)] (.br (.cmp .eql (.var 6) (.lit 0))
 (.br (.cmp .geq (.var 4) (.lit 1))
 (.br (.cmp .leq (.var 4) (.lit 64))
 (.br (.cmp .lss (.var 0) (.lit 0))
 (.ret [.ex (.lit 2)])
 (.br (.cmp .gtr (.var 0) (.var 5))
 (.ret [.ex (.lit 2)])
 (.br (.cmp .lss (.var 1) (.lit 0))
 (.ret [.ex (.lit 2)])
 (.br (.cmp .gtr (.var 1) (.var 5))
 (.ret [.ex (.lit 2)])
 (.callm 1 (va [0, 1, 2, 3, 4] []) (.call 2 [.var 7, .ex (.var 8), .ex (.var 9), .ex (.var 5)] (.br (.var 10)
 (.ret [.ex (.lit 0)])
 (.ret [.ex (.lit 2)]))))))))
 (.ret [.ex (.lit 2)]))
 (.ret [.ex (.lit 2)]))
 (.ret [.ex (.lit 2)])))))
theorem rQFits : runCtr { (cxDfq Tryz.prog) with hints := hsQFits } 20 cQFits [] [] = tQFits := by
  dsimp only [tQFits, va, List.map_cons, List.map_nil, List.cons_append, List.nil_append]
  kernel_rfl

end Go.Proofs.YtdabdbbgaekmdaaGreat
