/- Which jobs may be; laying them: contracts, loops (printed by gen_db.py). -/
import Derived.Test.YtdabdbbgaekmdaaGreatB3O
import Derived.KernelRfl
import Derived.Test.YtdabdbbgaekmdaaGreatB4O
import Derived.Test.YtdabdbbgaekmdaaGreatB1O
import Derived.Test.YtdabdbbgaekmdaaGreatB2O
namespace Go.Proofs.YtdabdbbgaekmdaaGreat
set_option linter.unusedVariables false
set_option linter.unusedSimpArgs false
set_option linter.unusedSectionVars false
open Go Go.RowKit
def ok24 (st ks t ls s c : Int) : Prop := (0 ≤ st ∧ st + s ≤ c) ∧ (0 ≤ ks ∧ ks + s ≤ c) ∧ (st + s ≤ t ∨ t < st) ∧ (st + s ≤ ls ∨ ls + s ≤ st) ∧ (ks + s ≤ t ∨ t < ks) ∧ (ks + s ≤ ls ∨ ls + s ≤ ks) ∧ (ks + s ≤ st ∨ st + s ≤ ks)
instance (st ks t ls s c : Int) : Decidable (ok24 st ks t ls s c) := by unfold ok24; infer_instance
end Go.Proofs.YtdabdbbgaekmdaaGreat
namespace Go.Proofs.YtdabdbbgaekmdaaGreat
set_option linter.unusedVariables false
set_option linter.unusedSimpArgs false
set_option linter.unusedSectionVars false
open Go
set_option maxRecDepth 100000
end Go.Proofs.YtdabdbbgaekmdaaGreat
namespace Go.Proofs.YtdabdbbgaekmdaaGreat
set_option linter.unusedVariables false
set_option linter.unusedSimpArgs false
set_option linter.unusedSectionVars false
open Go Go.RowKit
theorem nodup_range {f : Nat → Int} {n : Nat} : ((List.range n).map f).Nodup ↔ ∀ i j, i < j → j < n → f i ≠ f j := by
  rw [List.Nodup, List.pairwise_iff_getElem]
  simp only [List.length_map, List.length_range, List.getElem_map, List.getElem_range]
  exact ⟨fun h i j hij hj => h i j (by omega) hj hij, fun h i j hi hj hij => h i j hij hj⟩
theorem get_at {L : List Int} {k : Int} (h0 : 0 ≤ k) (h1 : k < L.length) : L[k.toNat]?.getD 0 ∈ L ∧ L.take (k + 1).toNat = L.take k.toNat ++ [L[k.toNat]?.getD 0] := by
  have hk : k.toNat < L.length := by omega
  rw [List.getElem?_eq_getElem hk]
  refine ⟨List.getElem_mem hk, ?_⟩
  rw [show (k + 1).toNat = k.toNat + 1 by omega, List.take_succ_eq_append_getElem hk]
  rfl
section
variable {k : Tree} {env : List (EV U)} {X : Cx U} {R : List (EV U) → List (EV U) → Prop} {ci : Nat} {β : List Bnd}
end
end Go.Proofs.YtdabdbbgaekmdaaGreat
namespace Go.Proofs.YtdabdbbgaekmdaaGreat
set_option linter.unusedVariables false
set_option linter.unusedSimpArgs false
set_option linter.unusedSectionVars false
open Go Go.RowKit
def fillK (M : MemSt) (t l s : Int) : Nat → MemSt
  | 0 => M.store t 1
  | k + 1 => (fillK M t l s k).store (IntKind.i64.wrap (l + k)) (if (k : Int) + 1 = s then 0 else k + 2)
def fill10 (M : MemSt) (t l s : Int) : MemSt := if 1 ≤ s ∧ s ≤ 4096 then fillK M t l s s.toNat else M
theorem len_fillK (M : MemSt) (t l s : Int) : ∀ k, (fillK M t l s k).W.length = M.W.length
  | 0 => len_store _ _ _
  | k + 1 => by rw [fillK, len_store, len_fillK M t l s k]
theorem len_fill10 (M : MemSt) (t l s : Int) : (fill10 M t l s).W.length = M.W.length := by
  unfold fill10; split
  · exact len_fillK ..
  · rfl
theorem fillK_succ (M : MemSt) (a b n : Int) {i : Int} (h : 0 ≤ i) : fillK M a b n (i + 1).toNat = (fillK M a b n i.toNat).store (IntKind.i64.wrap (b + i)) (if i + 1 = n then 0 else i + 2) := by
  rw [show (i + 1).toNat = i.toNat + 1 by omega, fillK, show ((i.toNat : Nat) : Int) = i by omega]
def fillJ (M : MemSt) (st ks : Int) : Nat → MemSt
  | 0 => M
  | k + 1 => ((fillJ M st ks k).store (IntKind.i64.wrap (st + k)) 4294967297).store (IntKind.i64.wrap (ks + k)) 0
def fill24 (M : MemSt) (st ks t ls s : Int) : MemSt := if 1 ≤ s ∧ s ≤ 64 then fillJ (fill10 M t ls s) st ks s.toNat else M
theorem len_fillJ (M : MemSt) (st ks : Int) : ∀ k, (fillJ M st ks k).W.length = M.W.length
  | 0 => rfl
  | k + 1 => by rw [fillJ, len_store, len_store, len_fillJ M st ks k]
theorem len_fill24 (M : MemSt) (st ks t ls s : Int) : (fill24 M st ks t ls s).W.length = M.W.length := by
  unfold fill24; split
  · rw [len_fillJ, len_fill10]
  · rfl
theorem fillJ_succ (M : MemSt) (st ks : Int) {i : Int} (h : 0 ≤ i) : fillJ M st ks (i + 1).toNat = ((fillJ M st ks i.toNat).store (IntKind.i64.wrap (st + i)) 4294967297).store (IntKind.i64.wrap (ks + i)) 0 := by
  rw [show (i + 1).toNat = i.toNat + 1 by omega, fillJ, show ((i.toNat : Nat) : Int) = i by omega]
def cSFill : Ctr U :=
  { fn := 91, nin := 4, args := [.agg [.int .i64 (.var 1), .int .i64 (.var 2), .int .i64 (.var 3)], .hnd 0], heap := [.abs 0]
    pre := fun ins => ∃ M a b n, ins = [.u (.mem M), .i a, .i b, .i n] ∧ M.W.length ≤ 4096, nout := 1
    out := fun ins => match ins with | [.u (.mem M), .i a, .i b, .i n] => [.u (.mem (fill10 M a b n))] | _ => []
    ret := .tuple [], post := [.abs 4] }
def cQSFill : Ctr U :=
  { fn := 98, nin := 4, args := [.agg [.int .i64 (.var 1), .int .i64 (.var 2), .int .i64 (.var 3)], .hnd 0], heap := [.abs 0]
    pre := fun ins => ∃ M a b n, ins = [.u (.rmem M), .i a, .i b, .i n] ∧ M.W.length ≤ 4096, nout := 1
    out := fun ins => match ins with | [.u (.rmem M), .i a, .i b, .i n] => [.u (.rmem (fill10 M a b n))] | _ => []
    ret := .tuple [], post := [.abs 4] }
def cJFill : Ctr U :=
  { fn := 48, nin := 6, args := [.agg [.int .i64 (.var 1), .int .i64 (.var 2), .int .i64 (.var 3), .int .i64 (.var 4), .int .i64 (.var 5)], .hnd 0], heap := [.abs 0]
    pre := fun ins => ∃ M, ∃ st ks t ls s : Int, ins = [.u (.mem M), .i st, .i ks, .i t, .i ls, .i s] ∧ M.W.length ≤ 4096, nout := 1
    out := fun ins => match ins with | [.u (.mem M), .i st, .i ks, .i t, .i ls, .i s] => [.u (.mem (fill24 M st ks t ls s))] | _ => []
    ret := .tuple [], post := [.abs 6] }
def sfInv (env : List (EV U)) : Prop := ∃ M a b n, ∃ x0 x1 x2 : EV U, ∃ i : Int, env = [.u (.mem M), .i a, .i b, .i n, x0, x1, x2, .u (.mem (fillK M a b n i.toNat)), .i i] ∧ 0 ≤ i ∧ M.W.length ≤ 4096 ∧ i ≤ n ∧ 1 ≤ n ∧ n ≤ 4096
def lSFill : LoopS U :=
  { fn := 91, rid := 4, nv := 2, tm := [(16, .int .i64 (.var 8))], hp := [(0, .abs 7)], reb := [], inv := sfInv, mu := fun env => (gI env 3 - gI env 8).toNat }
/-- a word read as a state -/
def readL (w : Int) : List Int := [w % 256, w / 256 % 256, w / 4294967296]
def jobsL (M : MemSt) (st : Int) : Nat → List Int
  | 0 => []
  | n + 1 => jobsL M st n ++ readL (M.at0 (IntKind.i64.wrap (st + n)))
theorem jobsL_len (M : MemSt) (st : Int) : ∀ n, (jobsL M st n).length = 3 * n
  | 0 => rfl
  | n + 1 => by rw [jobsL, List.length_append, jobsL_len M st n]; rfl
def cJAll : Ctr U :=
  { fn := 12, nin := 6, args := [.agg [.int .i64 (.var 1), .int .i64 (.var 2), .int .i64 (.var 3), .int .i64 (.var 4), .int .i64 (.var 5)], .hnd 0], heap := [.abs 0]
    pre := fun ins => ∃ M, ∃ st ks t ls s : Int, ins = [.u (.mem M), .i st, .i ks, .i t, .i ls, .i s] ∧ M.fine ∧ 1 ≤ s ∧ s ≤ 64, nout := 4, out := fun _ => []
    rel := some fun ins outs => ∃ M, ∃ st ks t ls s cp : Int, ∃ d : List Int, ins = [.u (.mem M), .i st, .i ks, .i t, .i ls, .i s] ∧ outs = [.u (.mem M), .l (jobsL M st s.toNat ++ d), .i s, .i cp]
    ret := .slice 1 (.var 8) (.var 9), post := [.abs 6, .row .i64 44 7] }
def jfInv (env : List (EV U)) : Prop := ∃ M, ∃ st ks t ls s : Int, ∃ x6 : EV U, ∃ i : Int, env = [.u (.mem M), .i st, .i ks, .i t, .i ls, .i s, x6, .u (.mem (fillJ (fill10 M t ls s) st ks i.toNat)), .i i] ∧ 0 ≤ i ∧ M.W.length ≤ 4096 ∧ i ≤ s ∧ 1 ≤ s ∧ s ≤ 64
def lJFill : LoopS U :=
  { fn := 48, rid := 4, nv := 2, tm := [(15, .int .i64 (.var 8))], hp := [(0, .abs 7)], reb := [], inv := jfInv, mu := fun env => (gI env 5 - gI env 8).toNat }
def jaInv (env : List (EV U)) : Prop := ∃ M, ∃ st ks t ls s : Int, ∃ i cp : Int, ∃ d : List Int, env = [.u (.mem M), .i st, .i ks, .i t, .i ls, .i s, .u (.mem M), .l M.W, .i M.W.length, .i i, .l (jobsL M st i.toNat ++ d), .i i, .i cp] ∧ 0 ≤ i ∧ i ≤ s ∧ 1 ≤ s ∧ s ≤ 64 ∧ M.fine ∧ 3 * cp = 3 * i + d.length
def lJAll : LoopS U :=
  { fn := 12, rid := 6, nv := 4, tm := [(18, .int .i64 (.var 9)), (6, .slice 3 (.var 11) (.var 12))], hp := [(3, .row .i64 44 10)], reb := [(3, 0)], inv := jaInv, mu := fun env => (gI env 5 - gI env 9).toNat }
def cxDhs (P : Program) : Cx U := { cx P [cStore, cPuT] with join := true, loops := [lSFill] }
def cxDhf (P : Program) : Cx U := { cx P [cStore, cSFill] with join := true, loops := [lJFill] }
def cxDha (P : Program) : Cx U := { cx P [cWords, cJRd] with join := true, loops := [lJAll] }
end Go.Proofs.YtdabdbbgaekmdaaGreat
namespace Go.Proofs.YtdabdbbgaekmdaaGreat
set_option linter.unusedVariables false
set_option linter.unusedSimpArgs false
set_option linter.unusedSectionVars false
open Go
set_option maxRecDepth 100000
def hsSFill : List (Nat × Nat × List Nat) := []
def tSFillL0 : Tree := (.br (.cmp .lss (.var 8) (.var 3))
 (.br (.cmp .eql (.bin .add .i64 (.var 8) (.lit 1)) (.var 3))
 (.and (.call 1 [.ex (.lit (-1)), .ex (.lit 0)] (.and (.call 0 [.var 7, .ex (.bin .add .i64 (.var 2) (.var 8)), .ex (.var 9)] (.back 0 7 [.var 11, .ex (.bin .add .i64 (.var 8) (.lit 1))])) .ok)) .ok)
 (.and (.call 1 [.ex (.bin .add .i64 (.var 8) (.lit 1)), .ex (.lit 0)] (.and (.call 0 [.var 7, .ex (.bin .add .i64 (.var 2) (.var 8)), .ex (.var 9)] (.back 0 7 [.var 11, .ex (.bin .add .i64 (.var 8) (.lit 1))])) .ok)) .ok))
 (.ret [.var 7]))
def tSFill : Tree := (.br (.cmp .geq (.var 3) (.lit 1))
 (.br (.cmp .leq (.var 3) (.lit 4096))
 (.and (.call 1 [.ex (.lit 0), .ex (.lit 0)] (.and (.call 0 [.var 0, .ex (.var 1), .ex (.var 4)] (.loop 0 7 [.var 6, .ex (.lit 0)] tSFillL0)) .ok)) .ok)
 (.ret [.var 0]))
 (.ret [.var 0]))
theorem rSFill : runCtr { (cxDhs Tryz.prog) with hints := hsSFill } 20 cSFill [] [] = tSFill := by kernel_rfl
def hsJFill : List (Nat × Nat × List Nat) := []
def tJFillL0 : Tree := (.br (.cmp .lss (.var 8) (.var 5))
 (.and (.and (.call 0 [.var 7, .ex (.bin .add .i64 (.var 1) (.var 8)), .ex (.lit 4294967297)] (.call 0 [.var 9, .ex (.bin .add .i64 (.var 2) (.var 8)), .ex (.lit 0)] (.back 0 7 [.var 10, .ex (.bin .add .i64 (.var 8) (.lit 1))]))) .ok) .ok)
 (.ret [.var 7]))
def tJFill : Tree := (.br (.cmp .geq (.var 5) (.lit 1))
 (.br (.cmp .leq (.var 5) (.lit 64))
 (.call 1 [.var 0, .ex (.var 3), .ex (.var 4), .ex (.var 5)] (.loop 0 7 [.var 6, .ex (.lit 0)] tJFillL0))
 (.ret [.var 0]))
 (.ret [.var 0]))
theorem rJFill : runCtr { (cxDhf Tryz.prog) with hints := hsJFill } 20 cJFill [] [] = tJFill := by kernel_rfl
def hsJAll : List (Nat × Nat × List Nat) := []
def tJAllL0 : Tree := (.br (.cmp .lss (.var 9) (.var 5))
 (.br (.cmp .geq (.bin .add .i64 (.var 1) (.var 9)) (.lit 0))
 (.need (.cmp .leq (.lit 0) (.var 8)) (.br (.cmp .lss (.bin .add .i64 (.var 1) (.var 9)) (.var 8))
 (.need (.cmp .leq (.lit 0) (.bin .add .i64 (.var 1) (.var 9))) (.need (.cmp .lss (.bin .add .i64 (.var 1) (.var 9)) (.var 8)) (.need (.cmp .lss (.bin .add .i64 (.var 1) (.var 9)) (.len 7)) (.need (.cmp .leq (.lit 0) (.bin .add .i64 (.var 1) (.var 9))) (.need (.cmp .lss (.bin .add .i64 (.var 1) (.var 9)) (.len 7)) (.call 1 [.ex (.nth 7 (.bin .add .i64 (.var 1) (.var 9)))] (.need (.cmp .leq (.lit 0) (.var 11)) (.need (.cmp .leq (.var 11) (.var 12)) (.need (.rm 10 3 (.var 12)) (.need (.cmp .leq (.var 11) (.lit 1000000)) (.appf (some 10) (.var 11) 3 [(.var 13), (.var 14), (.var 15)] (.back 0 9 [.ex (.bin .add .i64 (.var 9) (.lit 1)), .var 16, .ex (.bin .add .i64 (.var 11) (.lit 1)), .ex (.var 17)]))))))))))))
 (.call 1 [.ex (.lit 0)] (.need (.cmp .leq (.lit 0) (.var 11)) (.need (.cmp .leq (.var 11) (.var 12)) (.need (.rm 10 3 (.var 12)) (.need (.cmp .leq (.var 11) (.lit 1000000)) (.appf (some 10) (.var 11) 3 [(.var 13), (.var 14), (.var 15)] (.back 0 9 [.ex (.bin .add .i64 (.var 9) (.lit 1)), .var 16, .ex (.bin .add .i64 (.var 11) (.lit 1)), .ex (.var 17)])))))))))
 (.call 1 [.ex (.lit 0)] (.need (.cmp .leq (.lit 0) (.var 11)) (.need (.cmp .leq (.var 11) (.var 12)) (.need (.rm 10 3 (.var 12)) (.need (.cmp .leq (.var 11) (.lit 1000000)) (.appf (some 10) (.var 11) 3 [(.var 13), (.var 14), (.var 15)] (.back 0 9 [.ex (.bin .add .i64 (.var 9) (.lit 1)), .var 16, .ex (.bin .add .i64 (.var 11) (.lit 1)), .ex (.var 17)]))))))))
 (.ret [.var 6, .var 10, .ex (.var 11), .ex (.var 12)]))
def tJAll : Tree := (.br (.cmp .geq (.var 5) (.lit 1))
 (.br (.cmp .leq (.var 5) (.lit 64))
 (.call 0 [.var 0] (.ext (.lst []) (.loop 0 9 [.ex (.lit 0), .var 9, .ex (.lit 0), .ex (.lit 0)] tJAllL0)))
 (.ext (.lst []) (.ret [.var 0, .var 6, .ex (.lit 0), .ex (.lit 0)])))
 (.ext (.lst []) (.ret [.var 0, .var 6, .ex (.lit 0), .ex (.lit 0)])))
theorem rJAll : runCtr { (cxDha Tryz.prog) with hints := hsJAll } 20 cJAll [] [] = tJAll := by kernel_rfl
end Go.Proofs.YtdabdbbgaekmdaaGreat
namespace Go.Proofs.YtdabdbbgaekmdaaGreat
set_option linter.unusedVariables false
set_option linter.unusedSimpArgs false
set_option linter.unusedSectionVars false
open Go Go.RowKit
theorem out_SFill (M : MemSt) (a b n : Int) : cSFill.out [.u (.mem M), .i a, .i b, .i n] = [.u (.mem (fill10 M a b n))] := rfl
theorem out_QSFill (M : MemSt) (a b n : Int) : cQSFill.out [.u (.rmem M), .i a, .i b, .i n] = [.u (.rmem (fill10 M a b n))] := rfl
set_option maxHeartbeats 2000000 in
theorem vSFill (P : Program) (hs : List (Nat × Nat × List Nat)) : ∀ ins, ins.length = cSFill.nin → cSFill.pre ins → tSFill.sat { cxDhs P with hints := hs } (ctrR cSFill) ins := by
  have hb : ∀ env, sfInv env → tSFillL0.sat { cxDhs P with hints := hs } (ctrR cSFill) env := by
    rintro env ⟨M, a, b, n, x0, x1, x2, i, rfl, h1, hM, h2, h3, h4⟩
    have e0 : IntKind.i64.wrap (i + 1) = i + 1 := wrap_small (by omega) (by omega)
    unfold tSFillL0
    repeat' (first
      | (first
        | (with_reducible refine st_need ?_ ?_
           focus (simp only [dn, reduceCtorEq, e0] <;> first | omega | assumption))
        | (with_reducible refine st_and ?_ ?_)
        | (with_reducible exact st_ok)
        | (with_reducible refine st_br (fun hc => ?_) (fun hc => ?_) <;> (simp only [dn, reduceCtorEq, e0] at hc) <;> (try (exfalso; first | contradiction | omega)))
        | (refine st_call (by rfl) (by simp only [dn, reduceCtorEq, e0] <;> rfl) ?_ (by simp only [out_store, out_puT] <;> rfl) (by simp only [dn] <;> rfl) ?_
           focus (first | exact ⟨_, _, _, rfl⟩ | exact ⟨_, _, _, _, rfl, by first | exact hM | (simp only [len_store, len_fillK, len_fill10, len_fillJ, len_fill24]; exact hM)⟩ | exact ⟨_, _, _, _, _, _, _, rfl, by first | exact hM | (simp only [len_store, len_fillK, len_fill10, len_fillJ, len_fill24]; exact hM)⟩ | exact ⟨_, _, _, _, _, _, _, _, _, _, _, rfl, by first | exact hM | (simp only [len_store, len_fillK, len_fill10, len_fillJ, len_fill24]; exact hM)⟩ | exact ⟨_, _, _, _, _, _, _, _, _, _, _, _, _, rfl⟩ | exact ⟨_, _, rfl, by decide, by decide, by decide, by decide⟩ | exact ⟨_, _, rfl, by omega, by omega, by decide, by decide⟩)))
      | (refine st_back (by rfl) (by simp only [dn, reduceCtorEq, e0] <;> rfl) (by simp only [dn] <;> rfl) (by rfl) ?_ ?_
         focus (refine ⟨M, a, b, n, x0, x1, x2, i + 1, ?_, by omega, hM, by omega, h3, h4⟩
                rw [fillK_succ _ _ _ _ h1]
                first
                  | (rw [if_pos (by omega)]; try rfl)
                  | (rw [if_neg (by omega), show i + 1 + 1 + 0 * 65536 = i + 2 by omega]; try rfl))
         focus (show (n - (i + 1)).toNat < (n - i).toNat; omega))
      | (refine st_ret (by simp only [dn, reduceCtorEq, e0] <;> rfl) ?_
         have hi : i = n := by omega
         subst hi
         show _ = [EV.u (U.mem (fill10 M a b i))]
         rw [fill10, if_pos ⟨h3, h4⟩])
      | fail "no step")
  rintro ins _ ⟨M, a, b, n, rfl, hM⟩
  unfold tSFill
  repeat' (first
    | (first
      | (with_reducible refine st_need ?_ ?_
         focus (simp only [dn, reduceCtorEq, hb] <;> first | omega | assumption))
      | (with_reducible refine st_and ?_ ?_)
      | (with_reducible exact st_ok)
      | (with_reducible refine st_br (fun hc => ?_) (fun hc => ?_) <;> (simp only [dn, reduceCtorEq, hb] at hc) <;> (try (exfalso; first | contradiction | omega)))
      | (refine st_call (by rfl) (by simp only [dn, reduceCtorEq, hb] <;> rfl) ?_ (by simp only [out_store, out_puT] <;> rfl) (by simp only [dn] <;> rfl) ?_
         focus (first | exact ⟨_, _, _, rfl⟩ | exact ⟨_, _, _, _, rfl, by first | exact hM | (simp only [len_store, len_fillK, len_fill10, len_fillJ, len_fill24]; exact hM)⟩ | exact ⟨_, _, _, _, _, _, _, rfl, by first | exact hM | (simp only [len_store, len_fillK, len_fill10, len_fillJ, len_fill24]; exact hM)⟩ | exact ⟨_, _, _, _, _, _, _, _, _, _, _, rfl, by first | exact hM | (simp only [len_store, len_fillK, len_fill10, len_fillJ, len_fill24]; exact hM)⟩ | exact ⟨_, _, _, _, _, _, _, _, _, _, _, _, _, rfl⟩ | exact ⟨_, _, rfl, by decide, by decide, by decide, by decide⟩ | exact ⟨_, _, rfl, by omega, by omega, by decide, by decide⟩)))
    | (refine st_loop (by rfl) (by simp only [dn, reduceCtorEq, hb] <;> rfl) (by simp only [dn] <;> rfl) ?_ (fun env' h => hb env' h)
       exact ⟨_, _, _, _, _, _, _, 0, rfl, by omega, hM, by omega, by omega, by omega⟩)
    | (refine st_ret (by simp only [dn, reduceCtorEq, hb] <;> rfl) ?_
       show _ = [EV.u (U.mem (fill10 M a b n))]
       rw [fill10, if_neg (by omega)])
    | fail "no step")
theorem hctsXS : ∀ (ci : Nat) (c : Ctr U), ([cStore, cPuT] : List (Ctr U))[ci]? = some c → c.Holds objs Tryz.prog := by
  intro ci c h
  match ci, h with
  | 0, h => cases h; exact hStore
  | 1, h => cases h; exact hPuT
  | n + 2, h => cases h
theorem hSFill : cSFill.Holds objs Tryz.prog := runCtr_holds (X := { cxDhs Tryz.prog with hints := hsSFill }) objsOk mixed hctsXS (callable _ Tryz.func91 (by kernel_rfl) (by kernel_rfl)) (by rintro ins _ ⟨_, _, _, _, rfl, _⟩; rfl) (by rw [rSFill]; exact vSFill _ _)
set_option maxHeartbeats 2000000 in
theorem bJFill (P : Program) (hs : List (Nat × Nat × List Nat)) : ∀ env, jfInv env → tJFillL0.sat { cxDhf P with hints := hs } (ctrR cJFill) env := by
  rintro env ⟨M, st, ks, t, ls, s, x6, i, rfl, h1, hM, h3, h4, h5⟩
  have e0 : IntKind.i64.wrap (i + 1) = i + 1 := wrap_small (by omega) (by omega)
  by_cases hi : i < s
  all_goals
    unfold tJFillL0
    repeat' (first
      | (first
        | (with_reducible refine st_need ?_ ?_
           focus (simp only [dn, reduceCtorEq, e0] <;> first | omega | assumption))
        | (with_reducible refine st_and ?_ ?_)
        | (with_reducible exact st_ok)
        | (with_reducible refine st_br (fun hc => ?_) (fun hc => ?_) <;> (simp only [dn, reduceCtorEq, e0] at hc) <;> (try (exfalso; first | contradiction | omega)))
        | (refine st_call (by rfl) (by simp only [dn, reduceCtorEq, e0] <;> rfl) ?_ (by simp only [out_store, fo_store, out_SFill, out_QSFill] <;> rfl) (by simp only [dn] <;> rfl) ?_
           focus (first | exact ⟨_, _, _, rfl⟩ | exact ⟨_, _, _, rfl, (by first | exact hM | (simp only [len_store, len_fillK, len_fill10, len_fillJ, len_fill24]; exact hM))⟩ | exact ⟨_, _, _, _, rfl, (by first | exact hM | (simp only [len_store, len_fillK, len_fill10, len_fillJ, len_fill24]; exact hM))⟩)))
      | (refine st_back (by rfl) (by simp only [dn, reduceCtorEq, e0] <;> rfl) (by simp only [dn] <;> rfl) (by rfl) ?_ ?_
         focus exact ⟨M, st, ks, t, ls, s, x6, i + 1, by rw [fillJ_succ _ _ _ h1]; rfl, by omega, hM, by omega, h4, h5⟩
         focus (show (s - (i + 1)).toNat < (s - i).toNat; omega))
      | (refine st_ret (by simp only [dn, reduceCtorEq, e0] <;> rfl) ?_
         focus (obtain rfl : i = s := by omega
                show _ = [EV.u (U.mem (fill24 M st ks t ls i))]
                rw [fill24, if_pos ⟨h4, h5⟩]))
      | fail "no step")
set_option maxHeartbeats 2000000 in
theorem vJFill (P : Program) (hs : List (Nat × Nat × List Nat)) : ∀ ins, ins.length = cJFill.nin → cJFill.pre ins → tJFill.sat { cxDhf P with hints := hs } (ctrR cJFill) ins := by
  rintro ins _ ⟨M, st, ks, t, ls, s, rfl, hM⟩
  unfold tJFill
  repeat' (first
    | (first
      | (with_reducible refine st_need ?_ ?_
         focus (simp only [dn, reduceCtorEq, hM] <;> first | omega | assumption))
      | (with_reducible refine st_and ?_ ?_)
      | (with_reducible exact st_ok)
      | (with_reducible refine st_br (fun hc => ?_) (fun hc => ?_) <;> (simp only [dn, reduceCtorEq, hM] at hc) <;> (try (exfalso; first | contradiction | omega)))
      | (refine st_call (by rfl) (by simp only [dn, reduceCtorEq, hM] <;> rfl) ?_ (by simp only [out_store, fo_store, out_SFill, out_QSFill] <;> rfl) (by simp only [dn] <;> rfl) ?_
         focus (first | exact ⟨_, _, _, rfl⟩ | exact ⟨_, _, _, rfl, (by first | exact hM | (simp only [len_store, len_fillK, len_fill10, len_fillJ, len_fill24]; exact hM))⟩ | exact ⟨_, _, _, _, rfl, (by first | exact hM | (simp only [len_store, len_fillK, len_fill10, len_fillJ, len_fill24]; exact hM))⟩)))
    | (refine st_loop (by rfl) (by simp only [dn, reduceCtorEq, hM] <;> rfl) (by simp only [dn] <;> rfl) ?_ (fun env' h => bJFill P hs env' h)
       exact ⟨M, st, ks, t, ls, s, _, 0, rfl, by omega, hM, by omega, by omega, by omega⟩)
    | (refine st_ret (by simp only [dn, reduceCtorEq, hM] <;> rfl) ?_
       focus (show _ = [EV.u (U.mem (fill24 M st ks t ls s))]
              rw [fill24, if_neg (by omega)]))
    | fail "no step")
theorem hctsJFill : ∀ (ci : Nat) (c : Ctr U), ([cStore, cSFill] : List (Ctr U))[ci]? = some c → c.Holds objs Tryz.prog := by
  intro ci c h
  match ci, h with
  | 0, h => cases h; exact hStore
  | 1, h => cases h; exact hSFill
  | n + 2, h => cases h
theorem hJFill : cJFill.Holds objs Tryz.prog := runCtr_holds (X := { cxDhf Tryz.prog with hints := hsJFill }) objsOk mixed hctsJFill (callable _ Tryz.func48 (by kernel_rfl) (by kernel_rfl)) (by rintro ins _ ⟨_, _, _, _, _, _, rfl, _⟩; rfl) (by rw [rJFill]; exact vJFill _ _)
theorem bx_rm (env : List (EV U)) (i z : Nat) (e : Ex) : Bx.den env (.rm i z e) = decide ((z : Int) * e.den env = ((gL env i).length : Int)) := rfl
section
variable {k : Tree} {env : List (EV U)} {X : Cx U} {R : List (EV U) → List (EV U) → Prop} {ci : Nat} {β : List Bnd}
theorem st_appf {i : Nat} {e : Ex} {xs : List Ex} {V vc ys : List Int} {sz n : Nat} (hl : gL env i = V ++ vc) (hn : e.den env = (n : Int)) (hV : V.length = n * sz) (hx : xs.map (Ex.den env) = ys)
    (hk : ∀ (q : Nat) (r : List Int) (env' : List (EV U)), r.length = sz * q → env ++ [.l ((V ++ ys) ++ r), .i ((n + 1 + q : Nat) : Int)] = env' → k.sat X R env') : (Tree.appf (some i) e sz xs k).sat X R env := by
  intro q r hr
  refine hk q r _ hr ?_
  simp only
  rw [hl, hn, Int.toNat_natCast, List.take_left' hV, hx]
end
theorem jobsL_succ (M : MemSt) (st : Int) {i : Int} (h : 0 ≤ i) : jobsL M st (i + 1).toNat = jobsL M st i.toNat ++ readL (M.at0 (IntKind.i64.wrap (st + i))) := by
  rw [show (i + 1).toNat = i.toNat + 1 by omega, jobsL, show ((i.toNat : Nat) : Int) = i by omega]
set_option maxHeartbeats 4000000 in
theorem bJAll (P : Program) (hs : List (Nat × Nat × List Nat)) : ∀ env, jaInv env → tJAllL0.sat { cxDha P with hints := hs } (ctrR cJAll) env := by
  rintro env ⟨M, st, ks, t, ls, s, i, cp, d, rfl, h1, h2, h3, h4, hM, h5⟩
  have e0 : IntKind.i64.wrap (i + 1) = i + 1 := wrap_small (by omega) (by omega)
  have hsucc := jobsL_succ M st h1
  have hjl := jobsL_len M st i.toNat
  have hlen : ((jobsL M st i.toNat ++ d).length : Int) = 3 * i + d.length := by rw [List.length_append, hjl]; omega
  obtain ⟨n, rfl⟩ : ∃ n : Nat, i = n := ⟨i.toNat, by omega⟩
  rw [Int.toNat_natCast] at hjl
  by_cases hi : (n : Int) < s
  · generalize hx : IntKind.i64.wrap (st + (n : Int)) = x at hsucc
    have hw : isW (M.at0 x) := fine_at0 hM x
    have hv : 0 ≤ x ∧ x < M.W.length → M.W[x.toNat]?.getD 0 = M.at0 x := fun h => (at0_in h.1 h.2).symm
    by_cases hin : 0 ≤ x ∧ x < M.W.length
    · have hv := hv hin
      unfold tJAllL0
      repeat' (first
        | (first
          | (with_reducible refine st_need ?_ ?_
             focus (simp only [dn, reduceCtorEq, hx, hv, bx_rm, hlen, decide_eq_true_eq] <;> first | omega | assumption))
          | (with_reducible refine st_and ?_ ?_)
          | (with_reducible exact st_ok)
          | (with_reducible refine st_br (fun hc => ?_) (fun hc => ?_) <;> (simp only [dn, reduceCtorEq, hx, hv, bx_rm, hlen, decide_eq_true_eq] at hc) <;> (try (exfalso; first | contradiction | omega)))
          | (refine st_call (by rfl) (by simp only [dn, reduceCtorEq, hx, hv, bx_rm, hlen, decide_eq_true_eq] <;> rfl) ?_ (by simp only [out_jrd] <;> rfl) (by simp only [dn] <;> rfl) ?_
             focus (first | exact ⟨_, rfl⟩ | exact ⟨_, rfl, hw⟩ | exact ⟨_, _, rfl, hM.1⟩ | exact ⟨_, rfl, isWd0⟩)))
        | (refine st_appf (V := jobsL M st n) (n := n) (vc := d) (by rfl) (by rfl) (by omega) (by simp only [List.map_cons, List.map_nil] <;> rfl) (fun q rr env' hr he => ?_)
           simp only [List.cons_append, List.nil_append] at he
           subst he)
        | (refine st_back (by rfl) (by simp only [dn, reduceCtorEq, e0] <;> rfl) (by simp only [dn] <;> rfl) (by rfl) ?_ ?_
           focus exact ⟨M, st, ks, t, ls, s, (n : Int) + 1, ((n + 1 + q : Nat) : Int), rr, by rw [hsucc]; rfl, by omega, by omega, h3, h4, hM, by omega⟩
           focus (show (s - ((n : Int) + 1)).toNat < (s - (n : Int)).toNat; omega))
        | fail "no step")
    · have hz : M.at0 x = 0 := at0_out (by omega)
      rw [hz] at hsucc
      unfold tJAllL0
      repeat' (first
        | (first
          | (with_reducible refine st_need ?_ ?_
             focus (simp only [dn, reduceCtorEq, hx, bx_rm, hlen, decide_eq_true_eq] <;> first | omega | assumption))
          | (with_reducible refine st_and ?_ ?_)
          | (with_reducible exact st_ok)
          | (with_reducible refine st_br (fun hc => ?_) (fun hc => ?_) <;> (simp only [dn, reduceCtorEq, hx, bx_rm, hlen, decide_eq_true_eq] at hc) <;> (try (exfalso; first | contradiction | omega)))
          | (refine st_call (by rfl) (by simp only [dn, reduceCtorEq, hx, bx_rm, hlen, decide_eq_true_eq] <;> rfl) ?_ (by simp only [out_jrd] <;> rfl) (by simp only [dn] <;> rfl) ?_
             focus (first | exact ⟨_, rfl⟩ | exact ⟨_, rfl, hw⟩ | exact ⟨_, _, rfl, hM.1⟩ | exact ⟨_, rfl, isWd0⟩)))
        | (refine st_appf (V := jobsL M st n) (n := n) (vc := d) (by rfl) (by rfl) (by omega) (by simp only [List.map_cons, List.map_nil] <;> rfl) (fun q rr env' hr he => ?_)
           simp only [List.cons_append, List.nil_append] at he
           subst he)
        | (refine st_back (by rfl) (by simp only [dn, reduceCtorEq, e0] <;> rfl) (by simp only [dn] <;> rfl) (by rfl) ?_ ?_
           focus exact ⟨M, st, ks, t, ls, s, (n : Int) + 1, ((n + 1 + q : Nat) : Int), rr, by rw [hsucc]; rfl, by omega, by omega, h3, h4, hM, by omega⟩
           focus (show (s - ((n : Int) + 1)).toNat < (s - (n : Int)).toNat; omega))
        | fail "no step")
  · unfold tJAllL0
    repeat' (first
      | (first
        | (with_reducible refine st_need ?_ ?_
           focus (simp only [dn, reduceCtorEq, e0] <;> first | omega | assumption))
        | (with_reducible refine st_and ?_ ?_)
        | (with_reducible exact st_ok)
        | (with_reducible refine st_br (fun hc => ?_) (fun hc => ?_) <;> (simp only [dn, reduceCtorEq, e0] at hc) <;> (try (exfalso; first | contradiction | omega)))
        | (refine st_call (by rfl) (by simp only [dn, reduceCtorEq, e0] <;> rfl) ?_ (by rfl <;> rfl) (by simp only [dn] <;> rfl) ?_
           focus (first | rfl)))
      | (refine st_ret (by simp only [dn, reduceCtorEq, e0] <;> rfl) ?_
         focus (obtain rfl : s = (n : Int) := by omega
                exact ⟨M, st, ks, t, ls, (n : Int), cp, d, rfl, rfl⟩))
      | fail "no step")
set_option maxHeartbeats 4000000 in
theorem vJAll (P : Program) (hs : List (Nat × Nat × List Nat)) : ∀ ins, ins.length = cJAll.nin → cJAll.pre ins → tJAll.sat { cxDha P with hints := hs } (ctrR cJAll) ins := by
  rintro ins _ ⟨M, st, ks, t, ls, s, rfl, hM, h1, h2⟩
  unfold tJAll
  repeat' (first
    | (first
      | (with_reducible refine st_need ?_ ?_
         focus (simp only [dn, reduceCtorEq, hM] <;> first | omega | assumption))
      | (with_reducible refine st_and ?_ ?_)
      | (with_reducible exact st_ok)
      | (with_reducible refine st_br (fun hc => ?_) (fun hc => ?_) <;> (simp only [dn, reduceCtorEq, hM] at hc) <;> (try (exfalso; first | contradiction | omega)))
      | (refine st_call (by rfl) (by simp only [dn, reduceCtorEq, hM] <;> rfl) ?_ (by simp only [out_words] <;> rfl) (by simp only [dn] <;> rfl) ?_
         focus (first | exact ⟨_, rfl⟩)))
    | (refine st_lst (by simp only [dn, reduceCtorEq, hM] <;> rfl) ?_)
    | (refine st_loop (by rfl) (by simp only [dn, reduceCtorEq, hM] <;> rfl) (by simp only [dn] <;> rfl) ?_ (fun env' h => bJAll P hs env' h)
       exact ⟨M, st, ks, t, ls, s, 0, 0, [], rfl, by omega, by omega, h1, h2, hM, rfl⟩)
    | fail "no step")
theorem hctsJAll : ∀ (ci : Nat) (c : Ctr U), ([cWords, cJRd] : List (Ctr U))[ci]? = some c → c.Holds objs Tryz.prog := by
  intro ci c h
  match ci, h with
  | 0, h => cases h; exact hWords
  | 1, h => cases h; exact hJRd
  | n + 2, h => cases h
theorem hJAll : cJAll.Holds objs Tryz.prog := runCtr_holdsm (X := { cxDha Tryz.prog with hints := hsJAll }) (fuel := 20) (opens := []) (folds := []) objsOk mixed hctsJAll (callable _ Tryz.func12 (by kernel_rfl) (by kernel_rfl)) (by rintro ins outs _ _ ⟨_, _, _, _, _, _, _, _, _, rfl⟩; rfl) (by rw [rJAll]; exact vJAll _ _)
end Go.Proofs.YtdabdbbgaekmdaaGreat
namespace Go.Proofs.YtdabdbbgaekmdaaGreat
set_option linter.unusedVariables false
set_option linter.unusedSimpArgs false
set_option linter.unusedSectionVars false
open Go Go.RowKit
section
variable {k : Tree} {env : List (EV U)} {X : Cx U} {R : List (EV U) → List (EV U) → Prop} {ci : Nat} {β : List Bnd}
theorem st_jall {M : MemSt} {st ks t ls s : Int} (hc : X.cts[ci]? = some cJAll) (ha : β.map (Bnd.den env) = [.u (.mem M), .i st, .i ks, .i t, .i ls, .i s]) (hM : M.fine) (h1 : 1 ≤ s) (h2 : s ≤ 64)
    (hk : ∀ (cp : Int) (d : List Int) (env' : List (EV U)), env ++ [.u (.mem M), .l (jobsL M st s.toNat ++ d), .i s, .i cp] = env' → k.sat X R env') : (Tree.callm ci β k).sat X R env := by
  refine st_callm hc ha ⟨_, _, _, _, _, _, rfl, hM, h1, h2⟩ (fun o env' hr he => ?_)
  obtain ⟨M', st', ks', t', ls', s', cp, d, e1, e2⟩ := hr
  simp only [List.cons.injEq, EV.i.injEq, EV.u.injEq, U.mem.injEq, and_true] at e1
  obtain ⟨rfl, rfl, rfl, rfl, rfl, rfl⟩ := e1
  subst e2
  exact hk cp d env' he
end
theorem true3 {a b c : Int} : (cmpDen .eql a a && (cmpDen .eql b b && cmpDen .eql c c)) = true := by simp [cmpDen]
end Go.Proofs.YtdabdbbgaekmdaaGreat
namespace Go.Proofs.YtdabdbbgaekmdaaGreat
set_option linter.unusedVariables false
set_option linter.unusedSimpArgs false
set_option linter.unusedSectionVars false
open Go Go.RowKit
/-- a call, written out: of what, with what, what lay in the blocks; what is handed back, what lies in them then -/
structure Lit where
  fn : FuncId
  args : List SV
  heap : List HE
  ret : SV
  post : List HE
/-- a closed function that answers true -/
def boolC (f : FuncId) : Ctr U := { fn := f, nin := 0, args := [], heap := [], pre := fun ins => ins = [], nout := 1, out := fun _ => [.b true], ret := .bool (.var 0), post := [] }
def lit0 (l : Lit) : Ctr U := { fn := l.fn, nin := 0, args := l.args, heap := l.heap, pre := fun ins => ins = [], nout := 0, out := fun _ => [], ret := l.ret, post := l.post }
def Lit.told (l : Lit) : Bool := match l.ret with | .junk => true | _ => false
def lit (l : Lit) : Ctr U := match l.told with | true => boolC l.fn | false => lit0 l
theorem lit_eq {l : Lit} (h : l.told = false) : lit l = lit0 l := by unfold lit; rw [h]
def cxL (P : Program) (ls : List Lit) : Cx U := { cx P (ls.map lit) with join := true }
def preL (_ : Nat) (ins : List (EV U)) : Bool := ins.isEmpty
def okL (_ : Nat) (_ : List (EV U)) : Bool := false
def endL (_ : List (EV U)) (o : List (EV U)) : Bool := o.isEmpty
theorem preL_spec {ls : List Lit} : ∀ (ci : Nat) (c : Ctr U) (ins : List (EV U)), (ls.map lit)[ci]? = some c → preL ci ins = true → c.pre ins := by
  intro ci c ins h hp
  rw [List.getElem?_map, Option.map_eq_some_iff] at h
  obtain ⟨l, _, rfl⟩ := h
  have := List.isEmpty_iff.1 hp
  unfold lit
  split <;> exact this
theorem okL_spec : ∀ (m : Nat) (T : ObjT U) (ps : List (EV U)), objs[m]? = some T → okL m ps = true → T.ok ps := by
  intro m T ps _ h; cases h
/-- do all of these hold? -/
def AllHold (ls : List Lit) : Prop := ∀ l ∈ ls, (lit l).Holds objs Tryz.prog
theorem all_nil : AllHold [] := by intro l h; simp at h
theorem all_cons {l : Lit} {ls : List Lit} (h : (lit l).Holds objs Tryz.prog) (hs : AllHold ls) : AllHold (l :: ls) := by
  intro x hx
  rcases List.mem_cons.1 hx with rfl | hx
  · exact h
  · exact hs x hx
theorem AllHold.cts {ls : List Lit} (h : AllHold ls) : ∀ (ci : Nat) (c : Ctr U), (ls.map lit)[ci]? = some c → c.Holds objs Tryz.prog := by
  intro ci c hc
  rw [List.getElem?_map, Option.map_eq_some_iff] at hc
  obtain ⟨l, hl, rfl⟩ := hc
  exact h l (List.mem_of_getElem? hl)
/-- what a run whose numbers are all known says -/
def runL (ls : List Lit) (l : Lit) : Prop := ∀ cs, (runCtr (cxL Tryz.prog ls) 60 (lit l) [] []).satC (cxL Tryz.prog ls) preL okL endL cs 0 [] [] = true
set_option maxRecDepth 100000 in
theorem lit_holds {ls : List Lit} {l : Lit} (hcal : Callable Tryz.prog l.fn) (hs : AllHold ls) (h : runL ls l) (ht : l.told = false := by rfl) : (lit l).Holds objs Tryz.prog := by
  unfold runL at h
  rw [lit_eq ht] at h ⊢
  exact runCtr_holds (X := cxL Tryz.prog ls) (c := lit0 l) (fuel := 60) (opens := []) (folds := []) objsOk mixed hs.cts hcal (by rintro ins _ rfl; rfl)
    (by
      rintro ins _ rfl
      refine satC_sound (RB := endL) (preB := preL) (okB := okL) ?_ ?_ ?_ _ 0 [] [] CapsOk.nil h
      · exact preL_spec (ls := ls)
      · exact okL_spec
      · intro e o ho
        have := List.isEmpty_iff.1 ho
        subst this
        rfl)
set_option maxRecDepth 100000 in
theorem lit_root {ls : List Lit} {f : FuncId} (hcal : Callable Tryz.prog f) (hs : AllHold ls)
    (h : ∀ cs, (runCtr (cxL Tryz.prog ls) 60 (boolC f) [] []).satC (cxL Tryz.prog ls) preL okL (fun _ o => oneB o) cs 0 [] [] = true) : (boolC f).Holds objs Tryz.prog :=
  runCtr_holds (X := cxL Tryz.prog ls) (c := boolC f) (fuel := 60) (opens := []) (folds := []) objsOk mixed hs.cts hcal (by rintro ins _ rfl; rfl)
    (by
      rintro ins _ rfl
      refine satC_sound (RB := fun _ o => oneB o) (preB := preL) (okB := okL) ?_ ?_ ?_ _ 0 [] [] CapsOk.nil h
      · exact preL_spec (ls := ls)
      · exact okL_spec
      · intro e o ho
        exact oneB_spec ho)
end Go.Proofs.YtdabdbbgaekmdaaGreat
namespace Go.Proofs.YtdabdbbgaekmdaaGreat
set_option linter.unusedVariables false
set_option linter.unusedSimpArgs false
set_option linter.unusedSectionVars false
open Go Go.RowKit
def OpSt.ok (O : OpSt) : Prop := O.line = 9 ∨ (-1 ≤ O.i ∧ O.i ≤ 65534 ∧ -1 ≤ O.pj ∧ O.pj ≤ 65534 ∧ isWd O.w ∧ 0 ≤ O.to ∧ O.to ≤ 5 ∧ 0 ≤ O.co ∧ O.co < 64)
def KeySt.ok (K : KeySt) : Prop := isWd K.w
def oOk : CoSt → Prop | .no => True | .take O => O.ok | .give O => O.ok | .turn O => O.ok | .key K => K.ok | .kof _ => True
end Go.Proofs.YtdabdbbgaekmdaaGreat
namespace Go.Proofs.YtdabdbbgaekmdaaGreat
set_option linter.unusedVariables false
set_option linter.unusedSimpArgs false
set_option linter.unusedSectionVars false
open Go Go.RowKit
theorem topW_isW {i w : Int} (h : -1 ≤ i) (h1 : i ≤ 65534) : isW (topW i w) := by
  unfold topW
  exact ⟨by omega, by omega⟩
theorem layW_isW {s c g : Int} (h : 0 ≤ s ∧ s ≤ 5) (h1 : 0 ≤ c ∧ c < 64) (h2 : 0 ≤ g ∧ g < 4294967296) : isW (layW s c g) := by
  unfold layW
  exact ⟨by omega, by omega⟩
theorem ok9 {i e : Int} : (OpSt.ended i e).ok := .inl rfl
theorem pop_ok {O : OpSt} {a b c : Int} (h : -1 ≤ c ∧ c ≤ 65534) : (O.pop a b c).ok := .inr ⟨by show (-1 : Int) ≤ 0; omega, by show (0 : Int) ≤ 65534; omega, h.1, h.2, isWd0, Int.le_refl 0, by show (0 : Int) ≤ 5; omega, Int.le_refl 0, by show (0 : Int) < 64; omega⟩
theorem at1_ok {O : OpSt} {i : Int} (h : -1 ≤ i ∧ i ≤ 65534) (h1 : 0 ≤ O.to ∧ O.to ≤ 5) (h2 : 0 ≤ O.co ∧ O.co < 64) : (O.at1 i).ok := .inr ⟨h.1, h.2, by show (-1 : Int) ≤ 0; omega, by show (0 : Int) ≤ 65534; omega, isWd0, h1.1, h1.2, h2.1, h2.2⟩
theorem at2_ok {O : OpSt} {w : Int} (h : -1 ≤ O.i ∧ O.i ≤ 65534) (h1 : 0 ≤ O.to ∧ O.to ≤ 5) (h2 : 0 ≤ O.co ∧ O.co < 64) (hw : isWd w) : (O.at2 w).ok := .inr ⟨h.1, h.2, by show (-1 : Int) ≤ 0; omega, by show (0 : Int) ≤ 65534; omega, hw, h1.1, h1.2, h2.1, h2.2⟩
theorem push_ok {O : OpSt} {a b : Int} (h : -1 ≤ O.i ∧ O.i ≤ 65534) : (O.push a b).ok := .inr ⟨h.1, h.2, by show (-1 : Int) ≤ 0; omega, by show (0 : Int) ≤ 65534; omega, isWd0, Int.le_refl 0, by show (0 : Int) ≤ 5; omega, Int.le_refl 0, by show (0 : Int) < 64; omega⟩
theorem op_ok {O : OpSt} {M : MemSt} (h : O.ok) (hM : M.fine) : (O.step M).1.ok := by
  have hO := h
  by_cases h9 : O.line = 9
  · unfold OpSt.step
    rw [if_neg (by omega), if_neg (by omega), if_neg (by omega), if_neg (by omega)]
    exact hO
  obtain ⟨a1, a2, a3, a4, a5, a6, a7, a8, a9⟩ := h.resolve_left h9
  unfold OpSt.step
  split
  · split
    · show OpSt.ok (if _ then _ else _)
      split
      · exact ok9
      · exact pop_ok (by omega)
    · split
      · exact pop_ok (idxW_lo' _ _)
      · show OpSt.ok (if _ then _ else _)
        split
        · exact at1_ok (idxW_lo' _ _) ⟨a6, a7⟩ ⟨a8, a9⟩
        · exact pop_ok (by omega)
  · split
    · show OpSt.ok (if _ then _ else _)
      split
      · exact at2_ok ⟨a1, a2⟩ ⟨a6, a7⟩ ⟨a8, a9⟩ (n_load hM _)
      · exact ok9
    · split
      · show OpSt.ok (if _ then _ else _)
        split
        · unfold OpSt.swapped
          split
          · exact ok9
          · split
            · exact push_ok ⟨a1, a2⟩
            · exact ok9
        · exact at1_ok ⟨a1, a2⟩ ⟨a6, a7⟩ ⟨a8, a9⟩
      · split
        · split
          · exact push_ok ⟨a1, a2⟩
          · split
            · exact push_ok ⟨a1, a2⟩
            · show OpSt.ok (if _ then _ else _)
              split
              · exact ok9
              · exact push_ok ⟨a1, a2⟩
        · exact hO
theorem next_isW {O : OpSt} (h1 : 0 ≤ O.to ∧ O.to ≤ 5) (h2 : 0 ≤ O.co ∧ O.co < 64) (hw : isWd O.w) : isW O.next := by
  obtain ⟨w0, w1⟩ := hw
  unfold OpSt.next
  split
  · exact layW_isW (by omega) (by omega) (by omega)
  · split
    · exact layW_isW (by omega) (by omega) (by omega)
    · split
      · exact layW_isW h1 h2 (by omega)
      · exact layW_isW h1 (by omega) (by omega)
theorem op_fine {O : OpSt} {M : MemSt} (h : O.ok) (hM : M.fine) : (O.step M).2.fine := by
  by_cases h9 : O.line = 9
  · unfold OpSt.step
    rw [if_neg (by omega), if_neg (by omega), if_neg (by omega), if_neg (by omega)]
    exact hM
  obtain ⟨a1, a2, a3, a4, a5, a6, a7, a8, a9⟩ := h.resolve_left h9
  unfold OpSt.step
  split
  · split
    · exact fine_load hM _
    · split
      · exact fine_load hM _
      · exact fine_cas hM (topW_isW a3 a4)
  · split
    · exact fine_load hM _
    · split
      · exact fine_cas hM (next_isW ⟨a6, a7⟩ ⟨a8, a9⟩ a5)
      · split
        · split
          · exact fine_load hM _
          · split
            · have := idxW_lo' (O.x 4) O.pw
              exact fine_store hM ⟨by omega, by omega⟩
            · exact fine_cas hM (topW_isW a1 a2)
        · exact hM
theorem out_awk (f : FuncId) : (boolC f).out [] = [.b true] := rfl
theorem out_NTk (st ks t ls s : Int) : cNTk.out [.i st, .i ks, .i t, .i ls, .i s] = [.u (.take (.newTake [st, ks, t, ls, s]))] := rfl
theorem out_NGv (st ks t ls s i : Int) : cNGv.out [.i st, .i ks, .i t, .i ls, .i s, .i i] = [.u (.give (.newGive [st, ks, t, ls, s] s i))] := rfl
theorem out_NTu (st ks t ls s i fr to co : Int) : cNTu.out [.i st, .i ks, .i t, .i ls, .i s, .i i, .i fr, .i to, .i co] = [.u (.turn (.newTurn [st, ks, t, ls, s] s i fr to co))] := rfl
end Go.Proofs.YtdabdbbgaekmdaaGreat
