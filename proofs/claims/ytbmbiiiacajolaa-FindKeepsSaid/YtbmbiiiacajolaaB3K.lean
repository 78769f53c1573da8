/- Texts of this proof. -/
import Derived.Test.YtbmbiiiacajolaaB1K
import Derived.Test.YtbmbiiiacajolaaB2K
import Derived.KernelRfl
namespace Go.Proofs.Ytbmbiiiacajolaa
set_option linter.unusedVariables false
set_option linter.unusedSimpArgs false
set_option linter.unusedSectionVars false
open Go Go.RowKit
def MemSt.fine (M : MemSt) : Prop := M.W.length ≤ 4096 ∧ ∀ x ∈ M.W, isW x
def MemSt.at0 (M : MemSt) (x : Int) : Int := if 0 ≤ x ∧ x < M.W.length then M.W[x.toNat]?.getD 0 else 0
theorem out_load (M : MemSt) (x : Int) : cLoad.out [.u (.mem M), .i x] = [.u (.mem (M.load x)), .i (M.load x).n] := rfl
theorem out_store (M : MemSt) (x y : Int) : cStore.out [.u (.mem M), .i x, .i y] = [.u (.mem (M.store x y))] := rfl
theorem out_cas (M : MemSt) (x y z : Int) : cCAS.out [.u (.mem M), .i x, .i y, .i z] = [.u (.mem (M.cas x y z)), .b (M.cas x y z).h] := rfl
theorem out_last (M : MemSt) : cLast.out [.u (.mem M)] = [.u (.mem M), .i M.k, .i M.a, .i M.o, .i M.n, .b M.h] := rfl
theorem out_words (M : MemSt) : cWords.out [.u (.mem M)] = [.u (.mem M), .l M.W, .i M.W.length] := rfl
theorem out_new {n : Int} (h : 1 ≤ n) (h1 : n ≤ 4096) : cNew.out [.i n] = [.u (.mem (.new n)), .i 0] := by simp [cNew, h, h1]
theorem pre_pick {x n : Int} (h : 0 < n) (h1 : n < 2 ^ 62) : cPick.pre [.i x, .i n] := ⟨_, _, rfl, h, h1⟩
theorem out_pick (x n : Int) : cPick.out [.i x, .i n] = [.i (x.emod n)] := rfl
theorem len_acc (M : MemSt) (k x y : Int) (b : Bool) : (M.acc k x y b).W.length = M.W.length := by unfold MemSt.acc; split <;> simp
theorem len_load (M : MemSt) (x : Int) : (M.load x).W.length = M.W.length := len_acc _ _ _ _ _
theorem len_store (M : MemSt) (x y : Int) : (M.store x y).W.length = M.W.length := len_acc _ _ _ _ _
theorem isW0 : isW 0 := ⟨by decide, by decide⟩
theorem fine_get {M : MemSt} (h : M.fine) (i : Nat) : isW (M.W[i]?.getD 0) := by
 cases e : M.W[i]? with
 | none => exact isW0
 | some x => exact h.2 x (List.mem_of_getElem? e)
theorem fine_word {M : MemSt} (h : M.fine) (x : Int) : isW (M.word x) := fine_get h _
theorem fine_at0 {M : MemSt} (h : M.fine) (x : Int) : isW (M.at0 x) := by
 unfold MemSt.at0; split
 · exact fine_get h _
 · exact isW0
theorem fine_acc {M : MemSt} (h : M.fine) {k a w : Int} {b : Bool} (hw : isW w) : (M.acc k a w b).fine := by
 refine ⟨by rw [len_acc]; exact h.1, fun x hx => ?_⟩
 unfold MemSt.acc at hx
 split at hx
 · rcases List.mem_or_eq_of_mem_set hx with hx | rfl
   · exact h.2 x hx
   · exact hw
 · exact h.2 x hx
theorem n_acc {M : MemSt} {k a w : Int} {b : Bool} (hw : isW w) : isW (M.acc k a w b).n := by
 unfold MemSt.acc; split
 · exact hw
 · exact isW0
theorem fine_load {M : MemSt} (h : M.fine) (x : Int) : (M.load x).fine := fine_acc h (fine_word h x)
theorem n_load {M : MemSt} (h : M.fine) (x : Int) : isW (M.load x).n := n_acc (fine_word h x)
theorem fine_store {M : MemSt} (h : M.fine) {x w : Int} (hw : isW w) : (M.store x w).fine := fine_acc h hw
theorem fine_cas {M : MemSt} (h : M.fine) {x y z : Int} (hw : isW z) : (M.cas x y z).fine := by
 unfold MemSt.cas; split
 · exact fine_acc h hw
 · exact fine_acc h (fine_word h x)
theorem toNat_succ {i : Int} (h : 0 ≤ i) : (i + 1).toNat = i.toNat + 1 := by omega
theorem take_app {xs ys r : List Int} {i : Nat} {x : Int} (h : xs.take i = ys) (hi : i ≤ xs.length) : (xs.take i ++ x :: r).take (i + 1) = ys ++ [x] := by
 rw [h, List.take_append]
 have : ys.length = i := by rw [← h, List.length_take]; omega
 rw [List.take_of_length_le (by omega), this, Nat.add_sub_cancel_left]
 rfl
theorem split_at {xs ys : List Int} {i : Nat} (h : xs.take i = ys) : ∃ c, xs = ys ++ c := ⟨xs.drop i, by rw [← h, List.take_append_drop]⟩
theorem len_app {xs r : List Int} {x : Int} {i : Nat} (h : i ≤ xs.length) : (xs.take i ++ x :: r).length = i + 1 + r.length := by simp; omega
theorem wrap_u64' {n : Int} (h : 0 ≤ n) (h' : n < 18446744073709551616) : IntKind.u64.wrap n = n := by simp [IntKind.wrap, IntKind.signed, IntKind.bits]; omega
section
variable {U : Type} [Nil U] {X : Cx U} {R : List (EV U) → List (EV U) → Prop}
theorem st_app {i : Option Nat} {e x : Ex} {k : Tree} {env : List (EV U)} {xs : List Int} {n y : Int} (hl : (match i with | none => [] | some i => gL env i) = xs) (hn : e.den env = n) (hx : x.den env = y) (hk : ∀ (r : List Int) (env' : List (EV U)), env ++ [.l (xs.take n.toNat ++ y :: r), .i ((n.toNat + 1 + r.length : Nat) : Int)] = env' → k.sat X R env') : (Tree.app i e x k).sat X R env := by
 subst hl hn hx
 exact fun r => hk r _ rfl
theorem st_rng {k : Tree} {env : List (EV U)} (hk : ∀ (L : Loop) (env' : List (EV U)), env ++ [.r L] = env' → k.sat X R env') : (Tree.rng k).sat X R env := fun L => hk L _ rfl
end
theorem fine_new {n : Int} (h : n ≤ 4096) : (MemSt.new n).fine := by
 refine ⟨by show (List.replicate n.toNat (0 : Int)).length ≤ 4096; rw [List.length_replicate]; omega, fun x hx => ?_⟩
 have : x = 0 := List.eq_of_mem_replicate hx
 subst this; exact isW0
open Go
def twV (j : Nat) : SV := .agg [.int .i64 (.var j), .int .i64 (.var (j + 1)), .int .i64 (.var (j + 2)), .int .i64 (.var (j + 3)), .int .i64 (.var (j + 4)), .int .i64 (.var (j + 5)), .int .i64 (.var (j + 6)), .int .i64 (.var (j + 7)), .int .i64 (.var (j + 8)), .int .i64 (.var (j + 9)), .int .i64 (.var (j + 10)), .int .i64 (.var (j + 11)), .int .i64 (.var (j + 12))]
def okT (n h w s : Int) : Bool := decide (1 ≤ w ∧ w ≤ 4 ∧ 1 ≤ s ∧ s ≤ 128 ∧ 0 ≤ n ∧ n < 4096 ∧ 0 ≤ h ∧ h < 4096)
def atT (n h w s i p : Int) : Int :=
 if okT n h w s = true ∧ -1 ≤ i ∧ i < s ∧ 0 ≤ p ∧ p < 4 + w ∧ (0 ≤ i ∨ 4 ≤ p) then (if i < 0 then h + p - 4 else n + i * (4 + w) + p) else -1
def whoT (n h w s c : Int) : Int × Int × Bool :=
 if okT n h w s = true then
  if n ≤ c ∧ c < n + s * (4 + w) then ((c - n) / (4 + w), (c - n) % (4 + w), true)
  else if h ≤ c ∧ c < h + w then (-1, c - h + 4, true) else (0, 0, false)
 else (0, 0, false)
def atOut (ins : List (EV U)) : List (EV U) := [.i (atT (gI ins 0) (gI ins 1) (gI ins 2) (gI ins 5) (gI ins 13) (gI ins 14))]
def whoOut (ins : List (EV U)) : List (EV U) := [.i (whoT (gI ins 0) (gI ins 1) (gI ins 2) (gI ins 5) (gI ins 13)).1, .i (whoT (gI ins 0) (gI ins 1) (gI ins 2) (gI ins 5) (gI ins 13)).2.1, .b (whoT (gI ins 0) (gI ins 1) (gI ins 2) (gI ins 5) (gI ins 13)).2.2]
def atPre (ins : List (EV U)) : Prop := ∃ a0 a1 a2 a3 a4 a5 a6 a7 a8 a9 a10 a11 a12 i p : Int, ins = [.i a0, .i a1, .i a2, .i a3, .i a4, .i a5, .i a6, .i a7, .i a8, .i a9, .i a10, .i a11, .i a12, .i i, .i p]
def whoPre (ins : List (EV U)) : Prop := ∃ a0 a1 a2 a3 a4 a5 a6 a7 a8 a9 a10 a11 a12 i : Int, ins = [.i a0, .i a1, .i a2, .i a3, .i a4, .i a5, .i a6, .i a7, .i a8, .i a9, .i a10, .i a11, .i a12, .i i]
def cAt : Ctr U := { fn := 14, nin := 15, args := [twV 0, .int .i64 (.var 13), .int .i64 (.var 14)], heap := [], pre := atPre, nout := 1, out := atOut, ret := .int .i64 (.var 15), post := [] }
def cRAt : Ctr U := { fn := 15, nin := 15, args := [twV 0, .int .i64 (.var 13), .int .i64 (.var 14)], heap := [], pre := atPre, nout := 1, out := atOut, ret := .int .i64 (.var 15), post := [] }
def cWho : Ctr U := { fn := 12, nin := 14, args := [twV 0, .int .i64 (.var 13)], heap := [], pre := whoPre, nout := 3, out := whoOut, ret := .tuple [.int .i64 (.var 14), .int .i64 (.var 15), .bool (.var 16)], post := [] }
def ints (n : Nat) : List SV := (List.range n).map fun i => .int .i64 (.var i)
def cSnd15 : Ctr U :=
 { fn := 61, nin := 13, args := [twV 0], heap := []
   pre := fun ins => ∃ n h k t l s g w m ea ep ec tp, ins = [.i n, .i h, .i k, .i t, .i l, .i s, .i g, .i w, .i m, .i ea, .i ep, .i ec, .i tp], nout := 1
   out := fun ins => match ins with | [.i n, .i h, .i k, .i t, .i l, .i s, .i g, .i w, .i m, .i ea, .i ep, .i ec, .i tp] => [.b (okT n h k s)] | _ => []
   ret := .bool (.var 13), post := [] }
theorem out_Snd15 (n h k t l s g w m ea ep ec tp : Int) : cSnd15.out [.i n, .i h, .i k, .i t, .i l, .i s, .i g, .i w, .i m, .i ea, .i ep, .i ec, .i tp] = [.b (okT n h k s)] := rfl
theorem okT_facts {n h w s : Int} (hk : okT n h w s = true) : 1 ≤ w ∧ w ≤ 4 ∧ 1 ≤ s ∧ s ≤ 128 ∧ 0 ≤ n ∧ n < 4096 ∧ 0 ≤ h ∧ h < 4096 := of_decide_eq_true hk
set_option maxRecDepth 100000
def hsSnd15 : List (Nat × Nat × List Nat) := []
def tSnd15 : Tree := (.br (.cmp .geq (.var 2) (.lit 1))
 (.br (.cmp .leq (.var 2) (.lit 4))
 (.br (.cmp .geq (.var 5) (.lit 1))
 (.br (.cmp .leq (.var 5) (.lit 128))
 (.br (.cmp .geq (.var 0) (.lit 0))
 (.br (.cmp .lss (.var 0) (.lit 4096))
 (.br (.cmp .geq (.var 1) (.lit 0))
 (.ret [.bx (.cmp .lss (.var 1) (.lit 4096))])
 (.ret [.bx (.lit false)]))
 (.ret [.bx (.lit false)]))
 (.ret [.bx (.lit false)]))
 (.ret [.bx (.lit false)]))
 (.ret [.bx (.lit false)]))
 (.ret [.bx (.lit false)]))
 (.ret [.bx (.lit false)]))
theorem rSnd15 : runCtr { (cx Try.prog []) with hints := hsSnd15 } 20 cSnd15 [] [] = tSnd15 := by kernel_rfl
theorem vSnd15 (P : Program) (hs : List (Nat × Nat × List Nat)) : ∀ ins, ins.length = cSnd15.nin → cSnd15.pre ins → tSnd15.sat { cx P [] with hints := hs } (ctrR cSnd15) ins := by
 rintro ins _ ⟨n, h, k, t, l, s, g, w, m, ea, ep, ec, tp, rfl⟩
 simp only [Tree.sat, Bx.den, Ex.den, Bnd.den, gI, gB, gL, gF, gN, gNil, List.map_cons, List.map_nil, List.cons_append, List.nil_append, List.getElem?_cons_zero, List.getElem?_cons_succ, List.getD, Option.getD_some, cmp_eql_t, cmp_eql_f, cmp_neq_t, cmp_neq_f, cmp_lss_t, cmp_lss_f, cmp_leq_t, cmp_leq_f, cmp_gtr_t, cmp_gtr_f, cmp_geq_t, cmp_geq_f, Bool.not_eq_true', Bool.not_eq_false', Bool.and_eq_true, Bool.and_eq_false_iff, binDen, ctrR, Ctr.may, List.take_succ_cons, List.take_zero, Option.some.injEq, EV.u.injEq, tSnd15, cx, cSnd15, okT, true_and, and_true, ne_eq, not_true_eq_false, not_false_eq_true, false_implies, true_implies, implies_true, List.append_assoc]
 repeat' (first | with_reducible apply And.intro | intro _)
 all_goals first
  | omega
  | (refine congrArg (fun b => [EV.b b]) ?_; rw [Bool.eq_iff_iff]; simp only [decide_eq_true_eq, Bool.false_eq_true, cmp_lss_t, false_iff, true_iff, eq_self]; omega)
theorem hSnd15 : cSnd15.Holds objs Try.prog := runCtr_holds (X := { cx Try.prog [] with hints := hsSnd15 }) objsOk mixed noCts (callable _ Try.func61 (by kernel_rfl) (by kernel_rfl)) (by rintro ins _ ⟨_, _, _, _, _, _, _, _, _, _, _, _, _, rfl⟩; rfl) (by rw [rSnd15]; exact vSnd15 _ _)
section
variable {k : Tree} {env : List (EV U)} {X : Cx U} {R : List (EV U) → List (EV U) → Prop}
end
def fillK (M : MemSt) (t l s : Int) : Nat → MemSt
 | 0 => M.store t 1
 | k + 1 => (fillK M t l s k).store (IntKind.i64.wrap (l + k)) (if (k : Int) + 1 = s then 0 else k + 2)
def fill10 (M : MemSt) (t l s : Int) : MemSt := if 1 ≤ s ∧ s ≤ 4096 then fillK M t l s s.toNat else M
def fillR (M : MemSt) (a x : Int) : Nat → MemSt
 | 0 => M
 | k + 1 => (fillR M a x k).store (IntKind.i64.wrap (a + k)) x
def fill11 (M : MemSt) (t l s g w : Int) : MemSt := if 1 ≤ s ∧ s ≤ 4096 then fillR ((fill10 M t l s).store w 0) g 1 s.toNat else M
def fill12 (M : MemSt) (a p n : Int) : MemSt := if 1 ≤ n ∧ n ≤ 64 then fillR (M.store a 0) p 0 n.toNat else M
def fill13 (M : MemSt) (t l s g w ea ep ec tp : Int) : MemSt := fillR (fill12 (fill11 M t l s g w) ea ep ec) tp 0 3
def fill15 (M : MemSt) (n h a t l s g w ea ep ec tp : Int) : MemSt := if okT n h a s = true then fillR (fill13 M t l s g w ea ep ec tp) h 0 a.toNat else M
theorem len_fillK (M : MemSt) (t l s : Int) : ∀ k, (fillK M t l s k).W.length = M.W.length
 | 0 => len_store _ _ _
 | k + 1 => by rw [fillK, len_store, len_fillK M t l s k]
theorem len_fillR (M : MemSt) (a x : Int) : ∀ k, (fillR M a x k).W.length = M.W.length
 | 0 => rfl
 | k + 1 => by rw [fillR, len_store, len_fillR M a x k]
theorem len_fill10 (M : MemSt) (t l s : Int) : (fill10 M t l s).W.length = M.W.length := by
 unfold fill10; split
 · exact len_fillK ..
 · rfl
theorem len_fill11 (M : MemSt) (t l s g w : Int) : (fill11 M t l s g w).W.length = M.W.length := by
 unfold fill11; split
 · rw [len_fillR, len_store, len_fill10]
 · rfl
theorem len_fill12 (M : MemSt) (a p n : Int) : (fill12 M a p n).W.length = M.W.length := by
 unfold fill12; split
 · rw [len_fillR, len_store]
 · rfl
theorem len_fill13 (M : MemSt) (t l s g w ea ep ec tp : Int) : (fill13 M t l s g w ea ep ec tp).W.length = M.W.length := by rw [fill13, len_fillR, len_fill12, len_fill11]
theorem len_fill15 (M : MemSt) (n h a t l s g w ea ep ec tp : Int) : (fill15 M n h a t l s g w ea ep ec tp).W.length = M.W.length := by
 unfold fill15; split
 · rw [len_fillR, len_fill13]
 · rfl
theorem fillR_succ (M : MemSt) (a x : Int) {i : Int} (h : 0 ≤ i) : fillR M a x (i + 1).toNat = (fillR M a x i.toNat).store (IntKind.i64.wrap (a + i)) x := by
 rw [show (i + 1).toNat = i.toNat + 1 by omega, fillR, show ((i.toNat : Nat) : Int) = i by omega]
theorem fillK_succ (M : MemSt) (a b n : Int) {i : Int} (h : 0 ≤ i) : fillK M a b n (i + 1).toNat = (fillK M a b n i.toNat).store (IntKind.i64.wrap (b + i)) (if i + 1 = n then 0 else i + 2) := by
 rw [show (i + 1).toNat = i.toNat + 1 by omega, fillK, show ((i.toNat : Nat) : Int) = i by omega]
def cPutTop : Ctr U :=
 { fn := 128, nin := 2, args := [.agg [.int .i64 (.var 0), .int .i64 (.var 1)]], heap := []
   pre := fun ins => ∃ i t, ins = [.i i, .i t] ∧ -1 ≤ i ∧ i ≤ 65534 ∧ 0 ≤ t ∧ t < 281474976710656, nout := 2
   out := fun ins => match ins with | [.i i, .i t] => [.i (i + 1 + t * 65536), .i 0] | _ => []
   ret := .tuple [.int .u64 (.var 2), .int .i64 (.var 3)], post := [] }
def cSFill : Ctr U :=
 { fn := 117, nin := 4, args := [.agg [.int .i64 (.var 1), .int .i64 (.var 2), .int .i64 (.var 3)], .hnd 0], heap := [.abs 0]
   pre := fun ins => ∃ M a b n, ins = [.u (.mem M), .i a, .i b, .i n] ∧ M.W.length ≤ 4096, nout := 1
   out := fun ins => match ins with | [.u (.mem M), .i a, .i b, .i n] => [.u (.mem (fill10 M a b n))] | _ => []
   ret := .tuple [], post := [.abs 4] }
def cAFill : Ctr U :=
 { fn := 101, nin := 7, args := [.agg [.int .i64 (.var 1), .int .i64 (.var 2), .int .i64 (.var 3), .int .i64 (.var 4), .int .i64 (.var 5), .int .i64 (.var 6)], .hnd 0], heap := [.abs 0]
   pre := fun ins => ∃ M t l s g w m, ins = [.u (.mem M), .i t, .i l, .i s, .i g, .i w, .i m] ∧ M.W.length ≤ 4096, nout := 1
   out := fun ins => match ins with | [.u (.mem M), .i t, .i l, .i s, .i g, .i w, .i m] => [.u (.mem (fill11 M t l s g w))] | _ => []
   ret := .tuple [], post := [.abs 7] }
def cEFill : Ctr U :=
 { fn := 102, nin := 4, args := [.agg [.int .i64 (.var 1), .int .i64 (.var 2), .int .i64 (.var 3)], .hnd 0], heap := [.abs 0]
   pre := fun ins => ∃ M a b n, ins = [.u (.mem M), .i a, .i b, .i n] ∧ M.W.length ≤ 4096, nout := 1
   out := fun ins => match ins with | [.u (.mem M), .i a, .i b, .i n] => [.u (.mem (fill12 M a b n))] | _ => []
   ret := .tuple [], post := [.abs 4] }
def cLFill : Ctr U :=
 { fn := 77, nin := 11, args := [.agg [.int .i64 (.var 1), .int .i64 (.var 2), .int .i64 (.var 3), .int .i64 (.var 4), .int .i64 (.var 5), .int .i64 (.var 6), .int .i64 (.var 7), .int .i64 (.var 8), .int .i64 (.var 9), .int .i64 (.var 10)], .hnd 0], heap := [.abs 0]
   pre := fun ins => ∃ M t l s g w m ea ep ec tp, ins = [.u (.mem M), .i t, .i l, .i s, .i g, .i w, .i m, .i ea, .i ep, .i ec, .i tp] ∧ M.W.length ≤ 4096, nout := 1
   out := fun ins => match ins with | [.u (.mem M), .i t, .i l, .i s, .i g, .i w, .i m, .i ea, .i ep, .i ec, .i tp] => [.u (.mem (fill13 M t l s g w ea ep ec tp))] | _ => []
   ret := .tuple [], post := [.abs 11] }
def cTFill : Ctr U :=
 { fn := 30, nin := 14, args := [.agg [.int .i64 (.var 1), .int .i64 (.var 2), .int .i64 (.var 3), .int .i64 (.var 4), .int .i64 (.var 5), .int .i64 (.var 6), .int .i64 (.var 7), .int .i64 (.var 8), .int .i64 (.var 9), .int .i64 (.var 10), .int .i64 (.var 11), .int .i64 (.var 12), .int .i64 (.var 13)], .hnd 0], heap := [.abs 0]
   pre := fun ins => ∃ M n h a t l s g w m ea ep ec tp, ins = [.u (.mem M), .i n, .i h, .i a, .i t, .i l, .i s, .i g, .i w, .i m, .i ea, .i ep, .i ec, .i tp] ∧ M.W.length ≤ 4096, nout := 1
   out := fun ins => match ins with | [.u (.mem M), .i n, .i h, .i a, .i t, .i l, .i s, .i g, .i w, .i m, .i ea, .i ep, .i ec, .i tp] => [.u (.mem (fill15 M n h a t l s g w ea ep ec tp))] | _ => []
   ret := .tuple [], post := [.abs 14] }
def sfInv (env : List (EV U)) : Prop := ∃ M a b n, ∃ x0 x1 x2 : EV U, ∃ i : Int, env = [.u (.mem M), .i a, .i b, .i n, x0, x1, x2, .u (.mem (fillK M a b n i.toNat)), .i i] ∧ 0 ≤ i ∧ M.W.length ≤ 4096 ∧ i ≤ n ∧ 1 ≤ n ∧ n ≤ 4096
def lSFill : LoopS U :=
 { fn := 117, rid := 4, nv := 2, tm := [(16, .int .i64 (.var 8))], hp := [(0, .abs 7)], reb := [], inv := sfInv, mu := fun env => (gI env 3 - gI env 8).toNat }
def afInv (env : List (EV U)) : Prop := ∃ M t l s g w m, ∃ x0 x1 : EV U, ∃ i : Int, env = [.u (.mem M), .i t, .i l, .i s, .i g, .i w, .i m, x0, x1, .u (.mem (fillR ((fill10 M t l s).store w 0) g 1 i.toNat)), .i i] ∧ 0 ≤ i ∧ M.W.length ≤ 4096 ∧ i ≤ s ∧ 1 ≤ s ∧ s ≤ 4096
def lAFill : LoopS U :=
 { fn := 101, rid := 5, nv := 2, tm := [(19, .int .i64 (.var 10))], hp := [(0, .abs 9)], reb := [], inv := afInv, mu := fun env => (gI env 3 - gI env 10).toNat }
def efInv (env : List (EV U)) : Prop := ∃ M a b n, ∃ x0 x1 : EV U, ∃ i : Int, env = [.u (.mem M), .i a, .i b, .i n, x0, x1, .u (.mem (fillR (M.store a 0) b 0 i.toNat)), .i i] ∧ 0 ≤ i ∧ M.W.length ≤ 4096 ∧ i ≤ n ∧ 1 ≤ n ∧ n ≤ 64
def lEFill : LoopS U :=
 { fn := 125, rid := 1, nv := 2, tm := [(6, .int .i64 (.var 7))], hp := [(0, .abs 6)], reb := [], inv := efInv, mu := fun env => (gI env 3 - gI env 7).toNat }
def tfInv (env : List (EV U)) : Prop := ∃ M n h a t l s g w m ea ep ec tp, ∃ x0 x1 : EV U, ∃ i : Int, env = [.u (.mem M), .i n, .i h, .i a, .i t, .i l, .i s, .i g, .i w, .i m, .i ea, .i ep, .i ec, .i tp, x0, x1, .u (.mem (fillR (fill13 M t l s g w ea ep ec tp) h 0 i.toNat)), .i i] ∧ 0 ≤ i ∧ M.W.length ≤ 4096 ∧ i ≤ a ∧ okT n h a s = true
def lTFill : LoopS U :=
 { fn := 30, rid := 4, nv := 2, tm := [(14, .int .i64 (.var 17))], hp := [(0, .abs 16)], reb := [], inv := tfInv, mu := fun env => (gI env 3 - gI env 17).toNat }
def ctsXS : List (Ctr U) := [cStore, cPutTop]
def cxXS (P : Program) : Cx U := { cx P ctsXS with join := true, loops := [lSFill] }
def ctsXA : List (Ctr U) := [cStore, cSFill]
def cxXA (P : Program) : Cx U := { cx P ctsXA with join := true, loops := [lAFill] }
def ctsXE : List (Ctr U) := [cStore]
def cxXE (P : Program) : Cx U := { cx P ctsXE with join := true, loops := [lEFill] }
def ctsXL : List (Ctr U) := [cStore, cAFill, cEFill]
def cxXL (P : Program) : Cx U := { cx P ctsXL with join := true }
def ctsXT : List (Ctr U) := [cStore, cSnd15, cLFill]
def cxXT (P : Program) : Cx U := { cx P ctsXT with join := true, loops := [lTFill] }
end Go.Proofs.Ytbmbiiiacajolaa
