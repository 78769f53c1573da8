/- Texts of this proof. -/
import Derived.Test.YtdldcofddfkkbaaGreatB1O
import Derived.Test.YtdldcofddfkkbaaGreatB2O
import Derived.KernelRfl
namespace Go.Proofs.YtdldcofddfkkbaaGreat
set_option linter.unusedVariables false
set_option linter.unusedSimpArgs false
set_option linter.unusedSectionVars false
open Go Go.RowKit
def MemSt.fine (M : MemSt) : Prop := M.W.length ≤ 4096 ∧ ∀ x ∈ M.W, isW x
def MemSt.at0 (M : MemSt) (x : Int) : Int := if 0 ≤ x ∧ x < M.W.length then M.W[x.toNat]?.getD 0 else 0
theorem out_load (M : MemSt) (x : Int) : cLoad.out [.u (.mem M), .i x] = [.u (.mem (M.load x)), .i (M.load x).n] := rfl
theorem out_store (M : MemSt) (x y : Int) : cStore.out [.u (.mem M), .i x, .i y] = [.u (.mem (M.store x y))] := rfl
theorem out_cas (M : MemSt) (x y z : Int) : cCAS.out [.u (.mem M), .i x, .i y, .i z] = [.u (.mem (M.cas x y z)), .b (M.cas x y z).h] := rfl
theorem out_last (M : MemSt) : cLast.out [.u (.mem M)] = [.u (.mem M), .i M.k, .i M.a, .i M.o, .i M.n, .b M.h] := rfl
theorem out_count (M : MemSt) : cCount.out [.u (.mem M)] = [.u (.mem M), .i M.N] := rfl
theorem out_words (M : MemSt) : cWords.out [.u (.mem M)] = [.u (.mem M), .l M.W, .i M.W.length] := rfl
theorem out_same (xs ys : List Int) (a b c d : Int) : cSameWords.out [.l xs, .l ys, .i a, .i c, .i b, .i d] = [.b (decide (xs.take a.toNat = ys.take b.toNat))] := rfl
theorem out_new {n : Int} (h : 1 ≤ n) (h1 : n ≤ 4096) : cNew.out [.i n] = [.u (.mem (.new n)), .i 0] := by simp [cNew, h, h1]
theorem pre_same {xs ys : List Int} {a b c d : Int} (h : 0 ≤ a) (h1 : a ≤ xs.length) (h2 : 0 ≤ b) (h3 : b ≤ ys.length) (h4 : a < 2 ^ 62) : cSameWords.pre [.l xs, .l ys, .i a, .i c, .i b, .i d] := ⟨_, _, _, _, _, _, rfl, h, h1, h2, h3, h4⟩
theorem pre_pick {x n : Int} (h : 0 < n) (h1 : n < 2 ^ 62) : cPick.pre [.i x, .i n] := ⟨_, _, rfl, h, h1⟩
theorem out_pick (x n : Int) : cPick.out [.i x, .i n] = [.i (x.emod n)] := rfl
theorem len_acc (M : MemSt) (k x y : Int) (b : Bool) : (M.acc k x y b).W.length = M.W.length := by unfold MemSt.acc; split <;> simp
theorem len_load (M : MemSt) (x : Int) : (M.load x).W.length = M.W.length := len_acc _ _ _ _ _
theorem len_store (M : MemSt) (x y : Int) : (M.store x y).W.length = M.W.length := len_acc _ _ _ _ _
theorem len_cas (M : MemSt) (x y z : Int) : (M.cas x y z).W.length = M.W.length := by unfold MemSt.cas; split <;> exact len_acc _ _ _ _ _
theorem isW0 : isW 0 := ⟨by decide, by decide⟩
theorem fine_get {M : MemSt} (h : M.fine) (i : Nat) : isW (M.W[i]?.getD 0) := by
 cases e : M.W[i]? with
 | none => exact isW0
 | some x => exact h.2 x (List.mem_of_getElem? e)
theorem fine_word {M : MemSt} (h : M.fine) (x : Int) : isW (M.word x) := fine_get h _
theorem fine_acc {M : MemSt} (h : M.fine) {k a w : Int} {b : Bool} (hw : isW w) : (M.acc k a w b).fine := by
 refine ⟨by rw [len_acc]; exact h.1, fun x hx => ?_⟩
 unfold MemSt.acc at hx
 split at hx
 · rcases List.mem_or_eq_of_mem_set hx with hx | rfl
   · exact h.2 x hx
   · exact hw
 · exact h.2 x hx
theorem n_acc {M : MemSt} {k a w : Int} {b : Bool} (hw : isW w) : isW (M.acc k a w b).n := by
 unfold MemSt.acc; split
 · exact hw
 · exact isW0
theorem fine_load {M : MemSt} (h : M.fine) (x : Int) : (M.load x).fine := fine_acc h (fine_word h x)
theorem n_load {M : MemSt} (h : M.fine) (x : Int) : isW (M.load x).n := n_acc (fine_word h x)
theorem fine_store {M : MemSt} (h : M.fine) {x w : Int} (hw : isW w) : (M.store x w).fine := fine_acc h hw
theorem fine_cas {M : MemSt} (h : M.fine) {x y z : Int} (hw : isW z) : (M.cas x y z).fine := by
 unfold MemSt.cas; split
 · exact fine_acc h hw
 · exact fine_acc h (fine_word h x)
theorem wrap64_lo (x : Int) : 0 ≤ IntKind.u64.wrap x := by simp [IntKind.wrap, IntKind.signed, IntKind.bits]; omega
theorem fo_load (M : MemSt) (x : Int) : cQLoad.out [.u (.rmem M), .i x] = [.u (.rmem (M.load x)), .i (M.load x).n] := rfl
theorem fo_store (M : MemSt) (x y : Int) : cQStore.out [.u (.rmem M), .i x, .i y] = [.u (.rmem (M.store x y))] := rfl
theorem fo_cas (M : MemSt) (x y z : Int) : cQCAS.out [.u (.rmem M), .i x, .i y, .i z] = [.u (.rmem (M.cas x y z)), .b (M.cas x y z).h] := rfl
theorem wrap_u64' {n : Int} (h : 0 ≤ n) (h' : n < 18446744073709551616) : IntKind.u64.wrap n = n := by simp [IntKind.wrap, IntKind.signed, IntKind.bits]; omega
section
variable {U : Type} [Nil U] {X : Cx U} {R : List (EV U) → List (EV U) → Prop}
end
theorem fine_new {n : Int} (h : n ≤ 4096) : (MemSt.new n).fine := by
 refine ⟨by show (List.replicate n.toNat (0 : Int)).length ≤ 4096; rw [List.length_replicate]; omega, fun x hx => ?_⟩
 have : x = 0 := List.eq_of_mem_replicate hx
 subst this; exact isW0
theorem cmp_self (x : Int) : cmpDen .eql x x = true := by simp [cmpDen]
open Go
def twV (j : Nat) : SV := .agg [.int .i64 (.var j), .int .i64 (.var (j + 1)), .int .i64 (.var (j + 2)), .int .i64 (.var (j + 3)), .int .i64 (.var (j + 4)), .int .i64 (.var (j + 5)), .int .i64 (.var (j + 6)), .int .i64 (.var (j + 7)), .int .i64 (.var (j + 8)), .int .i64 (.var (j + 9)), .int .i64 (.var (j + 10)), .int .i64 (.var (j + 11)), .int .i64 (.var (j + 12))]
def okT (n h w s : Int) : Bool := decide (1 ≤ w ∧ w ≤ 4 ∧ 1 ≤ s ∧ s ≤ 128 ∧ 0 ≤ n ∧ n < 4096 ∧ 0 ≤ h ∧ h < 4096)
def atT (n h w s i p : Int) : Int :=
 if okT n h w s = true ∧ -1 ≤ i ∧ i < s ∧ 0 ≤ p ∧ p < 4 + w ∧ (0 ≤ i ∨ 4 ≤ p) then (if i < 0 then h + p - 4 else n + i * (4 + w) + p) else -1
def atOut (ins : List (EV U)) : List (EV U) := [.i (atT (gI ins 0) (gI ins 1) (gI ins 2) (gI ins 5) (gI ins 13) (gI ins 14))]
def atPre (ins : List (EV U)) : Prop := ∃ a0 a1 a2 a3 a4 a5 a6 a7 a8 a9 a10 a11 a12 i p : Int, ins = [.i a0, .i a1, .i a2, .i a3, .i a4, .i a5, .i a6, .i a7, .i a8, .i a9, .i a10, .i a11, .i a12, .i i, .i p]
def cAt : Ctr U := { fn := 120, nin := 15, args := [twV 0, .int .i64 (.var 13), .int .i64 (.var 14)], heap := [], pre := atPre, nout := 1, out := atOut, ret := .int .i64 (.var 15), post := [] }
def cRAt : Ctr U := { fn := 231, nin := 15, args := [twV 0, .int .i64 (.var 13), .int .i64 (.var 14)], heap := [], pre := atPre, nout := 1, out := atOut, ret := .int .i64 (.var 15), post := [] }
def fits10 (t l s c : Int) : Int := if c < 1 ∨ 4096 < c then 3 else if s < 1 ∨ 4096 < s ∨ t < 0 ∨ c ≤ t ∨ l < 0 ∨ IntKind.i64.wrap (c - s) < l ∨ (l ≤ t ∧ t < IntKind.i64.wrap (l + s)) then 2 else 0
def fits12 (t p n c : Int) : Int := if c < 1 ∨ 4096 < c then 3 else if n < 1 ∨ 64 < n ∨ t < 0 ∨ c ≤ t ∨ p < 0 ∨ IntKind.i64.wrap (c - n) < p ∨ (p ≤ t ∧ t < IntKind.i64.wrap (p + n)) then 2 else 0
def runI (a : Int) : Nat → List Int
 | 0 => []
 | n + 1 => runI a n ++ [IntKind.i64.wrap (a + n)]
def runP (a b : Int) : Nat → List Int
 | 0 => []
 | n + 1 => runP a b n ++ [IntKind.i64.wrap (a + n), IntKind.i64.wrap (b + n)]
def ints (n : Nat) : List SV := (List.range n).map fun i => .int .i64 (.var i)
def cSFits : Ctr U :=
 { fn := 163, nin := 4, args := [.agg [.int .i64 (.var 0), .int .i64 (.var 1), .int .i64 (.var 2)], .int .i64 (.var 3)], heap := []
   pre := fun ins => ∃ a b n s, ins = [.i a, .i b, .i n, .i s], nout := 1
   out := fun ins => match ins with | [.i a, .i b, .i n, .i s] => [.i (fits10 a b n s)] | _ => []
   ret := .int .i64 (.var 4), post := [] }
def cEFits : Ctr U :=
 { fn := 86, nin := 4, args := [.agg [.int .i64 (.var 0), .int .i64 (.var 1), .int .i64 (.var 2)], .int .i64 (.var 3)], heap := []
   pre := fun ins => ∃ a b n s, ins = [.i a, .i b, .i n, .i s], nout := 1
   out := fun ins => match ins with | [.i a, .i b, .i n, .i s] => [.i (fits12 a b n s)] | _ => []
   ret := .int .i64 (.var 4), post := [] }
def limV (j : Nat) : SV := .agg [.int .i64 (.var j), .int .i64 (.var (j + 1)), .int .i64 (.var (j + 2)), .int .i64 (.var (j + 3)), .int .i64 (.var (j + 4)), .int .i64 (.var (j + 5)), .int .i64 (.var (j + 6)), .int .i64 (.var (j + 7)), .int .i64 (.var (j + 8)), .int .i64 (.var (j + 9))]
def cSnd15 : Ctr U :=
 { fn := 140, nin := 13, args := [twV 0], heap := []
   pre := fun ins => ∃ n h k t l s g w m ea ep ec tp, ins = [.i n, .i h, .i k, .i t, .i l, .i s, .i g, .i w, .i m, .i ea, .i ep, .i ec, .i tp], nout := 1
   out := fun ins => match ins with | [.i n, .i h, .i k, .i t, .i l, .i s, .i g, .i w, .i m, .i ea, .i ep, .i ec, .i tp] => [.b (okT n h k s)] | _ => []
   ret := .bool (.var 13), post := [] }
theorem runI_len (a : Int) : ∀ n, (runI a n).length = n
 | 0 => rfl
 | n + 1 => by rw [runI, List.length_append, runI_len a n]; rfl
theorem runP_len (a b : Int) : ∀ n, (runP a b n).length = 2 * n
 | 0 => rfl
 | n + 1 => by rw [runP, List.length_append, runP_len a b n]; simp; omega
theorem nodup_put {L : List Int} {x : Int} (h : L.Nodup) (hx : x ∉ L) : (L ++ [x]).Nodup := by
 rw [List.nodup_append]
 exact ⟨h, by simp, fun a ha b hb e => hx (by rw [List.mem_singleton.1 hb] at e; exact e ▸ ha)⟩
theorem not_nodup {L M : List Int} {x : Int} (hx : x ∈ L) (h : ∃ d, M = (L ++ [x]) ++ d) : ¬ M.Nodup := by
 obtain ⟨d, rfl⟩ := h
 intro g
 rw [List.nodup_append, List.nodup_append] at g
 exact g.1.2.2 _ hx _ (by simp) rfl
theorem he_step {a b : Int} {k : Nat} {six : List Int} : six ++ runP a b (k + 1) = (six ++ runP a b k) ++ [IntKind.i64.wrap (a + k), IntKind.i64.wrap (b + k)] := by rw [runP, List.append_assoc]
theorem he_step1 {a : Int} {k : Nat} {six : List Int} : six ++ runI a (k + 1) = (six ++ runI a k) ++ [IntKind.i64.wrap (a + k)] := by rw [runI, List.append_assoc]
theorem out_Snd15 (n h k t l s g w m ea ep ec tp : Int) : cSnd15.out [.i n, .i h, .i k, .i t, .i l, .i s, .i g, .i w, .i m, .i ea, .i ep, .i ec, .i tp] = [.b (okT n h k s)] := rfl
theorem get_at {L : List Int} {k : Int} (h0 : 0 ≤ k) (h1 : k < L.length) : L[k.toNat]?.getD 0 ∈ L ∧ L.take (k + 1).toNat = L.take k.toNat ++ [L[k.toNat]?.getD 0] := by
 have hk : k.toNat < L.length := by omega
 rw [List.getElem?_eq_getElem hk]
 refine ⟨List.getElem_mem hk, ?_⟩
 rw [show (k + 1).toNat = k.toNat + 1 by omega, List.take_succ_eq_append_getElem hk]
 rfl
theorem fits10_facts {t l s c : Int} (h : fits10 t l s c = 0) : 1 ≤ s ∧ s ≤ 4096 ∧ 0 ≤ t ∧ t < c ∧ 0 ≤ l ∧ l + s ≤ c ∧ 1 ≤ c ∧ c ≤ 4096 := by
 unfold fits10 at h
 by_cases h1 : c < 1 ∨ 4096 < c
 · rw [if_pos h1] at h; omega
 · rw [if_neg h1] at h
   by_cases h0 : s < 1 ∨ 4096 < s
   · rw [if_pos (by omega)] at h; omega
   · have e1 : IntKind.i64.wrap (c - s) = c - s := wrap_small (by omega) (by omega)
     rw [e1] at h
     by_cases h2 : t < 0 ∨ c ≤ t ∨ l < 0 ∨ c - s < l
     · rw [if_pos (by omega)] at h; omega
     · omega
theorem fits12_facts {t p n c : Int} (h : fits12 t p n c = 0) : 1 ≤ n ∧ n ≤ 64 ∧ 0 ≤ t ∧ t < c ∧ 0 ≤ p ∧ p + n ≤ c := by
 unfold fits12 at h
 by_cases h1 : c < 1 ∨ 4096 < c
 · rw [if_pos h1] at h; omega
 · rw [if_neg h1] at h
   by_cases h0 : n < 1 ∨ 64 < n
   · rw [if_pos (by omega)] at h; omega
   · have e1 : IntKind.i64.wrap (c - n) = c - n := wrap_small (by omega) (by omega)
     rw [e1] at h
     by_cases h2 : t < 0 ∨ c ≤ t ∨ p < 0 ∨ c - n < p
     · rw [if_pos (by omega)] at h; omega
     · omega
theorem mul_le {s a : Int} (h : 1 ≤ a ∧ a ≤ 4 ∧ 1 ≤ s ∧ s ≤ 128) : 0 ≤ s * (4 + a) ∧ s * (4 + a) ≤ 1024 := by
 obtain ⟨h1, h2, h3, h4⟩ := h
 have : a = 1 ∨ a = 2 ∨ a = 3 ∨ a = 4 := by omega
 rcases this with rfl | rfl | rfl | rfl <;> omega
theorem okT_facts {n h w s : Int} (hk : okT n h w s = true) : 1 ≤ w ∧ w ≤ 4 ∧ 1 ≤ s ∧ s ≤ 128 ∧ 0 ≤ n ∧ n < 4096 ∧ 0 ≤ h ∧ h < 4096 := of_decide_eq_true hk
set_option maxRecDepth 100000
def hsSnd15 : List (Nat × Nat × List Nat) := []
def tSnd15 : Tree := (.br (.cmp .geq (.var 2) (.lit 1))
 (.br (.cmp .leq (.var 2) (.lit 4))
 (.br (.cmp .geq (.var 5) (.lit 1))
 (.br (.cmp .leq (.var 5) (.lit 128))
 (.br (.cmp .geq (.var 0) (.lit 0))
 (.br (.cmp .lss (.var 0) (.lit 4096))
 (.br (.cmp .geq (.var 1) (.lit 0))
 (.ret [.bx (.cmp .lss (.var 1) (.lit 4096))])
 (.ret [.bx (.lit false)]))
 (.ret [.bx (.lit false)]))
 (.ret [.bx (.lit false)]))
 (.ret [.bx (.lit false)]))
 (.ret [.bx (.lit false)]))
 (.ret [.bx (.lit false)]))
 (.ret [.bx (.lit false)]))
theorem rSnd15 : runCtr { (cx Tryz.prog []) with hints := hsSnd15 } 20 cSnd15 [] [] = tSnd15 := by kernel_rfl
theorem vSnd15 (P : Program) (hs : List (Nat × Nat × List Nat)) : ∀ ins, ins.length = cSnd15.nin → cSnd15.pre ins → tSnd15.sat { cx P [] with hints := hs } (ctrR cSnd15) ins := by
 rintro ins _ ⟨n, h, k, t, l, s, g, w, m, ea, ep, ec, tp, rfl⟩
 simp only [Tree.sat, Bx.den, Ex.den, Bnd.den, gI, gB, gL, gF, gN, gNil, List.map_cons, List.map_nil, List.cons_append, List.nil_append, List.getElem?_cons_zero, List.getElem?_cons_succ, List.getD, Option.getD_some, cmp_eql_t, cmp_eql_f, cmp_neq_t, cmp_neq_f, cmp_lss_t, cmp_lss_f, cmp_leq_t, cmp_leq_f, cmp_gtr_t, cmp_gtr_f, cmp_geq_t, cmp_geq_f, Bool.not_eq_true', Bool.not_eq_false', Bool.and_eq_true, Bool.and_eq_false_iff, binDen, ctrR, Ctr.may, List.take_succ_cons, List.take_zero, Option.some.injEq, EV.u.injEq, tSnd15, cx, cSnd15, okT, true_and, and_true, ne_eq, not_true_eq_false, not_false_eq_true, false_implies, true_implies, implies_true, List.append_assoc]
 repeat' (first | with_reducible apply And.intro | intro _)
 all_goals first
  | omega
  | (refine congrArg (fun b => [EV.b b]) ?_; rw [Bool.eq_iff_iff]; simp only [decide_eq_true_eq, Bool.false_eq_true, cmp_lss_t, false_iff, true_iff, eq_self]; omega)
theorem hSnd15 : cSnd15.Holds objs Tryz.prog := runCtr_holds (X := { cx Tryz.prog [] with hints := hsSnd15 }) objsOk mixed noCts (callable _ Tryz.func140 (by kernel_rfl) (by kernel_rfl)) (by rintro ins _ ⟨_, _, _, _, _, _, _, _, _, _, _, _, _, rfl⟩; rfl) (by rw [rSnd15]; exact vSnd15 _ _)
section
variable {k : Tree} {env : List (EV U)} {X : Cx U} {R : List (EV U) → List (EV U) → Prop}
theorem st_rowP {i : Nat} {e x : Ex} {V vc : List Int} {y : Int} (hl : gL env i = V ++ vc) (hn : e.den env = (V.length : Int)) (hx : x.den env = y)
 (hk : ∀ (r : List Int) (env' : List (EV U)), env ++ [.l ((V ++ [y]) ++ r), .i (((V ++ [y]).length + r.length : Nat) : Int)] = env' → k.sat X R env') : (Tree.app (some i) e x k).sat X R env := by
 intro r
 refine hk r _ ?_
 simp only
 rw [hl, hn, hx, Int.toNat_natCast, List.take_left' rfl, List.length_append, List.append_assoc]
 rfl
end
def apartB (L : List Int) (n : Int) : Bool := decide (∀ x ∈ L, 0 ≤ x ∧ x < n) && decide L.Nodup
def cells11D (t l s g w : Int) : List Int := [t, w] ++ runP l g s.toNat
def fits11D (t l s g w m c : Int) : Int := if c < 1 ∨ 4096 < c then 3 else if fits10 t l s c ≠ 0 ∨ m < 1 ∨ 4294967295 < m ∨ apartB (cells11D t l s g w) c = false then 2 else 0
def held13D (t l s g w ea ep ec tp : Int) : List Int := cells11D t l s g w ++ [ea, tp, IntKind.i64.wrap (tp + 1), IntKind.i64.wrap (tp + 2)] ++ runI ep ec.toNat
def fits13D (t l s g w m ea ep ec tp c : Int) : Int := if c < 1 ∨ 4096 < c then 3 else if fits11D t l s g w m c ≠ 0 ∨ fits12 ea ep ec c ≠ 0 ∨ apartB (held13D t l s g w ea ep ec tp) c = false then 2 else 0
def own15 (n h a s : Int) : List Int := runI n (s * (4 + a)).toNat ++ runI h a.toNat
def fits15D (n h a t l s g w m ea ep ec tp c : Int) : Int := if c < 1 ∨ 4096 < c then 3 else if okT n h a s = false ∨ fits13D t l s g w m ea ep ec tp c ≠ 0 ∨ apartB (held13D t l s g w ea ep ec tp ++ own15 n h a s) c = false then 2 else 0
def cAmong : Ctr U :=
 { fn := 67, nin := 4, args := [.slice 0 (.var 1) (.var 2), .int .i64 (.var 3)], heap := [.row .i64 3 0]
   pre := fun ins => ∃ xs a c x, ins = [.l xs, .i a, .i c, .i x] ∧ 0 ≤ a ∧ a ≤ xs.length ∧ a ≤ 20000, nout := 1
   out := fun ins => match ins with | [.l xs, .i a, _, .i x] => [.b (decide (x ∈ xs.take a.toNat))] | _ => []
   ret := .bool (.var 4), post := [.row .i64 3 0] }
def amInv (env : List (EV U)) : Prop := ∃ xs a c x k, env = [.l xs, .i a, .i c, .i x, .i k] ∧ 0 ≤ a ∧ a ≤ xs.length ∧ a ≤ 20000 ∧ 0 ≤ k ∧ k ≤ a ∧ x ∉ xs.take k.toNat
def lAmong : LoopS U := { fn := 67, rid := 2, nv := 1, tm := [(5, .int .i64 (.var 4))], hp := [], reb := [], inv := amInv, mu := fun env => (gI env 1 - gI env 4).toNat }
def cApD : Ctr U :=
 { fn := 90, nin := 4, args := [.slice 0 (.var 1) (.var 2), .int .i64 (.var 3)], heap := [.row .i64 3 0]
   pre := fun ins => ∃ xs a c n, ins = [.l xs, .i a, .i c, .i n] ∧ 0 ≤ a ∧ a ≤ xs.length ∧ a ≤ c ∧ a ≤ 20000, nout := 1
   out := fun ins => match ins with | [.l xs, .i a, _, .i n] => [.b (apartB (xs.take a.toNat) n)] | _ => []
   ret := .bool (.var 4), post := [.row .i64 3 0] }
def apdInv (env : List (EV U)) : Prop := ∃ xs a c n k, env = [.l xs, .i a, .i c, .i n, .i k] ∧ 0 ≤ a ∧ a ≤ xs.length ∧ a ≤ c ∧ a ≤ 20000 ∧ 0 ≤ k ∧ k ≤ a ∧ (xs.take k.toNat).Nodup ∧ ∀ x ∈ xs.take k.toNat, 0 ≤ x ∧ x < n
def lApD : LoopS U := { fn := 90, rid := 2, nv := 1, tm := [(5, .int .i64 (.var 4))], hp := [], reb := [], inv := apdInv, mu := fun env => (gI env 1 - gI env 4).toNat }
def cCe11 : Ctr U :=
 { fn := 167, nin := 6, args := [.agg [.int .i64 (.var 0), .int .i64 (.var 1), .int .i64 (.var 2), .int .i64 (.var 3), .int .i64 (.var 4), .int .i64 (.var 5)]], heap := []
   pre := fun ins => ∃ t l s g w m, ins = [.i t, .i l, .i s, .i g, .i w, .i m] ∧ s ≤ 4096, nout := 3, out := fun _ => []
   rel := some fun ins outs => ∃ t l s g w m, ∃ d : List Int, ins = [.i t, .i l, .i s, .i g, .i w, .i m] ∧ outs = [.l (cells11D t l s g w ++ d), .i (cells11D t l s g w).length, .i (((cells11D t l s g w).length + d.length : Nat) : Int)]
   ret := .slice 0 (.var 7) (.var 8), post := [.row .i64 3 6] }
def ce11Inv (env : List (EV U)) : Prop := ∃ t l s g w m : Int, ∃ k : Nat, ∃ V d : List Int, env = [.i t, .i l, .i s, .i g, .i w, .i m, .i k, .l (V ++ d), .i V.length, .i ((V.length + d.length : Nat) : Int)] ∧ s ≤ 4096 ∧ k ≤ s.toNat ∧ V = [t, w] ++ runP l g k
def lCe11 : LoopS U := { fn := 167, rid := 3, nv := 4, tm := [(10, .junk), (4, .int .i64 (.var 6)), (3, .slice 1 (.var 8) (.var 9))], hp := [(1, .row .i64 3 7)], reb := [(1, 0)], inv := ce11Inv, mu := fun env => (gI env 2 - gI env 6).toNat }
def cCe13 : Ctr U :=
 { fn := 91, nin := 10, args := [limV 0], heap := []
   pre := fun ins => ∃ t l s g w m ea ep ec tp, ins = [.i t, .i l, .i s, .i g, .i w, .i m, .i ea, .i ep, .i ec, .i tp] ∧ s ≤ 4096 ∧ ec ≤ 64, nout := 3, out := fun _ => []
   rel := some fun ins outs => ∃ t l s g w m ea ep ec tp, ∃ d : List Int, ins = [.i t, .i l, .i s, .i g, .i w, .i m, .i ea, .i ep, .i ec, .i tp] ∧ outs = [.l (held13D t l s g w ea ep ec tp ++ d), .i (held13D t l s g w ea ep ec tp).length, .i (((held13D t l s g w ea ep ec tp).length + d.length : Nat) : Int)]
   ret := .slice 0 (.var 11) (.var 12), post := [.row .i64 3 10] }
def cOwn15 : Ctr U :=
 { fn := 122, nin := 13, args := [twV 0], heap := []
   pre := fun ins => ∃ n h a t l s g w m ea ep ec tp, ins = [.i n, .i h, .i a, .i t, .i l, .i s, .i g, .i w, .i m, .i ea, .i ep, .i ec, .i tp] ∧ okT n h a s = true, nout := 3, out := fun _ => []
   rel := some fun ins outs => ∃ n h a t l s g w m ea ep ec tp, ∃ d : List Int, ins = [.i n, .i h, .i a, .i t, .i l, .i s, .i g, .i w, .i m, .i ea, .i ep, .i ec, .i tp] ∧ outs = [.l (own15 n h a s ++ d), .i (own15 n h a s).length, .i (((own15 n h a s).length + d.length : Nat) : Int)]
   ret := .slice 0 (.var 14) (.var 15), post := [.row .i64 3 13] }
def cDF10 : Ctr U := { cSFits with fn := 166 }
def cDF12 : Ctr U := { cEFits with fn := 89 }
def cDSnd : Ctr U := { cSnd15 with fn := 121 }
def cDF11 : Ctr U :=
 { fn := 88, nin := 7, args := [.agg [.int .i64 (.var 0), .int .i64 (.var 1), .int .i64 (.var 2), .int .i64 (.var 3), .int .i64 (.var 4), .int .i64 (.var 5)], .int .i64 (.var 6)], heap := []
   pre := fun ins => ∃ t l s g w m c, ins = [.i t, .i l, .i s, .i g, .i w, .i m, .i c], nout := 1
   out := fun ins => match ins with | [.i t, .i l, .i s, .i g, .i w, .i m, .i c] => [.i (fits11D t l s g w m c)] | _ => []
   ret := .int .i64 (.var 7), post := [] }
def cDF13 : Ctr U :=
 { fn := 31, nin := 11, args := [limV 0, .int .i64 (.var 10)], heap := []
   pre := fun ins => ∃ t l s g w m ea ep ec tp c, ins = [.i t, .i l, .i s, .i g, .i w, .i m, .i ea, .i ep, .i ec, .i tp, .i c], nout := 1
   out := fun ins => match ins with | [.i t, .i l, .i s, .i g, .i w, .i m, .i ea, .i ep, .i ec, .i tp, .i c] => [.i (fits13D t l s g w m ea ep ec tp c)] | _ => []
   ret := .int .i64 (.var 11), post := [] }
def cDF15 : Ctr U :=
 { fn := 56, nin := 14, args := [twV 0, .int .i64 (.var 13)], heap := []
   pre := fun ins => ∃ n h k t l s g w m ea ep ec tp c, ins = [.i n, .i h, .i k, .i t, .i l, .i s, .i g, .i w, .i m, .i ea, .i ep, .i ec, .i tp, .i c], nout := 1
   out := fun ins => match ins with | [.i n, .i h, .i k, .i t, .i l, .i s, .i g, .i w, .i m, .i ea, .i ep, .i ec, .i tp, .i c] => [.i (fits15D n h k t l s g w m ea ep ec tp c)] | _ => []
   ret := .int .i64 (.var 14), post := [] }
def cxVa (P : Program) : Cx U := { cx P [] with join := true, loops := [lAmong] }
def cxVb (P : Program) : Cx U := { cx P [cAmong] with join := true, loops := [lApD] }
def cxVc (P : Program) : Cx U := { cx P [] with join := true, loops := [lCe11] }
def ce13Inv (env : List (EV U)) : Prop := ∃ t l s g w m ea ep ec tp : Int, ∃ x10 x11 x12 x13 x14 : EV U, ∃ k : Nat, ∃ V d : List Int, env = [.i t, .i l, .i s, .i g, .i w, .i m, .i ea, .i ep, .i ec, .i tp, x10, x11, x12, x13, x14, .i k, .l (V ++ d), .i V.length, .i ((V.length + d.length : Nat) : Int)] ∧ s ≤ 4096 ∧ ec ≤ 64 ∧ k ≤ ec.toNat ∧ V = cells11D t l s g w ++ [ea, tp, IntKind.i64.wrap (tp + 1), IntKind.i64.wrap (tp + 2)] ++ runI ep k
def lCe13 : LoopS U := { fn := 91, rid := 3, nv := 4, tm := [(20, .junk), (4, .int .i64 (.var 15)), (3, .slice 3 (.var 17) (.var 18))], hp := [(3, .row .i64 3 16)], reb := [(3, 0)], inv := ce13Inv, mu := fun env => (gI env 8 - gI env 15).toNat }
def cxVd (P : Program) : Cx U := { cx P [cCe11] with join := true, loops := [lCe13] }
def ow1Inv (env : List (EV U)) : Prop := ∃ n h a t l s g w m ea ep ec tp : Int, ∃ k : Nat, ∃ V d : List Int, env = [.i n, .i h, .i a, .i t, .i l, .i s, .i g, .i w, .i m, .i ea, .i ep, .i ec, .i tp, .i k, .l (V ++ d), .i V.length, .i ((V.length + d.length : Nat) : Int)] ∧ okT n h a s = true ∧ k ≤ (s * (4 + a)).toNat ∧ V = runI n k
def lOw1 : LoopS U := { fn := 122, rid := 3, nv := 4, tm := [(4, .int .i64 (.var 13)), (3, .slice 1 (.var 15) (.var 16))], hp := [(1, .row .i64 3 14)], reb := [(1, 0)], inv := ow1Inv, mu := fun env => (gI env 5 * (4 + gI env 2) - gI env 13).toNat }
def ow2Inv (env : List (EV U)) : Prop := ∃ n h a t l s g w m ea ep ec tp : Int, ∃ x13 x14 x15 x16 : EV U, ∃ k : Nat, ∃ V d : List Int, env = [.i n, .i h, .i a, .i t, .i l, .i s, .i g, .i w, .i m, .i ea, .i ep, .i ec, .i tp, x13, x14, x15, x16, .i k, .l (V ++ d), .i V.length, .i ((V.length + d.length : Nat) : Int)] ∧ okT n h a s = true ∧ k ≤ a.toNat ∧ V = runI n (s * (4 + a)).toNat ++ runI h k
def lOw2 : LoopS U := { fn := 122, rid := 7, nv := 4, tm := [(5, .int .i64 (.var 17)), (3, .slice 1 (.var 19) (.var 20))], hp := [(1, .row .i64 3 18)], reb := [(1, 0)], inv := ow2Inv, mu := fun env => (gI env 2 - gI env 17).toNat }
def cxVe (P : Program) : Cx U := { cx P [] with join := true, loops := [lOw1, lOw2] }
def cxVf0 (P : Program) : Cx U := { cx P [cDF10, cDF12, cDSnd, cCe11, cCe13, cOwn15, cApD] with join := true }
def cxVf1 (P : Program) : Cx U := { cx P ([cDF10, cDF12, cDSnd, cCe11, cCe13, cOwn15, cApD] ++ [cDF11]) with join := true }
def ctsVf : List (Ctr U) := [cDF10, cDF12, cDSnd, cCe11, cCe13, cOwn15, cApD, cDF11, cDF13]
def cxVf (P : Program) : Cx U := { cx P ctsVf with join := true }
end Go.Proofs.YtdldcofddfkkbaaGreat
