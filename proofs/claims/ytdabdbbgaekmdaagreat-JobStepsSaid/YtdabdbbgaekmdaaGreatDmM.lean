import Derived.Test.YtdabdbbgaekmdaaGreatDkM
/- The law of jobs beside the document: what the contracts say (printed by gen_db.py). -/
namespace Go.Proofs.YtdabdbbgaekmdaaGreat
set_option linter.unusedVariables false
set_option linter.unusedSimpArgs false
set_option linter.unusedSectionVars false
open Go Go.RowKit

theorem topW_isW {i w : Int} (h : -1 ≤ i) (h1 : i ≤ 65534) : isW (topW i w) := by
  unfold topW
  exact ⟨by omega, by omega⟩
theorem layW_isW {s c g : Int} (h : 0 ≤ s ∧ s ≤ 5) (h1 : 0 ≤ c ∧ c < 64) (h2 : 0 ≤ g ∧ g < 4294967296) : isW (layW s c g) := by
  unfold layW
  exact ⟨by omega, by omega⟩
theorem ok9 {i e : Int} : (OpSt.ended i e).ok := .inl rfl
theorem pop_ok {O : OpSt} {a b c : Int} (h : -1 ≤ c ∧ c ≤ 65534) : (O.pop a b c).ok := .inr ⟨by show (-1 : Int) ≤ 0; omega, by show (0 : Int) ≤ 65534; omega, h.1, h.2, isWd0, Int.le_refl 0, by show (0 : Int) ≤ 5; omega, Int.le_refl 0, by show (0 : Int) < 64; omega⟩
theorem at1_ok {O : OpSt} {i : Int} (h : -1 ≤ i ∧ i ≤ 65534) (h1 : 0 ≤ O.to ∧ O.to ≤ 5) (h2 : 0 ≤ O.co ∧ O.co < 64) : (O.at1 i).ok := .inr ⟨h.1, h.2, by show (-1 : Int) ≤ 0; omega, by show (0 : Int) ≤ 65534; omega, isWd0, h1.1, h1.2, h2.1, h2.2⟩
theorem at2_ok {O : OpSt} {w : Int} (h : -1 ≤ O.i ∧ O.i ≤ 65534) (h1 : 0 ≤ O.to ∧ O.to ≤ 5) (h2 : 0 ≤ O.co ∧ O.co < 64) (hw : isWd w) : (O.at2 w).ok := .inr ⟨h.1, h.2, by show (-1 : Int) ≤ 0; omega, by show (0 : Int) ≤ 65534; omega, hw, h1.1, h1.2, h2.1, h2.2⟩
theorem push_ok {O : OpSt} {a b : Int} (h : -1 ≤ O.i ∧ O.i ≤ 65534) : (O.push a b).ok := .inr ⟨h.1, h.2, by show (-1 : Int) ≤ 0; omega, by show (0 : Int) ≤ 65534; omega, isWd0, Int.le_refl 0, by show (0 : Int) ≤ 5; omega, Int.le_refl 0, by show (0 : Int) < 64; omega⟩
theorem op_ok {O : OpSt} {M : MemSt} (h : O.ok) (hM : M.fine) : (O.step M).1.ok := by
  have hO := h
  by_cases h9 : O.line = 9
  · unfold OpSt.step
    rw [if_neg (by omega), if_neg (by omega), if_neg (by omega), if_neg (by omega)]
    exact hO
  obtain ⟨a1, a2, a3, a4, a5, a6, a7, a8, a9⟩ := h.resolve_left h9
  unfold OpSt.step
  split
  · split
    · show OpSt.ok (if _ then _ else _)
      split
      · exact ok9
      · exact pop_ok (by omega)
    · split
      · exact pop_ok (idxW_lo' _ _)
      · show OpSt.ok (if _ then _ else _)
        split
        · exact at1_ok (idxW_lo' _ _) ⟨a6, a7⟩ ⟨a8, a9⟩
        · exact pop_ok (by omega)
  · split
    · show OpSt.ok (if _ then _ else _)
      split
      · exact at2_ok ⟨a1, a2⟩ ⟨a6, a7⟩ ⟨a8, a9⟩ (n_load hM _)
      · exact ok9
    · split
      · show OpSt.ok (if _ then _ else _)
        split
        · unfold OpSt.swapped
          split
          · exact ok9
          · split
            · exact push_ok ⟨a1, a2⟩
            · exact ok9
        · exact at1_ok ⟨a1, a2⟩ ⟨a6, a7⟩ ⟨a8, a9⟩
      · split
        · split
          · exact push_ok ⟨a1, a2⟩
          · split
            · exact push_ok ⟨a1, a2⟩
            · show OpSt.ok (if _ then _ else _)
              split
              · exact ok9
              · exact push_ok ⟨a1, a2⟩
        · exact hO
theorem next_isW {O : OpSt} (h1 : 0 ≤ O.to ∧ O.to ≤ 5) (h2 : 0 ≤ O.co ∧ O.co < 64) (hw : isWd O.w) : isW O.next := by
  obtain ⟨w0, w1⟩ := hw
  unfold OpSt.next
  split
  · exact layW_isW (by omega) (by omega) (by omega)
  · split
    · exact layW_isW (by omega) (by omega) (by omega)
    · split
      · exact layW_isW h1 h2 (by omega)
      · exact layW_isW h1 (by omega) (by omega)
theorem op_fine {O : OpSt} {M : MemSt} (h : O.ok) (hM : M.fine) : (O.step M).2.fine := by
  by_cases h9 : O.line = 9
  · unfold OpSt.step
    rw [if_neg (by omega), if_neg (by omega), if_neg (by omega), if_neg (by omega)]
    exact hM
  obtain ⟨a1, a2, a3, a4, a5, a6, a7, a8, a9⟩ := h.resolve_left h9
  unfold OpSt.step
  split
  · split
    · exact fine_load hM _
    · split
      · exact fine_load hM _
      · exact fine_cas hM (topW_isW a3 a4)
  · split
    · exact fine_load hM _
    · split
      · exact fine_cas hM (next_isW ⟨a6, a7⟩ ⟨a8, a9⟩ a5)
      · split
        · split
          · exact fine_load hM _
          · split
            · have := idxW_lo' (O.x 4) O.pw
              exact fine_store hM ⟨by omega, by omega⟩
            · exact fine_cas hM (topW_isW a1 a2)
        · exact hM
theorem op_len {O : OpSt} {M : MemSt} : (O.step M).2.W.length = M.W.length := by
  unfold OpSt.step
  repeat' split
  all_goals first | exact len_load _ _ | exact len_store _ _ _ | exact len_cas _ _ _ _ | rfl
theorem co_ok {o : CoSt} {M : MemSt} (h : oOk o) (hM : M.fine) : oOk (o.step M).1 := by
  cases o with
  | no => trivial
  | take O => exact op_ok h hM
  | give O => exact op_ok h hM
  | turn O => exact op_ok h hM
  | key K =>
    show KeySt.ok (K.put M).1
    unfold KeySt.put
    split
    · exact isWd0
    · exact h
  | kof K => trivial
theorem co_fine {o : CoSt} {M : MemSt} (h : oOk o) (hM : M.fine) : (o.step M).2.fine := by
  cases o with
  | no => exact hM
  | take O => exact op_fine h hM
  | give O => exact op_fine h hM
  | turn O => exact op_fine h hM
  | key K =>
    show (K.put M).2.fine
    unfold KeySt.put
    split
    · exact fine_store hM h
    · exact hM
  | kof K =>
    show (K.get M).2.fine
    unfold KeySt.get
    split
    · exact fine_load hM _
    · exact hM
theorem co_len {o : CoSt} {M : MemSt} : (o.step M).2.W.length = M.W.length := by
  cases o with
  | no => rfl
  | take O => exact op_len
  | give O => exact op_len
  | turn O => exact op_len
  | key K =>
    show (K.put M).2.W.length = _
    unfold KeySt.put
    split
    · exact len_store _ _ _
    · rfl
  | kof K =>
    show (K.get M).2.W.length = _
    unfold KeySt.get
    split
    · exact len_load _ _
    · rfl
theorem ntk_ok {l : List Int} : (OpSt.newTake l).ok := .inr ⟨by show (-1 : Int) ≤ 0; omega, by show (0 : Int) ≤ 65534; omega, by show (-1 : Int) ≤ 0; omega, by show (0 : Int) ≤ 65534; omega, isWd0, Int.le_refl 0, by show (0 : Int) ≤ 5; omega, Int.le_refl 0, by show (0 : Int) < 64; omega⟩
theorem ngv_ok {l : List Int} {s i : Int} (hs : sOk s) : (OpSt.newGive l s i).ok := by
  obtain ⟨s0, s1⟩ := hs
  unfold OpSt.newGive
  split
  · exact ok9
  · exact .inr ⟨by show -1 ≤ i; omega, by show i ≤ 65534; omega, by show (-1 : Int) ≤ 0; omega, by show (0 : Int) ≤ 65534; omega, isWd0, Int.le_refl 0, by show (0 : Int) ≤ 5; omega, Int.le_refl 0, by show (0 : Int) < 64; omega⟩
theorem ntu_ok {l : List Int} {s i fr to co : Int} (hs : sOk s) : (OpSt.newTurn l s i fr to co).ok := by
  obtain ⟨s0, s1⟩ := hs
  unfold OpSt.newTurn
  split
  · exact ok9
  · split
    · exact ok9
    · rename_i hm
      have hr := may_rng (a := fr) (b := to) (by simpa using hm)
      split
      · exact ok9
      · exact .inr ⟨by show -1 ≤ i; omega, by show i ≤ 65534; omega, by show (-1 : Int) ≤ 0; omega, by show (0 : Int) ≤ 65534; omega, isWd0, by show 0 ≤ to; omega, by show to ≤ 5; omega, by show 0 ≤ co; omega, by show co < 64; omega⟩
theorem nky_ok {ks s i w : Int} (hw : isW w) : (KeySt.new ks s i w).ok := by
  unfold KeySt.new
  split
  · exact isWd0
  · exact hw
theorem pick4 {x : Int} : x.emod 4 = 0 ∨ x.emod 4 = 1 ∨ x.emod 4 = 2 ∨ x.emod 4 = 3 := by
  have := Int.emod_nonneg x (show (4 : Int) ≠ 0 by decide)
  have := Int.emod_lt_of_pos x (show (0 : Int) < 4 by decide)
  show x % 4 = 0 ∨ x % 4 = 1 ∨ x % 4 = 2 ∨ x % 4 = 3
  omega
theorem out_qlast (M : MemSt) : cQLast.out [.u (.rmem M)] = [.u (.rmem M), .i M.k, .i M.a, .i M.o, .i M.n, .b M.h] := rfl
theorem out_qcount (M : MemSt) : cQCount.out [.u (.rmem M)] = [.u (.rmem M), .i M.N] := rfl
theorem out_qnew {n : Int} (h : 1 ≤ n) (h1 : n ≤ 4096) : cQNew.out [.i n] = [.u (.rmem (.new n)), .i 0] := by simp [cQNew, h, h1]
theorem pre_swm {M : MemSt} {c : List Int} (h : M.W.length ≤ 4096) : cSameWords.pre [.l M.W, .l (M.W ++ c), .i M.W.length, .i M.W.length, .i M.W.length, .i ((M.W.length + c.length : Nat) : Int)] :=
  pre_same (by omega) (by omega) (by omega) (by simp; omega) (by omega)
theorem out_swm {M : MemSt} {c : List Int} : cSameWords.out [.l M.W, .l (M.W ++ c), .i M.W.length, .i M.W.length, .i M.W.length, .i ((M.W.length + c.length : Nat) : Int)] = [.b true] := by
  rw [out_same]; simp
theorem qwords {M : MemSt} {k : Tree} {env : List (EV U)} {X : Cx U} {R : List (EV U) → List (EV U) → Prop} {ci : Nat} {β : List Bnd} (hc : X.cts[ci]? = some cQWords) (ha : β.map (Bnd.den env) = [.u (.rmem M)]) (h : 1 ≤ M.W.length) (h1 : M.W.length ≤ 4096)
    (hk : ∀ (c : List Int) (env' : List (EV U)), env ++ [.u (.rmem M), .l (M.W ++ c), .i M.W.length, .i ((M.W.length + c.length : Nat) : Int)] = env' → k.sat X R env') : (Tree.callm ci β k).sat X R env :=
  st_callm hc ha ⟨_, rfl, h, h1⟩ (fun o env' ho he => by obtain ⟨c, rfl⟩ := ho; exact hk c env' he)
theorem out_awk (f : FuncId) : (boolC f).out [] = [.b true] := rfl
theorem out_bs (o : CoSt) (M : MemSt) : cBStep.out [.u (oA o), .u (oB o), .u (oC o), .u (oD o), .u (oE o), .u (oF o), .u (oG o), .u (.mem M), .u (.rmem M)] = [.u (oA (o.step M).1), .u (oB (o.step M).1), .u (oC (o.step M).1), .u (oD (o.step M).1), .u (oE (o.step M).1), .u (oF (o.step M).1), .u (oG (o.step M).1), .u (.mem (o.step M).2), .u (.rmem (o.step M).2), .b true] := by cases o <;> rfl
theorem out_ba (a b c d e f g : EV U) : cBAlike.out [a, b, c, d, e, f, g] = [a, b, c, d, e, f, g, .b true] := rfl
theorem out_al (M W : MemSt) (st ks t ls s : Int) : cAll.out [.u (.mem M), .u (.rmem W), .i st, .i ks, .i t, .i ls, .i s] = [.u (.mem M), .u (.rmem W), .b true] := rfl
theorem out_jfits (st ks t ls s c : Int) : cJFits.out [.i st, .i ks, .i t, .i ls, .i s, .i c] = [.i (fits24 st ks t ls s c)] := rfl
theorem out_qfits (st ks t ls s c : Int) : cQFits.out [.i st, .i ks, .i t, .i ls, .i s, .i c] = [.i (fits24 st ks t ls s c)] := rfl
theorem out_jfill (M : MemSt) (st ks t ls s : Int) : cJFill.out [.u (.mem M), .i st, .i ks, .i t, .i ls, .i s] = [.u (.mem (fill24 M st ks t ls s))] := rfl
theorem out_qjfill (M : MemSt) (st ks t ls s : Int) : cQJFill.out [.u (.rmem M), .i st, .i ks, .i t, .i ls, .i s] = [.u (.rmem (fill24 M st ks t ls s))] := rfl
theorem out_alA (a b : EV U) : cAlA.out [a, b] = [a, b, .b true] := rfl
theorem out_alB (a b : EV U) : cAlB.out [a, b] = [a, b, .b true] := rfl
theorem out_alC (a b : EV U) : cAlC.out [a, b] = [a, b, .b true] := rfl
theorem out_alD (a b : EV U) : cAlD.out [a, b] = [a, b, .b true] := rfl
theorem out_alE (a b : EV U) : cAlE.out [a, b] = [a, b, .b true] := rfl
theorem out_NTk (st ks t ls s : Int) : cNTk.out [.i st, .i ks, .i t, .i ls, .i s] = [.u (.take (.newTake [st, ks, t, ls, s]))] := rfl
theorem out_QNTk (st ks t ls s : Int) : cQNTk.out [.i st, .i ks, .i t, .i ls, .i s] = [.u (.rop (.newTake [st, ks, t, ls, s]))] := rfl
theorem out_NGv (st ks t ls s i : Int) : cNGv.out [.i st, .i ks, .i t, .i ls, .i s, .i i] = [.u (.give (.newGive [st, ks, t, ls, s] s i))] := rfl
theorem out_QNGv (st ks t ls s i : Int) : cQNGv.out [.i st, .i ks, .i t, .i ls, .i s, .i i] = [.u (.rop (.newGive [st, ks, t, ls, s] s i))] := rfl
theorem out_NTu (st ks t ls s i fr to co : Int) : cNTu.out [.i st, .i ks, .i t, .i ls, .i s, .i i, .i fr, .i to, .i co] = [.u (.turn (.newTurn [st, ks, t, ls, s] s i fr to co))] := rfl
theorem out_QNTu (st ks t ls s i fr to co : Int) : cQNTu.out [.i st, .i ks, .i t, .i ls, .i s, .i i, .i fr, .i to, .i co] = [.u (.rop (.newTurn [st, ks, t, ls, s] s i fr to co))] := rfl
theorem out_NKy (st ks t ls s i w : Int) : cNKy.out [.i st, .i ks, .i t, .i ls, .i s, .i i, .i w] = [.u (.key (.new ks s i w))] := rfl
theorem out_QNKy (st ks t ls s i w : Int) : cQNKy.out [.i st, .i ks, .i t, .i ls, .i s, .i i, .i w] = [.u (.rkey false (.new ks s i w))] := rfl
theorem out_NKo (st ks t ls s i : Int) : cNKo.out [.i st, .i ks, .i t, .i ls, .i s, .i i] = [.u (.keyOf (.new ks s i 0))] := rfl
theorem out_QNKo (st ks t ls s i : Int) : cQNKo.out [.i st, .i ks, .i t, .i ls, .i s, .i i] = [.u (.rkey true (.new ks s i 0))] := rfl
end Go.Proofs.YtdabdbbgaekmdaaGreat
/- The law of jobs beside the document: a round of core 0 (printed by gen_db.py). -/
namespace Go.Proofs.YtdabdbbgaekmdaaGreat
set_option linter.unusedVariables false
set_option linter.unusedSimpArgs false
set_option linter.unusedSectionVars false
open Go Go.RowKit

set_option maxRecDepth 10000 in
set_option maxHeartbeats 32000000 in
theorem bJS0 (P : Program) (hs_ : List (Nat × Nat × List Nat)) {st ks t ls s z : Int} {gi : Nat → Nat → Int} {ki : Nat} {ci : Int} {gl : Nat → Nat → Int} {kl : Nat} {cl : Int} {x12 x13 x14 x15 x16 x17 x18 x19 x20 x21 x22 x23 : EV U} {M : MemSt} {o0 o1 o2 o3 : CoSt} {j : Int} (h1 : 0 ≤ j) (h2 : j ≤ kl) (h3 : kl ≤ 120) (h4 : 1 ≤ M.W.length) (hM : M.fine) (f1 : 1 ≤ s) (f2 : s ≤ 64) (hw : ∀ j, j < kl → isW (gl j 6)) (k0 : oOk o0) (k1 : oOk o1) (k2 : oOk o2) (k3 : oOk o3) (hp : (gl j.toNat 0).emod 4 = 0) :
    tJStepsL0.sat { cxDk2 P [lJS1, lJS2] with hints := hs_ } (ctrR cJSteps) [.i st, .i ks, .i t, .i ls, .i s, .i z, .f gi ki, .i ki, .i ci, .f gl kl, .i kl, .i cl, x12, x13, x14, x15, x16, x17, x18, x19, x20, x21, x22, x23, .u (.mem M), .u (.rmem M), .u (oA o0), .u (oB o0), .u (oC o0), .u (oD o0), .u (oE o0), .u (oF o0), .u (oG o0), .u (oA o1), .u (oB o1), .u (oC o1), .u (oD o1), .u (oE o1), .u (oF o1), .u (oG o1), .u (oA o2), .u (oB o2), .u (oC o2), .u (oD o2), .u (oE o2), .u (oF o2), .u (oG o2), .u (oA o3), .u (oB o3), .u (oC o3), .u (oD o3), .u (oE o3), .u (oF o3), .u (oG o3), .i j] := by
  have hs : sOk s := ⟨f1, f2⟩
  have hL : oOk o0 := k0
  by_cases hi : j < kl
  · have hw3 := hw j.toNat (by omega)
    unfold tJStepsL0
    repeat' (first
      | (first
        | (with_reducible refine st_need ?_ ?_
           focus (simp only [dn, reduceCtorEq, hp, va_map] <;> first | omega | assumption))
        | (with_reducible refine st_and ?_ ?_)
        | (with_reducible exact st_ok)
        | (with_reducible refine st_br (fun hc => ?_) (fun hc => ?_) <;> (simp only [dn, reduceCtorEq, hp, va_map] at hc) <;> (try (exfalso; first | contradiction | omega)))
        | (refine st_call (by rfl) (by simp only [dn, reduceCtorEq, hp, va_map] <;> rfl) ?_ (by simp only [out_pick, hp, out_bs, out_ba, out_al, out_alA, out_alB, out_alC, out_alD, out_alE, out_NTk, out_QNTk, out_NGv, out_QNGv, out_NTu, out_QNTu, out_NKy, out_QNKy, out_NKo, out_QNKo, out_last, out_qlast, out_count, out_qcount, out_words, out_swm, out_awk] <;> rfl) (by simp only [dn] <;> rfl) ?_
           focus (first | exact pre_pick (by decide) (by decide) | exact ⟨_, _, rfl, hM⟩ | exact ⟨_, rfl⟩ | exact ⟨_, _, _, _, _, rfl, hs⟩ | exact ⟨_, _, _, _, _, _, rfl, hs⟩ | exact ⟨_, _, _, _, _, _, _, _, _, rfl, hs⟩ | exact ⟨_, _, _, _, _, _, _, rfl, hs, hw3⟩ | exact ⟨_, _, _, _, _, _, rfl, (by first | exact hM | exact co_fine hL hM), f1, f2⟩ | rfl | exact pre_swm (by first | exact hM.1 | exact (co_fine hL hM).1)))
        | (with_reducible refine st_ret (by simp only [dn, reduceCtorEq, hp, va_map] <;> rfl) ?_
           (first | rfl | exact ⟨_, rfl⟩)))
      | (refine qwords (by rfl) (by simp only [dn, reduceCtorEq, hp] <;> rfl) ?_ ?_ (fun cc env' he => ?_)
         focus exact (by first | assumption | (rw [co_len]; assumption))
         focus exact (by first | exact hM.1 | exact (co_fine hL hM).1)
         simp only [List.cons_append, List.nil_append] at he
         subst he)
      | (refine st_mk (by rfl) (by simp only [List.map_nil] <;> rfl) (by rfl) (by simp only [dn] <;> rfl) ?_)
      | (refine st_back (by rfl) (by simp only [dn, reduceCtorEq, hp, va_map] <;> rfl) (by simp only [dn] <;> rfl) (by rfl) ?_ ?_
         focus (rw [wrap_small (n := j + 1) (by omega) (by omega)]
                first
                  | exact ⟨_, _, _, _, _, _, _, _, _, _, _, _, _, _, _, _, _, _, _, _, _, _, _, _, _, (.take _), o1, o2, o3, _, rfl, by omega, by omega, h3, (by first | assumption | (rw [co_len]; assumption)), (by first | exact hM | exact co_fine hL hM), ⟨f1, f2⟩, hw, ntk_ok, k1, k2, k3⟩
                  | exact ⟨_, _, _, _, _, _, _, _, _, _, _, _, _, _, _, _, _, _, _, _, _, _, _, _, _, (.give _), o1, o2, o3, _, rfl, by omega, by omega, h3, (by first | assumption | (rw [co_len]; assumption)), (by first | exact hM | exact co_fine hL hM), ⟨f1, f2⟩, hw, (ngv_ok hs), k1, k2, k3⟩
                  | exact ⟨_, _, _, _, _, _, _, _, _, _, _, _, _, _, _, _, _, _, _, _, _, _, _, _, _, (.turn _), o1, o2, o3, _, rfl, by omega, by omega, h3, (by first | assumption | (rw [co_len]; assumption)), (by first | exact hM | exact co_fine hL hM), ⟨f1, f2⟩, hw, (ntu_ok hs), k1, k2, k3⟩
                  | exact ⟨_, _, _, _, _, _, _, _, _, _, _, _, _, _, _, _, _, _, _, _, _, _, _, _, _, (.key _), o1, o2, o3, _, rfl, by omega, by omega, h3, (by first | assumption | (rw [co_len]; assumption)), (by first | exact hM | exact co_fine hL hM), ⟨f1, f2⟩, hw, (nky_ok hw3), k1, k2, k3⟩
                  | exact ⟨_, _, _, _, _, _, _, _, _, _, _, _, _, _, _, _, _, _, _, _, _, _, _, _, _, (.kof _), o1, o2, o3, _, rfl, by omega, by omega, h3, (by first | assumption | (rw [co_len]; assumption)), (by first | exact hM | exact co_fine hL hM), ⟨f1, f2⟩, hw, trivial, k1, k2, k3⟩
                  | exact ⟨_, _, _, _, _, _, _, _, _, _, _, _, _, _, _, _, _, _, _, _, _, _, _, _, _, (o0.step M).1, o1, o2, o3, _, rfl, by omega, by omega, h3, (by first | assumption | (rw [co_len]; assumption)), (by first | exact hM | exact co_fine hL hM), ⟨f1, f2⟩, hw, (co_ok hL hM), k1, k2, k3⟩
                  | exact ⟨_, _, _, _, _, _, _, _, _, _, _, _, _, _, _, _, _, _, _, _, _, _, _, _, _, o0, o1, o2, o3, _, rfl, by omega, by omega, h3, (by first | assumption | (rw [co_len]; assumption)), (by first | exact hM | exact co_fine hL hM), ⟨f1, f2⟩, hw, hL, k1, k2, k3⟩)
         focus (rw [wrap_small (n := j + 1) (by omega) (by omega)]; show ((kl : Int) - (j + 1)).toNat < ((kl : Int) - j).toNat; omega))
      | fail "no step")
  · unfold tJStepsL0
    repeat' (first
      | (first
        | (with_reducible refine st_need ?_ ?_
           focus (simp only [dn, reduceCtorEq, hp, va_map] <;> first | omega | assumption))
        | (with_reducible refine st_and ?_ ?_)
        | (with_reducible exact st_ok)
        | (with_reducible refine st_br (fun hc => ?_) (fun hc => ?_) <;> (simp only [dn, reduceCtorEq, hp, va_map] at hc) <;> (try (exfalso; first | contradiction | omega)))
        | (refine st_call (by rfl) (by simp only [dn, reduceCtorEq, hp, va_map] <;> rfl) ?_ (by simp only [out_awk] <;> rfl) (by simp only [dn] <;> rfl) ?_
           focus (first | rfl))
        | (with_reducible refine st_ret (by simp only [dn, reduceCtorEq, hp, va_map] <;> rfl) ?_
           (first | rfl | exact ⟨_, rfl⟩)))
      | fail "no step")
end Go.Proofs.YtdabdbbgaekmdaaGreat
/- The law of jobs beside the document: a round of core 1 (printed by gen_db.py). -/
namespace Go.Proofs.YtdabdbbgaekmdaaGreat
set_option linter.unusedVariables false
set_option linter.unusedSimpArgs false
set_option linter.unusedSectionVars false
open Go Go.RowKit

set_option maxRecDepth 10000 in
set_option maxHeartbeats 32000000 in
theorem bJS1 (P : Program) (hs_ : List (Nat × Nat × List Nat)) {st ks t ls s z : Int} {gi : Nat → Nat → Int} {ki : Nat} {ci : Int} {gl : Nat → Nat → Int} {kl : Nat} {cl : Int} {x12 x13 x14 x15 x16 x17 x18 x19 x20 x21 x22 x23 : EV U} {M : MemSt} {o0 o1 o2 o3 : CoSt} {j : Int} (h1 : 0 ≤ j) (h2 : j ≤ kl) (h3 : kl ≤ 120) (h4 : 1 ≤ M.W.length) (hM : M.fine) (f1 : 1 ≤ s) (f2 : s ≤ 64) (hw : ∀ j, j < kl → isW (gl j 6)) (k0 : oOk o0) (k1 : oOk o1) (k2 : oOk o2) (k3 : oOk o3) (hp : (gl j.toNat 0).emod 4 = 1) :
    tJStepsL0.sat { cxDk2 P [lJS1, lJS2] with hints := hs_ } (ctrR cJSteps) [.i st, .i ks, .i t, .i ls, .i s, .i z, .f gi ki, .i ki, .i ci, .f gl kl, .i kl, .i cl, x12, x13, x14, x15, x16, x17, x18, x19, x20, x21, x22, x23, .u (.mem M), .u (.rmem M), .u (oA o0), .u (oB o0), .u (oC o0), .u (oD o0), .u (oE o0), .u (oF o0), .u (oG o0), .u (oA o1), .u (oB o1), .u (oC o1), .u (oD o1), .u (oE o1), .u (oF o1), .u (oG o1), .u (oA o2), .u (oB o2), .u (oC o2), .u (oD o2), .u (oE o2), .u (oF o2), .u (oG o2), .u (oA o3), .u (oB o3), .u (oC o3), .u (oD o3), .u (oE o3), .u (oF o3), .u (oG o3), .i j] := by
  have hs : sOk s := ⟨f1, f2⟩
  have hL : oOk o1 := k1
  by_cases hi : j < kl
  · have hw3 := hw j.toNat (by omega)
    unfold tJStepsL0
    repeat' (first
      | (first
        | (with_reducible refine st_need ?_ ?_
           focus (simp only [dn, reduceCtorEq, hp, va_map] <;> first | omega | assumption))
        | (with_reducible refine st_and ?_ ?_)
        | (with_reducible exact st_ok)
        | (with_reducible refine st_br (fun hc => ?_) (fun hc => ?_) <;> (simp only [dn, reduceCtorEq, hp, va_map] at hc) <;> (try (exfalso; first | contradiction | omega)))
        | (refine st_call (by rfl) (by simp only [dn, reduceCtorEq, hp, va_map] <;> rfl) ?_ (by simp only [out_pick, hp, out_bs, out_ba, out_al, out_alA, out_alB, out_alC, out_alD, out_alE, out_NTk, out_QNTk, out_NGv, out_QNGv, out_NTu, out_QNTu, out_NKy, out_QNKy, out_NKo, out_QNKo, out_last, out_qlast, out_count, out_qcount, out_words, out_swm, out_awk] <;> rfl) (by simp only [dn] <;> rfl) ?_
           focus (first | exact pre_pick (by decide) (by decide) | exact ⟨_, _, rfl, hM⟩ | exact ⟨_, rfl⟩ | exact ⟨_, _, _, _, _, rfl, hs⟩ | exact ⟨_, _, _, _, _, _, rfl, hs⟩ | exact ⟨_, _, _, _, _, _, _, _, _, rfl, hs⟩ | exact ⟨_, _, _, _, _, _, _, rfl, hs, hw3⟩ | exact ⟨_, _, _, _, _, _, rfl, (by first | exact hM | exact co_fine hL hM), f1, f2⟩ | rfl | exact pre_swm (by first | exact hM.1 | exact (co_fine hL hM).1)))
        | (with_reducible refine st_ret (by simp only [dn, reduceCtorEq, hp, va_map] <;> rfl) ?_
           (first | rfl | exact ⟨_, rfl⟩)))
      | (refine qwords (by rfl) (by simp only [dn, reduceCtorEq, hp] <;> rfl) ?_ ?_ (fun cc env' he => ?_)
         focus exact (by first | assumption | (rw [co_len]; assumption))
         focus exact (by first | exact hM.1 | exact (co_fine hL hM).1)
         simp only [List.cons_append, List.nil_append] at he
         subst he)
      | (refine st_mk (by rfl) (by simp only [List.map_nil] <;> rfl) (by rfl) (by simp only [dn] <;> rfl) ?_)
      | (refine st_back (by rfl) (by simp only [dn, reduceCtorEq, hp, va_map] <;> rfl) (by simp only [dn] <;> rfl) (by rfl) ?_ ?_
         focus (rw [wrap_small (n := j + 1) (by omega) (by omega)]
                first
                  | exact ⟨_, _, _, _, _, _, _, _, _, _, _, _, _, _, _, _, _, _, _, _, _, _, _, _, _, o0, (.take _), o2, o3, _, rfl, by omega, by omega, h3, (by first | assumption | (rw [co_len]; assumption)), (by first | exact hM | exact co_fine hL hM), ⟨f1, f2⟩, hw, k0, ntk_ok, k2, k3⟩
                  | exact ⟨_, _, _, _, _, _, _, _, _, _, _, _, _, _, _, _, _, _, _, _, _, _, _, _, _, o0, (.give _), o2, o3, _, rfl, by omega, by omega, h3, (by first | assumption | (rw [co_len]; assumption)), (by first | exact hM | exact co_fine hL hM), ⟨f1, f2⟩, hw, k0, (ngv_ok hs), k2, k3⟩
                  | exact ⟨_, _, _, _, _, _, _, _, _, _, _, _, _, _, _, _, _, _, _, _, _, _, _, _, _, o0, (.turn _), o2, o3, _, rfl, by omega, by omega, h3, (by first | assumption | (rw [co_len]; assumption)), (by first | exact hM | exact co_fine hL hM), ⟨f1, f2⟩, hw, k0, (ntu_ok hs), k2, k3⟩
                  | exact ⟨_, _, _, _, _, _, _, _, _, _, _, _, _, _, _, _, _, _, _, _, _, _, _, _, _, o0, (.key _), o2, o3, _, rfl, by omega, by omega, h3, (by first | assumption | (rw [co_len]; assumption)), (by first | exact hM | exact co_fine hL hM), ⟨f1, f2⟩, hw, k0, (nky_ok hw3), k2, k3⟩
                  | exact ⟨_, _, _, _, _, _, _, _, _, _, _, _, _, _, _, _, _, _, _, _, _, _, _, _, _, o0, (.kof _), o2, o3, _, rfl, by omega, by omega, h3, (by first | assumption | (rw [co_len]; assumption)), (by first | exact hM | exact co_fine hL hM), ⟨f1, f2⟩, hw, k0, trivial, k2, k3⟩
                  | exact ⟨_, _, _, _, _, _, _, _, _, _, _, _, _, _, _, _, _, _, _, _, _, _, _, _, _, o0, (o1.step M).1, o2, o3, _, rfl, by omega, by omega, h3, (by first | assumption | (rw [co_len]; assumption)), (by first | exact hM | exact co_fine hL hM), ⟨f1, f2⟩, hw, k0, (co_ok hL hM), k2, k3⟩
                  | exact ⟨_, _, _, _, _, _, _, _, _, _, _, _, _, _, _, _, _, _, _, _, _, _, _, _, _, o0, o1, o2, o3, _, rfl, by omega, by omega, h3, (by first | assumption | (rw [co_len]; assumption)), (by first | exact hM | exact co_fine hL hM), ⟨f1, f2⟩, hw, k0, hL, k2, k3⟩)
         focus (rw [wrap_small (n := j + 1) (by omega) (by omega)]; show ((kl : Int) - (j + 1)).toNat < ((kl : Int) - j).toNat; omega))
      | fail "no step")
  · unfold tJStepsL0
    repeat' (first
      | (first
        | (with_reducible refine st_need ?_ ?_
           focus (simp only [dn, reduceCtorEq, hp, va_map] <;> first | omega | assumption))
        | (with_reducible refine st_and ?_ ?_)
        | (with_reducible exact st_ok)
        | (with_reducible refine st_br (fun hc => ?_) (fun hc => ?_) <;> (simp only [dn, reduceCtorEq, hp, va_map] at hc) <;> (try (exfalso; first | contradiction | omega)))
        | (refine st_call (by rfl) (by simp only [dn, reduceCtorEq, hp, va_map] <;> rfl) ?_ (by simp only [out_awk] <;> rfl) (by simp only [dn] <;> rfl) ?_
           focus (first | rfl))
        | (with_reducible refine st_ret (by simp only [dn, reduceCtorEq, hp, va_map] <;> rfl) ?_
           (first | rfl | exact ⟨_, rfl⟩)))
      | fail "no step")
end Go.Proofs.YtdabdbbgaekmdaaGreat
/- The law of jobs beside the document: a round of core 2 (printed by gen_db.py). -/
namespace Go.Proofs.YtdabdbbgaekmdaaGreat
set_option linter.unusedVariables false
set_option linter.unusedSimpArgs false
set_option linter.unusedSectionVars false
open Go Go.RowKit

set_option maxRecDepth 10000 in
set_option maxHeartbeats 32000000 in
theorem bJS2 (P : Program) (hs_ : List (Nat × Nat × List Nat)) {st ks t ls s z : Int} {gi : Nat → Nat → Int} {ki : Nat} {ci : Int} {gl : Nat → Nat → Int} {kl : Nat} {cl : Int} {x12 x13 x14 x15 x16 x17 x18 x19 x20 x21 x22 x23 : EV U} {M : MemSt} {o0 o1 o2 o3 : CoSt} {j : Int} (h1 : 0 ≤ j) (h2 : j ≤ kl) (h3 : kl ≤ 120) (h4 : 1 ≤ M.W.length) (hM : M.fine) (f1 : 1 ≤ s) (f2 : s ≤ 64) (hw : ∀ j, j < kl → isW (gl j 6)) (k0 : oOk o0) (k1 : oOk o1) (k2 : oOk o2) (k3 : oOk o3) (hp : (gl j.toNat 0).emod 4 = 2) :
    tJStepsL0.sat { cxDk2 P [lJS1, lJS2] with hints := hs_ } (ctrR cJSteps) [.i st, .i ks, .i t, .i ls, .i s, .i z, .f gi ki, .i ki, .i ci, .f gl kl, .i kl, .i cl, x12, x13, x14, x15, x16, x17, x18, x19, x20, x21, x22, x23, .u (.mem M), .u (.rmem M), .u (oA o0), .u (oB o0), .u (oC o0), .u (oD o0), .u (oE o0), .u (oF o0), .u (oG o0), .u (oA o1), .u (oB o1), .u (oC o1), .u (oD o1), .u (oE o1), .u (oF o1), .u (oG o1), .u (oA o2), .u (oB o2), .u (oC o2), .u (oD o2), .u (oE o2), .u (oF o2), .u (oG o2), .u (oA o3), .u (oB o3), .u (oC o3), .u (oD o3), .u (oE o3), .u (oF o3), .u (oG o3), .i j] := by
  have hs : sOk s := ⟨f1, f2⟩
  have hL : oOk o2 := k2
  by_cases hi : j < kl
  · have hw3 := hw j.toNat (by omega)
    unfold tJStepsL0
    repeat' (first
      | (first
        | (with_reducible refine st_need ?_ ?_
           focus (simp only [dn, reduceCtorEq, hp, va_map] <;> first | omega | assumption))
        | (with_reducible refine st_and ?_ ?_)
        | (with_reducible exact st_ok)
        | (with_reducible refine st_br (fun hc => ?_) (fun hc => ?_) <;> (simp only [dn, reduceCtorEq, hp, va_map] at hc) <;> (try (exfalso; first | contradiction | omega)))
        | (refine st_call (by rfl) (by simp only [dn, reduceCtorEq, hp, va_map] <;> rfl) ?_ (by simp only [out_pick, hp, out_bs, out_ba, out_al, out_alA, out_alB, out_alC, out_alD, out_alE, out_NTk, out_QNTk, out_NGv, out_QNGv, out_NTu, out_QNTu, out_NKy, out_QNKy, out_NKo, out_QNKo, out_last, out_qlast, out_count, out_qcount, out_words, out_swm, out_awk] <;> rfl) (by simp only [dn] <;> rfl) ?_
           focus (first | exact pre_pick (by decide) (by decide) | exact ⟨_, _, rfl, hM⟩ | exact ⟨_, rfl⟩ | exact ⟨_, _, _, _, _, rfl, hs⟩ | exact ⟨_, _, _, _, _, _, rfl, hs⟩ | exact ⟨_, _, _, _, _, _, _, _, _, rfl, hs⟩ | exact ⟨_, _, _, _, _, _, _, rfl, hs, hw3⟩ | exact ⟨_, _, _, _, _, _, rfl, (by first | exact hM | exact co_fine hL hM), f1, f2⟩ | rfl | exact pre_swm (by first | exact hM.1 | exact (co_fine hL hM).1)))
        | (with_reducible refine st_ret (by simp only [dn, reduceCtorEq, hp, va_map] <;> rfl) ?_
           (first | rfl | exact ⟨_, rfl⟩)))
      | (refine qwords (by rfl) (by simp only [dn, reduceCtorEq, hp] <;> rfl) ?_ ?_ (fun cc env' he => ?_)
         focus exact (by first | assumption | (rw [co_len]; assumption))
         focus exact (by first | exact hM.1 | exact (co_fine hL hM).1)
         simp only [List.cons_append, List.nil_append] at he
         subst he)
      | (refine st_mk (by rfl) (by simp only [List.map_nil] <;> rfl) (by rfl) (by simp only [dn] <;> rfl) ?_)
      | (refine st_back (by rfl) (by simp only [dn, reduceCtorEq, hp, va_map] <;> rfl) (by simp only [dn] <;> rfl) (by rfl) ?_ ?_
         focus (rw [wrap_small (n := j + 1) (by omega) (by omega)]
                first
                  | exact ⟨_, _, _, _, _, _, _, _, _, _, _, _, _, _, _, _, _, _, _, _, _, _, _, _, _, o0, o1, (.take _), o3, _, rfl, by omega, by omega, h3, (by first | assumption | (rw [co_len]; assumption)), (by first | exact hM | exact co_fine hL hM), ⟨f1, f2⟩, hw, k0, k1, ntk_ok, k3⟩
                  | exact ⟨_, _, _, _, _, _, _, _, _, _, _, _, _, _, _, _, _, _, _, _, _, _, _, _, _, o0, o1, (.give _), o3, _, rfl, by omega, by omega, h3, (by first | assumption | (rw [co_len]; assumption)), (by first | exact hM | exact co_fine hL hM), ⟨f1, f2⟩, hw, k0, k1, (ngv_ok hs), k3⟩
                  | exact ⟨_, _, _, _, _, _, _, _, _, _, _, _, _, _, _, _, _, _, _, _, _, _, _, _, _, o0, o1, (.turn _), o3, _, rfl, by omega, by omega, h3, (by first | assumption | (rw [co_len]; assumption)), (by first | exact hM | exact co_fine hL hM), ⟨f1, f2⟩, hw, k0, k1, (ntu_ok hs), k3⟩
                  | exact ⟨_, _, _, _, _, _, _, _, _, _, _, _, _, _, _, _, _, _, _, _, _, _, _, _, _, o0, o1, (.key _), o3, _, rfl, by omega, by omega, h3, (by first | assumption | (rw [co_len]; assumption)), (by first | exact hM | exact co_fine hL hM), ⟨f1, f2⟩, hw, k0, k1, (nky_ok hw3), k3⟩
                  | exact ⟨_, _, _, _, _, _, _, _, _, _, _, _, _, _, _, _, _, _, _, _, _, _, _, _, _, o0, o1, (.kof _), o3, _, rfl, by omega, by omega, h3, (by first | assumption | (rw [co_len]; assumption)), (by first | exact hM | exact co_fine hL hM), ⟨f1, f2⟩, hw, k0, k1, trivial, k3⟩
                  | exact ⟨_, _, _, _, _, _, _, _, _, _, _, _, _, _, _, _, _, _, _, _, _, _, _, _, _, o0, o1, (o2.step M).1, o3, _, rfl, by omega, by omega, h3, (by first | assumption | (rw [co_len]; assumption)), (by first | exact hM | exact co_fine hL hM), ⟨f1, f2⟩, hw, k0, k1, (co_ok hL hM), k3⟩
                  | exact ⟨_, _, _, _, _, _, _, _, _, _, _, _, _, _, _, _, _, _, _, _, _, _, _, _, _, o0, o1, o2, o3, _, rfl, by omega, by omega, h3, (by first | assumption | (rw [co_len]; assumption)), (by first | exact hM | exact co_fine hL hM), ⟨f1, f2⟩, hw, k0, k1, hL, k3⟩)
         focus (rw [wrap_small (n := j + 1) (by omega) (by omega)]; show ((kl : Int) - (j + 1)).toNat < ((kl : Int) - j).toNat; omega))
      | fail "no step")
  · unfold tJStepsL0
    repeat' (first
      | (first
        | (with_reducible refine st_need ?_ ?_
           focus (simp only [dn, reduceCtorEq, hp, va_map] <;> first | omega | assumption))
        | (with_reducible refine st_and ?_ ?_)
        | (with_reducible exact st_ok)
        | (with_reducible refine st_br (fun hc => ?_) (fun hc => ?_) <;> (simp only [dn, reduceCtorEq, hp, va_map] at hc) <;> (try (exfalso; first | contradiction | omega)))
        | (refine st_call (by rfl) (by simp only [dn, reduceCtorEq, hp, va_map] <;> rfl) ?_ (by simp only [out_awk] <;> rfl) (by simp only [dn] <;> rfl) ?_
           focus (first | rfl))
        | (with_reducible refine st_ret (by simp only [dn, reduceCtorEq, hp, va_map] <;> rfl) ?_
           (first | rfl | exact ⟨_, rfl⟩)))
      | fail "no step")
end Go.Proofs.YtdabdbbgaekmdaaGreat
/- The law of jobs beside the document: a round of core 3 (printed by gen_db.py). -/
namespace Go.Proofs.YtdabdbbgaekmdaaGreat
set_option linter.unusedVariables false
set_option linter.unusedSimpArgs false
set_option linter.unusedSectionVars false
open Go Go.RowKit

set_option maxRecDepth 10000 in
set_option maxHeartbeats 32000000 in
theorem bJS3 (P : Program) (hs_ : List (Nat × Nat × List Nat)) {st ks t ls s z : Int} {gi : Nat → Nat → Int} {ki : Nat} {ci : Int} {gl : Nat → Nat → Int} {kl : Nat} {cl : Int} {x12 x13 x14 x15 x16 x17 x18 x19 x20 x21 x22 x23 : EV U} {M : MemSt} {o0 o1 o2 o3 : CoSt} {j : Int} (h1 : 0 ≤ j) (h2 : j ≤ kl) (h3 : kl ≤ 120) (h4 : 1 ≤ M.W.length) (hM : M.fine) (f1 : 1 ≤ s) (f2 : s ≤ 64) (hw : ∀ j, j < kl → isW (gl j 6)) (k0 : oOk o0) (k1 : oOk o1) (k2 : oOk o2) (k3 : oOk o3) (hp : (gl j.toNat 0).emod 4 = 3) :
    tJStepsL0.sat { cxDk2 P [lJS1, lJS2] with hints := hs_ } (ctrR cJSteps) [.i st, .i ks, .i t, .i ls, .i s, .i z, .f gi ki, .i ki, .i ci, .f gl kl, .i kl, .i cl, x12, x13, x14, x15, x16, x17, x18, x19, x20, x21, x22, x23, .u (.mem M), .u (.rmem M), .u (oA o0), .u (oB o0), .u (oC o0), .u (oD o0), .u (oE o0), .u (oF o0), .u (oG o0), .u (oA o1), .u (oB o1), .u (oC o1), .u (oD o1), .u (oE o1), .u (oF o1), .u (oG o1), .u (oA o2), .u (oB o2), .u (oC o2), .u (oD o2), .u (oE o2), .u (oF o2), .u (oG o2), .u (oA o3), .u (oB o3), .u (oC o3), .u (oD o3), .u (oE o3), .u (oF o3), .u (oG o3), .i j] := by
  have hs : sOk s := ⟨f1, f2⟩
  have hL : oOk o3 := k3
  by_cases hi : j < kl
  · have hw3 := hw j.toNat (by omega)
    unfold tJStepsL0
    repeat' (first
      | (first
        | (with_reducible refine st_need ?_ ?_
           focus (simp only [dn, reduceCtorEq, hp, va_map] <;> first | omega | assumption))
        | (with_reducible refine st_and ?_ ?_)
        | (with_reducible exact st_ok)
        | (with_reducible refine st_br (fun hc => ?_) (fun hc => ?_) <;> (simp only [dn, reduceCtorEq, hp, va_map] at hc) <;> (try (exfalso; first | contradiction | omega)))
        | (refine st_call (by rfl) (by simp only [dn, reduceCtorEq, hp, va_map] <;> rfl) ?_ (by simp only [out_pick, hp, out_bs, out_ba, out_al, out_alA, out_alB, out_alC, out_alD, out_alE, out_NTk, out_QNTk, out_NGv, out_QNGv, out_NTu, out_QNTu, out_NKy, out_QNKy, out_NKo, out_QNKo, out_last, out_qlast, out_count, out_qcount, out_words, out_swm, out_awk] <;> rfl) (by simp only [dn] <;> rfl) ?_
           focus (first | exact pre_pick (by decide) (by decide) | exact ⟨_, _, rfl, hM⟩ | exact ⟨_, rfl⟩ | exact ⟨_, _, _, _, _, rfl, hs⟩ | exact ⟨_, _, _, _, _, _, rfl, hs⟩ | exact ⟨_, _, _, _, _, _, _, _, _, rfl, hs⟩ | exact ⟨_, _, _, _, _, _, _, rfl, hs, hw3⟩ | exact ⟨_, _, _, _, _, _, rfl, (by first | exact hM | exact co_fine hL hM), f1, f2⟩ | rfl | exact pre_swm (by first | exact hM.1 | exact (co_fine hL hM).1)))
        | (with_reducible refine st_ret (by simp only [dn, reduceCtorEq, hp, va_map] <;> rfl) ?_
           (first | rfl | exact ⟨_, rfl⟩)))
      | (refine qwords (by rfl) (by simp only [dn, reduceCtorEq, hp] <;> rfl) ?_ ?_ (fun cc env' he => ?_)
         focus exact (by first | assumption | (rw [co_len]; assumption))
         focus exact (by first | exact hM.1 | exact (co_fine hL hM).1)
         simp only [List.cons_append, List.nil_append] at he
         subst he)
      | (refine st_mk (by rfl) (by simp only [List.map_nil] <;> rfl) (by rfl) (by simp only [dn] <;> rfl) ?_)
      | (refine st_back (by rfl) (by simp only [dn, reduceCtorEq, hp, va_map] <;> rfl) (by simp only [dn] <;> rfl) (by rfl) ?_ ?_
         focus (rw [wrap_small (n := j + 1) (by omega) (by omega)]
                first
                  | exact ⟨_, _, _, _, _, _, _, _, _, _, _, _, _, _, _, _, _, _, _, _, _, _, _, _, _, o0, o1, o2, (.take _), _, rfl, by omega, by omega, h3, (by first | assumption | (rw [co_len]; assumption)), (by first | exact hM | exact co_fine hL hM), ⟨f1, f2⟩, hw, k0, k1, k2, ntk_ok⟩
                  | exact ⟨_, _, _, _, _, _, _, _, _, _, _, _, _, _, _, _, _, _, _, _, _, _, _, _, _, o0, o1, o2, (.give _), _, rfl, by omega, by omega, h3, (by first | assumption | (rw [co_len]; assumption)), (by first | exact hM | exact co_fine hL hM), ⟨f1, f2⟩, hw, k0, k1, k2, (ngv_ok hs)⟩
                  | exact ⟨_, _, _, _, _, _, _, _, _, _, _, _, _, _, _, _, _, _, _, _, _, _, _, _, _, o0, o1, o2, (.turn _), _, rfl, by omega, by omega, h3, (by first | assumption | (rw [co_len]; assumption)), (by first | exact hM | exact co_fine hL hM), ⟨f1, f2⟩, hw, k0, k1, k2, (ntu_ok hs)⟩
                  | exact ⟨_, _, _, _, _, _, _, _, _, _, _, _, _, _, _, _, _, _, _, _, _, _, _, _, _, o0, o1, o2, (.key _), _, rfl, by omega, by omega, h3, (by first | assumption | (rw [co_len]; assumption)), (by first | exact hM | exact co_fine hL hM), ⟨f1, f2⟩, hw, k0, k1, k2, (nky_ok hw3)⟩
                  | exact ⟨_, _, _, _, _, _, _, _, _, _, _, _, _, _, _, _, _, _, _, _, _, _, _, _, _, o0, o1, o2, (.kof _), _, rfl, by omega, by omega, h3, (by first | assumption | (rw [co_len]; assumption)), (by first | exact hM | exact co_fine hL hM), ⟨f1, f2⟩, hw, k0, k1, k2, trivial⟩
                  | exact ⟨_, _, _, _, _, _, _, _, _, _, _, _, _, _, _, _, _, _, _, _, _, _, _, _, _, o0, o1, o2, (o3.step M).1, _, rfl, by omega, by omega, h3, (by first | assumption | (rw [co_len]; assumption)), (by first | exact hM | exact co_fine hL hM), ⟨f1, f2⟩, hw, k0, k1, k2, (co_ok hL hM)⟩
                  | exact ⟨_, _, _, _, _, _, _, _, _, _, _, _, _, _, _, _, _, _, _, _, _, _, _, _, _, o0, o1, o2, o3, _, rfl, by omega, by omega, h3, (by first | assumption | (rw [co_len]; assumption)), (by first | exact hM | exact co_fine hL hM), ⟨f1, f2⟩, hw, k0, k1, k2, hL⟩)
         focus (rw [wrap_small (n := j + 1) (by omega) (by omega)]; show ((kl : Int) - (j + 1)).toNat < ((kl : Int) - j).toNat; omega))
      | fail "no step")
  · unfold tJStepsL0
    repeat' (first
      | (first
        | (with_reducible refine st_need ?_ ?_
           focus (simp only [dn, reduceCtorEq, hp, va_map] <;> first | omega | assumption))
        | (with_reducible refine st_and ?_ ?_)
        | (with_reducible exact st_ok)
        | (with_reducible refine st_br (fun hc => ?_) (fun hc => ?_) <;> (simp only [dn, reduceCtorEq, hp, va_map] at hc) <;> (try (exfalso; first | contradiction | omega)))
        | (refine st_call (by rfl) (by simp only [dn, reduceCtorEq, hp, va_map] <;> rfl) ?_ (by simp only [out_awk] <;> rfl) (by simp only [dn] <;> rfl) ?_
           focus (first | rfl))
        | (with_reducible refine st_ret (by simp only [dn, reduceCtorEq, hp, va_map] <;> rfl) ?_
           (first | rfl | exact ⟨_, rfl⟩)))
      | fail "no step")
end Go.Proofs.YtdabdbbgaekmdaaGreat
