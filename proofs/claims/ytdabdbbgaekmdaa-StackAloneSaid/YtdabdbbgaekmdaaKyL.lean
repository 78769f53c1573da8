/- Stacks: a core's step: the contracts hold. -/
import Derived.Test.YtdabdbbgaekmdaaKyT
import Derived.Test.YtdabdbbgaekmdaaSy
namespace Go.Proofs.Ytdabdbbgaekmdaa
set_option linter.unusedVariables false
set_option linter.unusedSimpArgs false
set_option linter.unusedSectionVars false
open Go Go.RowKit

/-! ### what stays as it may be -/
theorem fine_stepPo {P : PopSt} {M : MemSt} (hP : P.ok) (h : M.fine) : (stepPo P M).2.fine := by
  unfold stepPo
  split
  · exact fine_load h _
  · split
    · exact fine_load h _
    · split
      · exact fine_cas h (topW_isW hP.2.2.1 hP.2.2.2)
      · exact h
theorem fine_stepPu {P : PushSt} {M : MemSt} (hP : P.ok) (h : M.fine) : (stepPu P M).2.fine := by
  unfold stepPu
  split
  · exact fine_load h _
  · split
    · have g1 := idxW_lo P.size P.w
      have g2 := idxW_hi P.size P.w
      exact fine_store h ⟨by omega, by omega⟩
    · split
      · exact fine_cas h (topW_isW (Int.le_trans (by decide) hP.2.2.1) hP.2.2.2)
      · exact h
theorem fine_stepAl {P : AllSt} {M : MemSt} (hP : P.ok) (h : M.fine) : (stepAl P M).2.fine := by
  unfold stepAl
  split
  · exact fine_load h _
  · split
    · exact fine_cas h (topW_isW (by decide) (by decide))
    · exact h
theorem ok_stepPo {P : PopSt} {M : MemSt} (h : P.ok) (hM : M.fine) : (stepPo P M).1.ok := by
  obtain ⟨g1, g2, g3, g4⟩ := h
  unfold stepPo
  split
  · refine ⟨?_, n_load hM _, g3, g4⟩
    show ((if idxW P.size (M.load P.top).n < 0 then (9 : Int) else 2) = 1 ∨ ((if idxW P.size (M.load P.top).n < 0 then (9 : Int) else 2) = 2 ∨ (if idxW P.size (M.load P.top).n < 0 then (9 : Int) else 2) = 3) ∧ 0 ≤ idxW P.size (M.load P.top).n ∨ (if idxW P.size (M.load P.top).n < 0 then (9 : Int) else 2) = 9)
    split
    · exact .inr (.inr rfl)
    · exact .inr (.inl ⟨.inl rfl, by omega⟩)
  · split
    · refine ⟨.inr (.inl ⟨.inr rfl, by show 0 ≤ P.i; omega⟩), g2, idxW_lo _ _, idxW_hi _ _⟩
    · split
      · refine ⟨?_, g2, g3, g4⟩
        show ((if (M.cas P.top P.w (topW P.j P.w)).h = true then (9 : Int) else 1) = 1 ∨ ((if (M.cas P.top P.w (topW P.j P.w)).h = true then (9 : Int) else 1) = 2 ∨ (if (M.cas P.top P.w (topW P.j P.w)).h = true then (9 : Int) else 1) = 3) ∧ 0 ≤ P.i ∨ (if (M.cas P.top P.w (topW P.j P.w)).h = true then (9 : Int) else 1) = 9)
        split
        · exact .inr (.inr rfl)
        · exact .inl rfl
      · exact ⟨g1, g2, g3, g4⟩
theorem ok_stepPu {P : PushSt} {M : MemSt} (h : P.ok) (hM : M.fine) : (stepPu P M).1.ok := by
  obtain ⟨g1, g2, g3, g4⟩ := h
  unfold stepPu
  split
  · exact ⟨.inl ⟨.inr (.inl rfl), by show P.err = 0; omega⟩, n_load hM _, g3, g4⟩
  · split
    · exact ⟨.inl ⟨.inr (.inr rfl), by show P.err = 0; omega⟩, g2, g3, g4⟩
    · split
      · have he : P.err = 0 := by omega
        refine ⟨?_, g2, g3, g4⟩
        show ((if (M.cas P.top P.w (topW P.i P.w)).h = true then (9 : Int) else 1) = 1 ∨ (if (M.cas P.top P.w (topW P.i P.w)).h = true then (9 : Int) else 1) = 2 ∨ (if (M.cas P.top P.w (topW P.i P.w)).h = true then (9 : Int) else 1) = 3) ∧ P.err = 0 ∨ (if (M.cas P.top P.w (topW P.i P.w)).h = true then (9 : Int) else 1) = 9
        split
        · exact .inr rfl
        · exact .inl ⟨.inl rfl, he⟩
      · exact ⟨g1, g2, g3, g4⟩
theorem ok_stepAl {P : AllSt} {M : MemSt} (h : P.ok) (hM : M.fine) : (stepAl P M).1.ok := by
  obtain ⟨g1, g2⟩ := h
  unfold stepAl
  split
  · refine ⟨?_, n_load hM _⟩
    show (if idxW P.size (M.load P.top).n < 0 then (9 : Int) else 2) = 1 ∨ (if idxW P.size (M.load P.top).n < 0 then (9 : Int) else 2) = 2 ∧ 0 ≤ idxW P.size (M.load P.top).n ∨ (if idxW P.size (M.load P.top).n < 0 then (9 : Int) else 2) = 9
    split
    · exact .inr (.inr rfl)
    · exact .inr (.inl ⟨rfl, by omega⟩)
  · split
    · refine ⟨?_, g2⟩
      show (if (M.cas P.top P.w (topW (-1) P.w)).h = true then (9 : Int) else 1) = 1 ∨ (if (M.cas P.top P.w (topW (-1) P.w)).h = true then (9 : Int) else 1) = 2 ∧ 0 ≤ P.i ∨ (if (M.cas P.top P.w (topW (-1) P.w)).h = true then (9 : Int) else 1) = 9
      split
      · exact .inr (.inr rfl)
      · exact .inl rfl
    · exact ⟨g1, g2⟩
theorem isW0' : isW 0 := ⟨by decide, by decide⟩
theorem ok_newPo {t l s : Int} : (newPo t l s).ok := ⟨.inl rfl, isW0', by show (-1 : Int) ≤ 0; decide, by show (0 : Int) ≤ 65534; decide⟩
theorem ok_newPu {t l s i : Int} (h : s ≤ 65535) : (newPu t l s i).ok := by
  unfold newPu; split
  · exact ⟨.inr rfl, isW0', by show (0 : Int) ≤ 0; decide, by show (0 : Int) ≤ 65534; decide⟩
  · exact ⟨.inl ⟨.inl rfl, rfl⟩, isW0', by show (0 : Int) ≤ i; omega, by show i ≤ 65534; omega⟩
theorem ok_newAl {t l s : Int} : (newAl t l s).ok := ⟨.inl rfl, isW0'⟩
theorem out_Postep (P : PopSt) (M : MemSt) : cPoStep.out [.u (.pop P), .u (.mem M)] = [.u (.pop (stepPo P M).1), .u (.mem (stepPo P M).2), .b ((stepPo P M).1.line == 9)] := rfl
theorem out_Pustep (P : PushSt) (M : MemSt) : cPuStep.out [.u (.push P), .u (.mem M)] = [.u (.push (stepPu P M).1), .u (.mem (stepPu P M).2), .b ((stepPu P M).1.line == 9)] := rfl
theorem out_Alstep (P : AllSt) (M : MemSt) : cAlStep.out [.u (.all P), .u (.mem M)] = [.u (.all (stepAl P M).1), .u (.mem (stepAl P M).2), .b ((stepAl P M).1.line == 9)] := rfl
theorem out_poidx (P : PopSt) : cPoIndex.out [.u (.pop P)] = [.u (.pop P), .i (toldS P.line P.i).1, .i (toldS P.line P.i).2] := rfl
theorem out_puerr (P : PushSt) : cPuErr.out [.u (.push P)] = [.u (.push P), .i (errPu P)] := rfl
theorem out_alidx (P : AllSt) : cAlIndex.out [.u (.all P)] = [.u (.all P), .i (toldS P.line P.i).1, .i (toldS P.line P.i).2] := rfl
theorem nilO1 : popNilT.obj [] = U.popNil := rfl
theorem nilO2 : pushNilT.obj [] = U.pushNil := rfl
theorem nilO3 : allNilT.obj [] = U.allNil := rfl
theorem out_sameX (xs ys : List Int) (a b : Int) (c d : EV U) : cSameIntsX.out [.l xs, .l ys, .i a, c, .i b, d] = [.b (decide ((xs.take a.toNat).drop 1 = ys.take b.toNat))] := rfl
theorem len_chainLy (M : MemSt) (l s : Int) : ∀ n i, (chainL M l s n i).length ≤ n
  | 0, _ => Nat.le_refl 0
  | n + 1, i => by
    rw [chainL]; split
    · exact Nat.zero_le _
    · exact Nat.succ_le_succ (len_chainLy M l s n _)
section
variable {M : MemSt} {k : Tree} {env : List (EV U)} {X : Cx U} {R : List (EV U) → List (EV U) → Prop} {ci : Nat} {β : List Bnd} {a b n : Int}
theorem st_chainY (hc : X.cts[ci]? = some cSChain) (ha : β.map (Bnd.den env) = [.u (.mem M), .i a, .i b, .i n]) (hM : M.fine) (hn : n ≤ 4096)
    (hk : ∀ (c : List Int) (env' : List (EV U)), env ++ [.u (.mem M), .l (chainS M a b n ++ c), .i (chainS M a b n).length, .i (((chainS M a b n).length + c.length : Nat) : Int)] = env' → k.sat X R env') : (Tree.callm ci β k).sat X R env :=
  st_callm hc ha ⟨_, _, _, _, rfl, hM, hn⟩ (fun o env' ho he => by obtain ⟨c, rfl⟩ := ho; exact hk c env' he)
theorem st_rowY {i : Nat} {e x : Ex} {V vc : List Int} {y : Int} (hl : gL env i = V ++ vc) (hn : e.den env = (V.length : Int)) (hx : x.den env = y)
    (hk : ∀ (r : List Int) (env' : List (EV U)), env ++ [.l ((V ++ [y]) ++ r), .i (((V ++ [y]).length + r.length : Nat) : Int)] = env' → k.sat X R env') : (Tree.app (some i) e x k).sat X R env := by
  intro r
  refine hk r _ ?_
  simp only
  rw [hl, hn, hx, Int.toNat_natCast, List.take_left' rfl, List.length_append, List.append_assoc]
  rfl
theorem st_rowsY {i j : Nat} {e e2 : Ex} {V vc D dc : List Int} (hl : gL env i = V ++ vc) (hn : e.den env = (V.length : Int)) (hl2 : gL env j = D ++ dc) (hn2 : e2.den env = (D.length : Int))
    (hk : ∀ (r : List Int) (env' : List (EV U)), env ++ [.l ((V ++ D) ++ r), .i (((V ++ D).length + r.length : Nat) : Int)] = env' → k.sat X R env') : (Tree.appr (some i) e j e2 k).sat X R env := by
  intro r
  refine hk r _ ?_
  simp only
  rw [hl, hn, hl2, hn2, Int.toNat_natCast, Int.toNat_natCast, List.take_left' rfl, List.take_left' rfl, List.length_append]
end
end Go.Proofs.Ytdabdbbgaekmdaa
