import Derived.Test.YtdabdbbgaekmdaaGreatDcM
/- Operations of jobs: the steps of the program (printed by gen_db.py). -/
namespace Go.Proofs.YtdabdbbgaekmdaaGreat
set_option linter.unusedVariables false
set_option linter.unusedSimpArgs false
set_option linter.unusedSectionVars false
open Go Go.RowKit

theorem hctsDp : ∀ (ci : Nat) (c : Ctr U), ctsDp[ci]? = some c → c.Holds objs Tryz.prog := by
  intro ci c h
  match ci, h with
  | 0, h => cases h; exact hLoad
  | 1, h => cases h; exact hStore
  | 2, h => cases h; exact hCAS
  | 3, h => cases h; exact hGetTop
  | 4, h => cases h; exact hPuT
  | 5, h => cases h; exact hRead
  | 6, h => cases h; exact hJRd
  | 7, h => cases h; exact hLay
  | n + 8, h => cases h
theorem out_jrd (w : Int) : cJRd.out [.i w] = [.i (w % 256), .i (w / 256 % 256), .i (w / 4294967296)] := rfl
theorem out_qrd (w : Int) : cQRd.out [.i w] = [.i (w % 256), .i (w / 256 % 256), .i (w / 4294967296)] := rfl
theorem out_lay (s c g : Int) : cLay.out [.i s, .i c, .i g] = [.i (layW s c g)] := rfl
theorem out_qwd (s c g : Int) : cQWd.out [.i s, .i c, .i g] = [.i (layW s c g)] := rfl
theorem out_qIdx (a b n w : Int) : cQIdx.out [.i a, .i b, .i n, .i w] = [.i (idxW n w)] := rfl
theorem out_qTop (i w : Int) : cQTop.out [.i i, .i w] = [.i (topW i w)] := rfl
theorem gen_next {w : Int} (h : isW w) : bits .and .i64 (IntKind.i64.wrap (w / 4294967296 + 1)) 4294967295 = (w / 4294967296 + 1) % 4294967296 := by
  obtain ⟨h0, h1⟩ := h
  rw [wrap_small (n := w / 4294967296 + 1) (by omega) (by omega)]
  exact and_mod_i 32 _ (by decide) (by omega) (by omega)
theorem gen_same {w : Int} (h : isW w) : bits .and .i64 (IntKind.i64.wrap (w / 4294967296)) 4294967295 = w / 4294967296 := by
  obtain ⟨h0, h1⟩ := h
  rw [wrap_small (n := w / 4294967296) (by omega) (by omega)]
  have e : bits .and .i64 (w / 4294967296) 4294967295 = w / 4294967296 % 4294967296 := and_mod_i 32 _ (by decide) (by omega) (by omega)
  rw [e]; omega
theorem gen_nextq {w : Int} (h : isW w) : (IntKind.i64.wrap (w / 4294967296 + 1)).tmod 4294967296 = (w / 4294967296 + 1) % 4294967296 := by
  obtain ⟨h0, h1⟩ := h
  rw [wrap_small (n := w / 4294967296 + 1) (by omega) (by omega)]
  exact Int.tmod_eq_emod_of_nonneg (by omega)
section
variable {st ks t ls s i w pw pj fr to co : Int} {M : MemSt}
theorem tk0y (h : idxW s (M.load t).n < 0) : OpSt.step ⟨1, [st, ks, t, ls, s], 0, 0, 0, 1, 0, 0, 0, 0, 0, 0⟩ M = (OpSt.ended 0 7, M.load t) := by
  show (if idxW s (M.load t).n < 0 then _ else _, _) = _
  rw [if_pos h]
  try rfl
theorem tk0n (h : ¬ idxW s (M.load t).n < 0) : OpSt.step ⟨1, [st, ks, t, ls, s], 0, 0, 0, 1, 0, 0, 0, 0, 0, 0⟩ M = (⟨1, [st, ks, t, ls, s], 0, 0, 0, 2, (M.load t).n, 0, 0, 0, 0, 0⟩, M.load t) := by
  show (if idxW s (M.load t).n < 0 then _ else _, _) = _
  rw [if_neg h]
  try rfl
theorem tk3y (h : (M.cas t pw (topW pj pw)).h = true) : OpSt.step ⟨1, [st, ks, t, ls, s], 0, 0, 0, 3, pw, pj, 0, 0, 0, 0⟩ M = (⟨1, [st, ks, t, ls, s], 1, idxW s pw, 0, 0, 0, 0, 0, 0, 0, 0⟩, M.cas t pw (topW pj pw)) := by
  show (if (M.cas t pw (topW pj pw)).h = true then _ else _, _) = _
  rw [if_pos h]
  try rfl
theorem tk3n (h : (M.cas t pw (topW pj pw)).h = false) : OpSt.step ⟨1, [st, ks, t, ls, s], 0, 0, 0, 3, pw, pj, 0, 0, 0, 0⟩ M = (⟨1, [st, ks, t, ls, s], 0, 0, 0, 1, 0, 0, 0, 0, 0, 0⟩, M.cas t pw (topW pj pw)) := by
  show (if (M.cas t pw (topW pj pw)).h = true then _ else _, _) = _
  rw [if_neg (by rw [h]; decide)]
  try rfl
theorem tk1  : OpSt.step ⟨1, [st, ks, t, ls, s], 1, i, 0, 0, 0, 0, 0, 0, 0, 0⟩ M = (⟨1, [st, ks, t, ls, s], 2, i, (M.load (IntKind.i64.wrap (st + i))).n, 0, 0, 0, 0, 0, 0, 0⟩, M.load (IntKind.i64.wrap (st + i))) := by
  show (if OpSt.goes ⟨1, [st, ks, t, ls, s], 1, i, 0, 0, 0, 0, 0, 0, 0, 0⟩ (M.load (IntKind.i64.wrap (st + i))).n then _ else _, _) = _
  rw [if_pos (.inl rfl)]
  try rfl
theorem tk2y (h : (M.cas (IntKind.i64.wrap (st + i)) w (layW 2 0 ((w / 4294967296 + 1) % 4294967296))).h = true) : OpSt.step ⟨1, [st, ks, t, ls, s], 2, i, w, 0, 0, 0, 0, 0, 0, 0⟩ M = (OpSt.ended i 0, M.cas (IntKind.i64.wrap (st + i)) w (layW 2 0 ((w / 4294967296 + 1) % 4294967296))) := by
  show (if (M.cas (IntKind.i64.wrap (st + i)) w (layW 2 0 ((w / 4294967296 + 1) % 4294967296))).h = true then _ else _, _) = _
  rw [if_pos h]
  try rfl
theorem tk2n (h : (M.cas (IntKind.i64.wrap (st + i)) w (layW 2 0 ((w / 4294967296 + 1) % 4294967296))).h = false) : OpSt.step ⟨1, [st, ks, t, ls, s], 2, i, w, 0, 0, 0, 0, 0, 0, 0⟩ M = (⟨1, [st, ks, t, ls, s], 1, i, 0, 0, 0, 0, 0, 0, 0, 0⟩, M.cas (IntKind.i64.wrap (st + i)) w (layW 2 0 ((w / 4294967296 + 1) % 4294967296))) := by
  show (if (M.cas (IntKind.i64.wrap (st + i)) w (layW 2 0 ((w / 4294967296 + 1) % 4294967296))).h = true then _ else _, _) = _
  rw [if_neg (by rw [h]; decide)]
  try rfl
theorem gv2y (h : (M.cas (IntKind.i64.wrap (st + i)) w (layW 1 0 (w / 4294967296))).h = true) : OpSt.step ⟨2, [st, ks, t, ls, s], 2, i, w, 0, 0, 0, 0, 0, 0, 0⟩ M = (⟨2, [st, ks, t, ls, s], 3, i, 0, 1, 0, 0, 0, 0, 0, 0⟩, M.cas (IntKind.i64.wrap (st + i)) w (layW 1 0 (w / 4294967296))) := by
  show (if (M.cas (IntKind.i64.wrap (st + i)) w (layW 1 0 (w / 4294967296))).h = true then _ else _, _) = _
  rw [if_pos h]
  try rfl
theorem gv2n (h : (M.cas (IntKind.i64.wrap (st + i)) w (layW 1 0 (w / 4294967296))).h = false) : OpSt.step ⟨2, [st, ks, t, ls, s], 2, i, w, 0, 0, 0, 0, 0, 0, 0⟩ M = (⟨2, [st, ks, t, ls, s], 1, i, 0, 0, 0, 0, 0, 0, 0, 0⟩, M.cas (IntKind.i64.wrap (st + i)) w (layW 1 0 (w / 4294967296))) := by
  show (if (M.cas (IntKind.i64.wrap (st + i)) w (layW 1 0 (w / 4294967296))).h = true then _ else _, _) = _
  rw [if_neg (by rw [h]; decide)]
  try rfl
theorem gv1y (h : (M.load (IntKind.i64.wrap (st + i))).n % 256 = 5 ∨ (M.load (IntKind.i64.wrap (st + i))).n % 256 = 2) : OpSt.step ⟨2, [st, ks, t, ls, s], 1, i, 0, 0, 0, 0, 0, 0, 0, 0⟩ M = (⟨2, [st, ks, t, ls, s], 2, i, (M.load (IntKind.i64.wrap (st + i))).n, 0, 0, 0, 0, 0, 0, 0⟩, M.load (IntKind.i64.wrap (st + i))) := by
  show (if OpSt.goes ⟨2, [st, ks, t, ls, s], 1, i, 0, 0, 0, 0, 0, 0, 0, 0⟩ (M.load (IntKind.i64.wrap (st + i))).n then _ else _, _) = _
  rw [if_pos (.inr (.inl ⟨rfl, h⟩))]
  try rfl
theorem gv1n (h : ¬ (M.load (IntKind.i64.wrap (st + i))).n % 256 = 5) (h1 : ¬ (M.load (IntKind.i64.wrap (st + i))).n % 256 = 2) : OpSt.step ⟨2, [st, ks, t, ls, s], 1, i, 0, 0, 0, 0, 0, 0, 0, 0⟩ M = (OpSt.ended 0 11, M.load (IntKind.i64.wrap (st + i))) := by
  show (if OpSt.goes ⟨2, [st, ks, t, ls, s], 1, i, 0, 0, 0, 0, 0, 0, 0, 0⟩ (M.load (IntKind.i64.wrap (st + i))).n then _ else _, _) = _
  rw [if_neg (by rintro (e | ⟨_, e | e⟩ | ⟨e, _⟩); exact absurd e (by show ¬ (2 : Int) = 1; decide); exact h e; exact h1 e; exact absurd e (by show ¬ (2 : Int) = 3; decide))]
  try rfl
theorem gv3y (h : (M.cas t pw (topW i pw)).h = true) : OpSt.step ⟨2, [st, ks, t, ls, s], 3, i, 0, 3, pw, 0, 0, 0, 0, 0⟩ M = (OpSt.ended i 0, M.cas t pw (topW i pw)) := by
  show (if (M.cas t pw (topW i pw)).h = true then _ else _, _) = _
  rw [if_pos h]
  try rfl
theorem gv3n (h : (M.cas t pw (topW i pw)).h = false) : OpSt.step ⟨2, [st, ks, t, ls, s], 3, i, 0, 3, pw, 0, 0, 0, 0, 0⟩ M = (⟨2, [st, ks, t, ls, s], 3, i, 0, 1, 0, 0, 0, 0, 0, 0⟩, M.cas t pw (topW i pw)) := by
  show (if (M.cas t pw (topW i pw)).h = true then _ else _, _) = _
  rw [if_neg (by rw [h]; decide)]
  try rfl
theorem tu1y (h : (M.load (IntKind.i64.wrap (st + i))).n % 256 = fr) (h1 : (M.load (IntKind.i64.wrap (st + i))).n % 256 = 4 → (M.load (IntKind.i64.wrap (st + i))).n / 256 % 256 = co) : OpSt.step ⟨3, [st, ks, t, ls, s], 1, i, 0, 0, 0, 0, fr, to, co, 0⟩ M = (⟨3, [st, ks, t, ls, s], 2, i, (M.load (IntKind.i64.wrap (st + i))).n, 0, 0, 0, fr, to, co, 0⟩, M.load (IntKind.i64.wrap (st + i))) := by
  show (if OpSt.goes ⟨3, [st, ks, t, ls, s], 1, i, 0, 0, 0, 0, fr, to, co, 0⟩ (M.load (IntKind.i64.wrap (st + i))).n then _ else _, _) = _
  rw [if_pos (.inr (.inr ⟨rfl, h, h1⟩))]
  try rfl
theorem tu1n (h : ¬ (M.load (IntKind.i64.wrap (st + i))).n % 256 = fr) : OpSt.step ⟨3, [st, ks, t, ls, s], 1, i, 0, 0, 0, 0, fr, to, co, 0⟩ M = (OpSt.ended 0 11, M.load (IntKind.i64.wrap (st + i))) := by
  show (if OpSt.goes ⟨3, [st, ks, t, ls, s], 1, i, 0, 0, 0, 0, fr, to, co, 0⟩ (M.load (IntKind.i64.wrap (st + i))).n then _ else _, _) = _
  rw [if_neg (by rintro (e | ⟨e, _⟩ | ⟨_, e, _⟩); exact absurd e (by show ¬ (3 : Int) = 1; decide); exact absurd e (by show ¬ (3 : Int) = 2; decide); exact h e)]
  try rfl
theorem tu1m (h : (M.load (IntKind.i64.wrap (st + i))).n % 256 = 4) (h1 : ¬ (M.load (IntKind.i64.wrap (st + i))).n / 256 % 256 = co) : OpSt.step ⟨3, [st, ks, t, ls, s], 1, i, 0, 0, 0, 0, fr, to, co, 0⟩ M = (OpSt.ended 0 11, M.load (IntKind.i64.wrap (st + i))) := by
  show (if OpSt.goes ⟨3, [st, ks, t, ls, s], 1, i, 0, 0, 0, 0, fr, to, co, 0⟩ (M.load (IntKind.i64.wrap (st + i))).n then _ else _, _) = _
  rw [if_neg (by rintro (e | ⟨e, _⟩ | ⟨_, _, e⟩); exact absurd e (by show ¬ (3 : Int) = 1; decide); exact absurd e (by show ¬ (3 : Int) = 2; decide); exact h1 (e h))]
  try rfl
theorem tu24y (ht : to = 4) (h : (M.cas (IntKind.i64.wrap (st + i)) w (layW to co (w / 4294967296))).h = true) : OpSt.step ⟨3, [st, ks, t, ls, s], 2, i, w, 0, 0, 0, fr, to, co, 0⟩ M = (OpSt.ended i 0, M.cas (IntKind.i64.wrap (st + i)) w (layW to co (w / 4294967296))) := by
  have e : OpSt.next ⟨3, [st, ks, t, ls, s], 2, i, w, 0, 0, 0, fr, to, co, 0⟩ = layW to co (w / 4294967296) := by
    show layW to (if to = 4 then co else 0) _ = _
    rw [if_pos ht]
  show (if (M.cas (IntKind.i64.wrap (st + i)) w (OpSt.next ⟨3, [st, ks, t, ls, s], 2, i, w, 0, 0, 0, fr, to, co, 0⟩)).h = true then _ else _, M.cas (IntKind.i64.wrap (st + i)) w (OpSt.next ⟨3, [st, ks, t, ls, s], 2, i, w, 0, 0, 0, fr, to, co, 0⟩)) = _
  rw [e, if_pos h]
  try rfl
theorem tu24n (ht : to = 4) (h : (M.cas (IntKind.i64.wrap (st + i)) w (layW to co (w / 4294967296))).h = false) : OpSt.step ⟨3, [st, ks, t, ls, s], 2, i, w, 0, 0, 0, fr, to, co, 0⟩ M = (⟨3, [st, ks, t, ls, s], 1, i, 0, 0, 0, 0, fr, to, co, 0⟩, M.cas (IntKind.i64.wrap (st + i)) w (layW to co (w / 4294967296))) := by
  have e : OpSt.next ⟨3, [st, ks, t, ls, s], 2, i, w, 0, 0, 0, fr, to, co, 0⟩ = layW to co (w / 4294967296) := by
    show layW to (if to = 4 then co else 0) _ = _
    rw [if_pos ht]
  show (if (M.cas (IntKind.i64.wrap (st + i)) w (OpSt.next ⟨3, [st, ks, t, ls, s], 2, i, w, 0, 0, 0, fr, to, co, 0⟩)).h = true then _ else _, M.cas (IntKind.i64.wrap (st + i)) w (OpSt.next ⟨3, [st, ks, t, ls, s], 2, i, w, 0, 0, 0, fr, to, co, 0⟩)) = _
  rw [e, if_neg (by rw [h]; decide)]
  try rfl
theorem tu20y (ht : ¬ to = 4) (h : (M.cas (IntKind.i64.wrap (st + i)) w (layW to 0 (w / 4294967296))).h = true) : OpSt.step ⟨3, [st, ks, t, ls, s], 2, i, w, 0, 0, 0, fr, to, co, 0⟩ M = (OpSt.ended i 0, M.cas (IntKind.i64.wrap (st + i)) w (layW to 0 (w / 4294967296))) := by
  have e : OpSt.next ⟨3, [st, ks, t, ls, s], 2, i, w, 0, 0, 0, fr, to, co, 0⟩ = layW to 0 (w / 4294967296) := by
    show layW to (if to = 4 then co else 0) _ = _
    rw [if_neg ht]
  show (if (M.cas (IntKind.i64.wrap (st + i)) w (OpSt.next ⟨3, [st, ks, t, ls, s], 2, i, w, 0, 0, 0, fr, to, co, 0⟩)).h = true then _ else _, M.cas (IntKind.i64.wrap (st + i)) w (OpSt.next ⟨3, [st, ks, t, ls, s], 2, i, w, 0, 0, 0, fr, to, co, 0⟩)) = _
  rw [e, if_pos h]
  try rfl
theorem tu20n (ht : ¬ to = 4) (h : (M.cas (IntKind.i64.wrap (st + i)) w (layW to 0 (w / 4294967296))).h = false) : OpSt.step ⟨3, [st, ks, t, ls, s], 2, i, w, 0, 0, 0, fr, to, co, 0⟩ M = (⟨3, [st, ks, t, ls, s], 1, i, 0, 0, 0, 0, fr, to, co, 0⟩, M.cas (IntKind.i64.wrap (st + i)) w (layW to 0 (w / 4294967296))) := by
  have e : OpSt.next ⟨3, [st, ks, t, ls, s], 2, i, w, 0, 0, 0, fr, to, co, 0⟩ = layW to 0 (w / 4294967296) := by
    show layW to (if to = 4 then co else 0) _ = _
    rw [if_neg ht]
  show (if (M.cas (IntKind.i64.wrap (st + i)) w (OpSt.next ⟨3, [st, ks, t, ls, s], 2, i, w, 0, 0, 0, fr, to, co, 0⟩)).h = true then _ else _, M.cas (IntKind.i64.wrap (st + i)) w (OpSt.next ⟨3, [st, ks, t, ls, s], 2, i, w, 0, 0, 0, fr, to, co, 0⟩)) = _
  rw [e, if_neg (by rw [h]; decide)]
  try rfl
end
set_option maxRecDepth 10000
set_option maxHeartbeats 16000000 in
theorem vTkStep (P : Program) (hs : List (Nat × Nat × List Nat)) : ∀ ins, ins.length = cTkStep.nin → cTkStep.pre ins → tTkStep.sat { cxDp P with hints := hs } (ctrR cTkStep) ins := by
  rintro ins _ ⟨F, M, rfl, hM⟩
  unfold tTkStep
  refine st_and (st_opn (T := takA) (by rfl) ?_) (st_and (st_opn (T := takP1) (by rfl) ?_) (st_and (st_opn (T := takP2) (by rfl) ?_) (st_and (st_opn (T := takP3) (by rfl) ?_) (st_and (st_opn (T := takL) (by rfl) ?_) (st_and (st_opn (T := takS) (by rfl) ?_) (st_and (st_opn (T := takE1) (by rfl) ?_) (st_and (st_opn (T := takE2) (by rfl) ?_) (nomore_take))))))))
  (rintro ps hl ⟨st, ks, t, ls, s, rfl, g1, g2⟩ he
   simp only [List.getElem?_cons_zero, takA, takAObj, Option.some.injEq, EV.u.injEq, U.take.injEq] at he
   subst he
   simp only [List.cons_append, List.nil_append]
   have hTg : True := trivial
   have hG : True := trivial
   skip)
  rotate_left
  (rintro ps hl ⟨st, ks, t, ls, s, pw, pi, pj, rfl, g1, g2, hpw⟩ he
   simp only [List.getElem?_cons_zero, takP1, takP1Obj, Option.some.injEq, EV.u.injEq, U.take.injEq] at he
   subst he
   simp only [List.cons_append, List.nil_append]
   have hTg : True := trivial
   have hG : True := trivial
   skip)
  rotate_left
  (rintro ps hl ⟨st, ks, t, ls, s, pw, pi, pj, rfl, g1, g2, hpw, rfl, hpi⟩ he
   simp only [List.getElem?_cons_zero, takP2, takP2Obj, Option.some.injEq, EV.u.injEq, U.take.injEq] at he
   subst he
   simp only [List.cons_append, List.nil_append]
   have hTg : True := trivial
   have hG : True := trivial
   skip)
  rotate_left
  (rintro ps hl ⟨st, ks, t, ls, s, pw, pi, pj, rfl, g1, g2, hpw, rfl, hpi, hj1, hj2⟩ he
   simp only [List.getElem?_cons_zero, takP3, takP3Obj, Option.some.injEq, EV.u.injEq, U.take.injEq] at he
   subst he
   simp only [List.cons_append, List.nil_append]
   have hTg := tag_next' hpw
   have hG : True := trivial
   skip)
  rotate_left
  (rintro ps hl ⟨st, ks, t, ls, s, i, w, pw, pi, pj, rfl, g1, g2, g3, hw⟩ he
   simp only [List.getElem?_cons_zero, takL, takLObj, Option.some.injEq, EV.u.injEq, U.take.injEq] at he
   subst he
   simp only [List.cons_append, List.nil_append]
   have hTg : True := trivial
   have hG : True := trivial
   skip)
  rotate_left
  (rintro ps hl ⟨st, ks, t, ls, s, i, w, pw, pi, pj, rfl, g1, g2, g3, hw⟩ he
   simp only [List.getElem?_cons_zero, takS, takSObj, Option.some.injEq, EV.u.injEq, U.take.injEq] at he
   subst he
   simp only [List.cons_append, List.nil_append]
   have hG := gen_next hw
   have hTg : True := trivial
   skip)
  rotate_left
  (rintro ps hl ⟨st, ks, t, ls, s, i, w, e, pw, pi, pj, rfl, hne⟩ he
   simp only [List.getElem?_cons_zero, takE1, takE1Obj, Option.some.injEq, EV.u.injEq, U.take.injEq] at he
   subst he
   simp only [List.cons_append, List.nil_append]
   have hTg : True := trivial
   have hG : True := trivial
   skip)
  rotate_left
  (rintro ps hl ⟨st, ks, t, ls, s, i, w, pw, pi, pj, rfl, _⟩ he
   simp only [List.getElem?_cons_zero, takE2, takE2Obj, Option.some.injEq, EV.u.injEq, U.take.injEq] at he
   subst he
   simp only [List.cons_append, List.nil_append]
   have hTg : True := trivial
   have hG : True := trivial
   skip)
  rotate_left
  all_goals
    repeat' (first
      | (first
        | (with_reducible refine st_need ?_ ?_
           focus (simp only [dn, reduceCtorEq, hTg, hG, va_map, Int.zero_mul, Int.add_zero] <;> first | omega | assumption))
        | (with_reducible refine st_and ?_ ?_)
        | (with_reducible exact st_ok)
        | (with_reducible refine st_br (fun hc => ?_) (fun hc => ?_) <;> (simp only [dn, reduceCtorEq, hTg, hG, va_map, Int.zero_mul, Int.add_zero] at hc) <;> (try (exfalso; first | contradiction | omega)))
        | (refine st_call (by rfl) (by simp only [dn, reduceCtorEq, hTg, hG, va_map, Int.zero_mul, Int.add_zero] <;> rfl) ?_ (by simp only [out_load, out_store, out_cas, out_getTop, out_puT, out_read, out_jrd, out_lay] <;> rfl) (by simp only [dn] <;> rfl) ?_
           focus (first | exact ⟨_, _, rfl⟩ | exact ⟨_, _, rfl, (idxW_lo' _ _).1, (idxW_lo' _ _).2, by omega, by omega⟩ | exact ⟨_, _, _, rfl⟩ | exact ⟨_, _, _, _, rfl⟩ | exact ⟨_, rfl, hw⟩ | exact ⟨_, rfl, hpw⟩ | exact ⟨_, rfl, n_load hM _⟩ | exact ⟨_, _, _, _, rfl, n_load hM _⟩ | exact pre_puT (by first | omega | exact (idxW_lo' _ _).1) (by first | omega | exact (idxW_lo' _ _).2) | exact ⟨_, _, _, rfl, by omega, by omega, by omega, by omega, by first | omega | (have h9 := hw.1; omega), by first | omega | (have h9 := hw.2; omega)⟩)))
      | (refine st_mk (by rfl) (by simp only [dn, reduceCtorEq, hTg, hG, va_map] <;> rfl) ?_ (by simp only [dn] <;> rfl) ?_
         focus
           (first | refine ⟨_, _, _, _, _, rfl, ?_⟩ | refine ⟨_, _, _, _, _, _, _, _, rfl, ?_⟩ | refine ⟨_, _, _, _, _, _, _, _, _, _, rfl, ?_⟩ | refine ⟨_, _, _, _, _, _, _, _, _, _, _, rfl, ?_⟩); (repeat' with_reducible apply And.intro) <;> first | rfl | assumption | exact n_load hM _ | exact isWd0 | omega | exact (idxW_lo' _ _).1 | exact (idxW_lo' _ _).2 | exact idxW_hi (by omega) _ | trivial | (exact .inl rfl))
      | (refine st_ret (by simp only [dn, reduceCtorEq, va_map] <;> rfl) ?_
         show _ = [EV.u (U.take (OpSt.step _ M).1), .u (.mem (OpSt.step _ M).2), .b ((OpSt.step _ M).1.line == 9)]
         first
           | rfl
           | (rw [tk0y (by assumption)]; rfl)
           | (rw [tk3y (by assumption)]; rfl)
           | (rw [tk3n (by assumption)]; rfl)
           | (rw [tk2y (by assumption)]; rfl)
           | (rw [tk2n (by assumption)]; rfl)
           | (rw [gv2y (by assumption)]; rfl)
           | (rw [gv2n (by assumption)]; rfl)
           | (rw [gv3y (by assumption)]; rfl)
           | (rw [gv3n (by assumption)]; rfl)
           | (rw [tu1n (by assumption)]; rfl)
           | (rw [tk0n (by omega)]; rfl)
           | (rw [tk1]; rfl)
           | (rw [gv1y (.inl (by assumption))]; rfl)
           | (rw [gv1y (.inr (by assumption))]; rfl)
           | (rw [gv1n (by assumption) (by assumption)]; rfl)
           | (rw [tu1y (by assumption) (fun e => absurd e (by assumption))]; rfl)
           | (rw [tu1y (by assumption) (fun _ => by assumption)]; rfl)
           | (rw [tu1m (by assumption) (by assumption)]; rfl)
           | (rw [tu24y (by assumption) (by assumption)]; rfl)
           | (rw [tu24n (by assumption) (by assumption)]; rfl)
           | (rw [tu20y (by omega) (by assumption)]; rfl)
           | (rw [tu20n (by omega) (by assumption)]; rfl))
      | fail "no step")
theorem hTkStep : cTkStep.Holds objs Tryz.prog := runCtr_holds (X := { cxDp Tryz.prog with hints := hsTkStep }) objsOk mixed hctsDp (callable _ Tryz.func69 (by kernel_rfl) (by kernel_rfl)) (by rintro ins _ ⟨_, _, rfl, _⟩; rfl) (by rw [rTkStep]; exact vTkStep _ _)
set_option maxHeartbeats 16000000 in
theorem vGvStep (P : Program) (hs : List (Nat × Nat × List Nat)) : ∀ ins, ins.length = cGvStep.nin → cGvStep.pre ins → tGvStep.sat { cxDp P with hints := hs } (ctrR cGvStep) ins := by
  rintro ins _ ⟨F, M, rfl, hM⟩
  unfold tGvStep
  refine st_and (st_opn (T := givA) (by rfl) ?_) (st_and (st_opn (T := givL) (by rfl) ?_) (st_and (st_opn (T := givS) (by rfl) ?_) (st_and (st_opn (T := givP1) (by rfl) ?_) (st_and (st_opn (T := givP2) (by rfl) ?_) (st_and (st_opn (T := givP3) (by rfl) ?_) (st_and (st_opn (T := givE1) (by rfl) ?_) (st_and (st_opn (T := givE2) (by rfl) ?_) (st_and (st_opn (T := givR) (by rfl) ?_) (nomore_give)))))))))
  (rintro ps hl ⟨st, ks, t, ls, s, i, rfl, g1, g2, g3⟩ he
   simp only [List.getElem?_cons_zero, givA, givAObj, Option.some.injEq, EV.u.injEq, U.give.injEq] at he
   subst he
   simp only [List.cons_append, List.nil_append]
   have hTg : True := trivial
   have hG : True := trivial
   skip)
  rotate_left
  (rintro ps hl ⟨st, ks, t, ls, s, i, w, rfl, g1, g2, g3, hw⟩ he
   simp only [List.getElem?_cons_zero, givL, givLObj, Option.some.injEq, EV.u.injEq, U.give.injEq] at he
   subst he
   simp only [List.cons_append, List.nil_append]
   have hTg : True := trivial
   have hG : True := trivial
   skip)
  rotate_left
  (rintro ps hl ⟨st, ks, t, ls, s, i, w, rfl, g1, g2, g3, hw⟩ he
   simp only [List.getElem?_cons_zero, givS, givSObj, Option.some.injEq, EV.u.injEq, U.give.injEq] at he
   subst he
   simp only [List.cons_append, List.nil_append]
   have hG := gen_same hw
   have hTg : True := trivial
   skip)
  rotate_left
  (rintro ps hl ⟨st, ks, t, ls, s, i, w, pw, pj, rfl, g1, g2, g3, hpw⟩ he
   simp only [List.getElem?_cons_zero, givP1, givP1Obj, Option.some.injEq, EV.u.injEq, U.give.injEq] at he
   subst he
   simp only [List.cons_append, List.nil_append]
   have hTg : True := trivial
   have hG : True := trivial
   skip)
  rotate_left
  (rintro ps hl ⟨st, ks, t, ls, s, i, w, pw, pj, rfl, g1, g2, g3, hpw, rfl⟩ he
   simp only [List.getElem?_cons_zero, givP2, givP2Obj, Option.some.injEq, EV.u.injEq, U.give.injEq] at he
   subst he
   simp only [List.cons_append, List.nil_append]
   have hTg : True := trivial
   have hG : True := trivial
   skip)
  rotate_left
  (rintro ps hl ⟨st, ks, t, ls, s, i, w, pw, pj, rfl, g1, g2, g3, hpw⟩ he
   simp only [List.getElem?_cons_zero, givP3, givP3Obj, Option.some.injEq, EV.u.injEq, U.give.injEq] at he
   subst he
   simp only [List.cons_append, List.nil_append]
   have hTg := tag_next' hpw
   have hG : True := trivial
   skip)
  rotate_left
  (rintro ps hl ⟨st, ks, t, ls, s, i, w, e, rfl, hne⟩ he
   simp only [List.getElem?_cons_zero, givE1, givE1Obj, Option.some.injEq, EV.u.injEq, U.give.injEq] at he
   subst he
   simp only [List.cons_append, List.nil_append]
   have hTg : True := trivial
   have hG : True := trivial
   skip)
  rotate_left
  (rintro ps hl ⟨st, ks, t, ls, s, i, w, pw, pj, rfl, _⟩ he
   simp only [List.getElem?_cons_zero, givE2, givE2Obj, Option.some.injEq, EV.u.injEq, U.give.injEq] at he
   subst he
   simp only [List.cons_append, List.nil_append]
   have hTg : True := trivial
   have hG : True := trivial
   skip)
  rotate_left
  (rintro ps hl ⟨st, ks, t, ls, s, i, e, rfl, hne⟩ he
   simp only [List.getElem?_cons_zero, givR, givRObj, Option.some.injEq, EV.u.injEq, U.give.injEq] at he
   subst he
   simp only [List.cons_append, List.nil_append]
   have hTg : True := trivial
   have hG : True := trivial
   skip)
  rotate_left
  all_goals
    repeat' (first
      | (first
        | (with_reducible refine st_need ?_ ?_
           focus (simp only [dn, reduceCtorEq, hTg, hG, va_map, Int.zero_mul, Int.add_zero] <;> first | omega | assumption))
        | (with_reducible refine st_and ?_ ?_)
        | (with_reducible exact st_ok)
        | (with_reducible refine st_br (fun hc => ?_) (fun hc => ?_) <;> (simp only [dn, reduceCtorEq, hTg, hG, va_map, Int.zero_mul, Int.add_zero] at hc) <;> (try (exfalso; first | contradiction | omega)))
        | (refine st_call (by rfl) (by simp only [dn, reduceCtorEq, hTg, hG, va_map, Int.zero_mul, Int.add_zero] <;> rfl) ?_ (by simp only [out_load, out_store, out_cas, out_getTop, out_puT, out_read, out_jrd, out_lay] <;> rfl) (by simp only [dn] <;> rfl) ?_
           focus (first | exact ⟨_, _, rfl⟩ | exact ⟨_, _, rfl, (idxW_lo' _ _).1, (idxW_lo' _ _).2, by omega, by omega⟩ | exact ⟨_, _, _, rfl⟩ | exact ⟨_, _, _, _, rfl⟩ | exact ⟨_, rfl, hw⟩ | exact ⟨_, rfl, hpw⟩ | exact ⟨_, rfl, n_load hM _⟩ | exact ⟨_, _, _, _, rfl, n_load hM _⟩ | exact pre_puT (by first | omega | exact (idxW_lo' _ _).1) (by first | omega | exact (idxW_lo' _ _).2) | exact ⟨_, _, _, rfl, by omega, by omega, by omega, by omega, by first | omega | (have h9 := hw.1; omega), by first | omega | (have h9 := hw.2; omega)⟩)))
      | (refine st_mk (by rfl) (by simp only [dn, reduceCtorEq, hTg, hG, va_map] <;> rfl) ?_ (by simp only [dn] <;> rfl) ?_
         focus
           (first | refine ⟨_, _, _, _, _, _, rfl, ?_⟩ | refine ⟨_, _, _, _, _, _, _, rfl, ?_⟩ | refine ⟨_, _, _, _, _, _, _, _, rfl, ?_⟩ | refine ⟨_, _, _, _, _, _, _, _, _, rfl, ?_⟩); (repeat' with_reducible apply And.intro) <;> first | rfl | assumption | exact n_load hM _ | exact isWd0 | omega | exact (idxW_lo' _ _).1 | exact (idxW_lo' _ _).2 | exact idxW_hi (by omega) _ | trivial | (exact .inl rfl))
      | (refine st_ret (by simp only [dn, reduceCtorEq, va_map] <;> rfl) ?_
         show _ = [EV.u (U.give (OpSt.step _ M).1), .u (.mem (OpSt.step _ M).2), .b ((OpSt.step _ M).1.line == 9)]
         first
           | rfl
           | (rw [tk0y (by assumption)]; rfl)
           | (rw [tk3y (by assumption)]; rfl)
           | (rw [tk3n (by assumption)]; rfl)
           | (rw [tk2y (by assumption)]; rfl)
           | (rw [tk2n (by assumption)]; rfl)
           | (rw [gv2y (by assumption)]; rfl)
           | (rw [gv2n (by assumption)]; rfl)
           | (rw [gv3y (by assumption)]; rfl)
           | (rw [gv3n (by assumption)]; rfl)
           | (rw [tu1n (by assumption)]; rfl)
           | (rw [tk0n (by omega)]; rfl)
           | (rw [tk1]; rfl)
           | (rw [gv1y (.inl (by assumption))]; rfl)
           | (rw [gv1y (.inr (by assumption))]; rfl)
           | (rw [gv1n (by assumption) (by assumption)]; rfl)
           | (rw [tu1y (by assumption) (fun e => absurd e (by assumption))]; rfl)
           | (rw [tu1y (by assumption) (fun _ => by assumption)]; rfl)
           | (rw [tu1m (by assumption) (by assumption)]; rfl)
           | (rw [tu24y (by assumption) (by assumption)]; rfl)
           | (rw [tu24n (by assumption) (by assumption)]; rfl)
           | (rw [tu20y (by omega) (by assumption)]; rfl)
           | (rw [tu20n (by omega) (by assumption)]; rfl))
      | fail "no step")
theorem hGvStep : cGvStep.Holds objs Tryz.prog := runCtr_holds (X := { cxDp Tryz.prog with hints := hsGvStep }) objsOk mixed hctsDp (callable _ Tryz.func35 (by kernel_rfl) (by kernel_rfl)) (by rintro ins _ ⟨_, _, rfl, _⟩; rfl) (by rw [rGvStep]; exact vGvStep _ _)
set_option maxHeartbeats 16000000 in
theorem vTuStep (P : Program) (hs : List (Nat × Nat × List Nat)) : ∀ ins, ins.length = cTuStep.nin → cTuStep.pre ins → tTuStep.sat { cxDp P with hints := hs } (ctrR cTuStep) ins := by
  rintro ins _ ⟨F, M, rfl, hM⟩
  unfold tTuStep
  refine st_and (st_opn (T := turA) (by rfl) ?_) (st_and (st_opn (T := turL) (by rfl) ?_) (st_and (st_opn (T := turS) (by rfl) ?_) (st_and (st_opn (T := turE) (by rfl) ?_) (nomore_turn))))
  (rintro ps hl ⟨st, ks, t, ls, s, i, fr, to, co, rfl, g1, g2, g3, g4, g5, g6⟩ he
   simp only [List.getElem?_cons_zero, turA, turAObj, Option.some.injEq, EV.u.injEq, U.turn.injEq] at he
   subst he
   simp only [List.cons_append, List.nil_append]
   have hTg : True := trivial
   have hG : True := trivial
   have hr := may_rng g4
   skip)
  rotate_left
  (rintro ps hl ⟨st, ks, t, ls, s, i, w, fr, to, co, rfl, g1, g2, g3, g4, g5, g6, hw⟩ he
   simp only [List.getElem?_cons_zero, turL, turLObj, Option.some.injEq, EV.u.injEq, U.turn.injEq] at he
   subst he
   simp only [List.cons_append, List.nil_append]
   have hTg : True := trivial
   have hG : True := trivial
   have hr := may_rng g4
   skip)
  rotate_left
  (rintro ps hl ⟨st, ks, t, ls, s, i, w, fr, to, co, rfl, g1, g2, g3, g4, g5, g6, hw⟩ he
   simp only [List.getElem?_cons_zero, turS, turSObj, Option.some.injEq, EV.u.injEq, U.turn.injEq] at he
   subst he
   simp only [List.cons_append, List.nil_append]
   have hG := gen_same hw
   have hTg : True := trivial
   have hr := may_rng g4
   skip)
  rotate_left
  (rintro ps hl ⟨st, ks, t, ls, s, i, w, e, fr, to, co, rfl, _⟩ he
   simp only [List.getElem?_cons_zero, turE, turEObj, Option.some.injEq, EV.u.injEq, U.turn.injEq] at he
   subst he
   simp only [List.cons_append, List.nil_append]
   have hTg : True := trivial
   have hG : True := trivial
   skip)
  rotate_left
  all_goals
    repeat' (first
      | (first
        | (with_reducible refine st_need ?_ ?_
           focus (simp only [dn, reduceCtorEq, hTg, hG, va_map, Int.zero_mul, Int.add_zero] <;> first | omega | assumption))
        | (with_reducible refine st_and ?_ ?_)
        | (with_reducible exact st_ok)
        | (with_reducible refine st_br (fun hc => ?_) (fun hc => ?_) <;> (simp only [dn, reduceCtorEq, hTg, hG, va_map, Int.zero_mul, Int.add_zero] at hc) <;> (try (exfalso; first | contradiction | omega)))
        | (refine st_call (by rfl) (by simp only [dn, reduceCtorEq, hTg, hG, va_map, Int.zero_mul, Int.add_zero] <;> rfl) ?_ (by simp only [out_load, out_store, out_cas, out_getTop, out_puT, out_read, out_jrd, out_lay] <;> rfl) (by simp only [dn] <;> rfl) ?_
           focus (first | exact ⟨_, _, rfl⟩ | exact ⟨_, _, rfl, (idxW_lo' _ _).1, (idxW_lo' _ _).2, by omega, by omega⟩ | exact ⟨_, _, _, rfl⟩ | exact ⟨_, _, _, _, rfl⟩ | exact ⟨_, rfl, hw⟩ | exact ⟨_, rfl, hpw⟩ | exact ⟨_, rfl, n_load hM _⟩ | exact ⟨_, _, _, _, rfl, n_load hM _⟩ | exact pre_puT (by first | omega | exact (idxW_lo' _ _).1) (by first | omega | exact (idxW_lo' _ _).2) | exact ⟨_, _, _, rfl, by omega, by omega, by omega, by omega, by first | omega | (have h9 := hw.1; omega), by first | omega | (have h9 := hw.2; omega)⟩)))
      | (refine st_mk (by rfl) (by simp only [dn, reduceCtorEq, hTg, hG, va_map] <;> rfl) ?_ (by simp only [dn] <;> rfl) ?_
         focus
           (first | refine ⟨_, _, _, _, _, _, _, _, _, rfl, ?_⟩ | refine ⟨_, _, _, _, _, _, _, _, _, _, rfl, ?_⟩ | refine ⟨_, _, _, _, _, _, _, _, _, _, _, rfl, ?_⟩); (repeat' with_reducible apply And.intro) <;> first | rfl | assumption | exact n_load hM _ | exact isWd0 | omega | exact (idxW_lo' _ _).1 | exact (idxW_lo' _ _).2 | exact idxW_hi (by omega) _ | trivial | (exact .inl rfl))
      | (refine st_ret (by simp only [dn, reduceCtorEq, va_map] <;> rfl) ?_
         show _ = [EV.u (U.turn (OpSt.step _ M).1), .u (.mem (OpSt.step _ M).2), .b ((OpSt.step _ M).1.line == 9)]
         first
           | rfl
           | (rw [tk0y (by assumption)]; rfl)
           | (rw [tk3y (by assumption)]; rfl)
           | (rw [tk3n (by assumption)]; rfl)
           | (rw [tk2y (by assumption)]; rfl)
           | (rw [tk2n (by assumption)]; rfl)
           | (rw [gv2y (by assumption)]; rfl)
           | (rw [gv2n (by assumption)]; rfl)
           | (rw [gv3y (by assumption)]; rfl)
           | (rw [gv3n (by assumption)]; rfl)
           | (rw [tu1n (by assumption)]; rfl)
           | (rw [tk0n (by omega)]; rfl)
           | (rw [tk1]; rfl)
           | (rw [gv1y (.inl (by assumption))]; rfl)
           | (rw [gv1y (.inr (by assumption))]; rfl)
           | (rw [gv1n (by assumption) (by assumption)]; rfl)
           | (rw [tu1y (by assumption) (fun e => absurd e (by assumption))]; rfl)
           | (rw [tu1y (by assumption) (fun _ => by assumption)]; rfl)
           | (rw [tu1m (by assumption) (by assumption)]; rfl)
           | (rw [tu24y (by assumption) (by assumption)]; rfl)
           | (rw [tu24n (by assumption) (by assumption)]; rfl)
           | (rw [tu20y (by omega) (by assumption)]; rfl)
           | (rw [tu20n (by omega) (by assumption)]; rfl))
      | fail "no step")
theorem hTuStep : cTuStep.Holds objs Tryz.prog := runCtr_holds (X := { cxDp Tryz.prog with hints := hsTuStep }) objsOk mixed hctsDp (callable _ Tryz.func71 (by kernel_rfl) (by kernel_rfl)) (by rintro ins _ ⟨_, _, rfl, _⟩; rfl) (by rw [rTuStep]; exact vTuStep _ _)
set_option maxHeartbeats 16000000 in
theorem vKyStep (P : Program) (hs : List (Nat × Nat × List Nat)) : ∀ ins, ins.length = cKyStep.nin → cKyStep.pre ins → tKyStep.sat { cxDp P with hints := hs } (ctrR cKyStep) ins := by
  rintro ins _ ⟨F, M, rfl, hM⟩
  unfold tKyStep
  refine st_and (st_opn (T := keyA) (by rfl) ?_) (st_and (st_opn (T := keyE) (by rfl) ?_) (nomore_key))
  (rintro ps hl ⟨st, ks, t, ls, s, i, w, rfl, _⟩ he
   simp only [List.getElem?_cons_zero, keyA, keyAObj, Option.some.injEq, EV.u.injEq, U.key.injEq] at he
   subst he
   simp only [List.cons_append, List.nil_append]
   have hTg : True := trivial
   have hG : True := trivial
   skip)
  rotate_left
  (rintro ps hl ⟨st, ks, t, ls, s, i, w, e, rfl, _⟩ he
   simp only [List.getElem?_cons_zero, keyE, keyEObj, Option.some.injEq, EV.u.injEq, U.key.injEq] at he
   subst he
   simp only [List.cons_append, List.nil_append]
   have hTg : True := trivial
   have hG : True := trivial
   skip)
  rotate_left
  all_goals
    repeat' (first
      | (first
        | (with_reducible refine st_need ?_ ?_
           focus (simp only [dn, reduceCtorEq, hTg, hG, va_map, Int.zero_mul, Int.add_zero] <;> first | omega | assumption))
        | (with_reducible refine st_and ?_ ?_)
        | (with_reducible exact st_ok)
        | (with_reducible refine st_br (fun hc => ?_) (fun hc => ?_) <;> (simp only [dn, reduceCtorEq, hTg, hG, va_map, Int.zero_mul, Int.add_zero] at hc) <;> (try (exfalso; first | contradiction | omega)))
        | (refine st_call (by rfl) (by simp only [dn, reduceCtorEq, hTg, hG, va_map, Int.zero_mul, Int.add_zero] <;> rfl) ?_ (by simp only [out_load, out_store, out_cas, out_getTop, out_puT, out_read, out_jrd, out_lay] <;> rfl) (by simp only [dn] <;> rfl) ?_
           focus (first | exact ⟨_, _, rfl⟩ | exact ⟨_, _, rfl, (idxW_lo' _ _).1, (idxW_lo' _ _).2, by omega, by omega⟩ | exact ⟨_, _, _, rfl⟩ | exact ⟨_, _, _, _, rfl⟩ | exact ⟨_, rfl, hw⟩ | exact ⟨_, rfl, hpw⟩ | exact ⟨_, rfl, n_load hM _⟩ | exact ⟨_, _, _, _, rfl, n_load hM _⟩ | exact pre_puT (by first | omega | exact (idxW_lo' _ _).1) (by first | omega | exact (idxW_lo' _ _).2) | exact ⟨_, _, _, rfl, by omega, by omega, by omega, by omega, by first | omega | (have h9 := hw.1; omega), by first | omega | (have h9 := hw.2; omega)⟩)))
      | (refine st_mk (by rfl) (by simp only [dn, reduceCtorEq, hTg, hG, va_map] <;> rfl) ?_ (by simp only [dn] <;> rfl) ?_
         focus
           (first | refine ⟨_, _, _, _, _, _, _, rfl, ?_⟩ | refine ⟨_, _, _, _, _, _, _, _, rfl, ?_⟩); (repeat' with_reducible apply And.intro) <;> first | rfl | assumption | exact n_load hM _ | exact isWd0 | omega | exact (idxW_lo' _ _).1 | exact (idxW_lo' _ _).2 | exact idxW_hi (by omega) _ | trivial | (exact .inl rfl))
      | (refine st_ret (by simp only [dn, reduceCtorEq, va_map] <;> rfl) ?_
         show _ = [EV.u (U.key (KeySt.put _ M).1), .u (.mem (KeySt.put _ M).2), .b ((KeySt.put _ M).1.line == 9)]
         first
           | rfl
           | (rw [tk0y (by assumption)]; rfl)
           | (rw [tk3y (by assumption)]; rfl)
           | (rw [tk3n (by assumption)]; rfl)
           | (rw [tk2y (by assumption)]; rfl)
           | (rw [tk2n (by assumption)]; rfl)
           | (rw [gv2y (by assumption)]; rfl)
           | (rw [gv2n (by assumption)]; rfl)
           | (rw [gv3y (by assumption)]; rfl)
           | (rw [gv3n (by assumption)]; rfl)
           | (rw [tu1n (by assumption)]; rfl)
           | (rw [tk0n (by omega)]; rfl)
           | (rw [tk1]; rfl)
           | (rw [gv1y (.inl (by assumption))]; rfl)
           | (rw [gv1y (.inr (by assumption))]; rfl)
           | (rw [gv1n (by assumption) (by assumption)]; rfl)
           | (rw [tu1y (by assumption) (fun e => absurd e (by assumption))]; rfl)
           | (rw [tu1y (by assumption) (fun _ => by assumption)]; rfl)
           | (rw [tu1m (by assumption) (by assumption)]; rfl)
           | (rw [tu24y (by assumption) (by assumption)]; rfl)
           | (rw [tu24n (by assumption) (by assumption)]; rfl)
           | (rw [tu20y (by omega) (by assumption)]; rfl)
           | (rw [tu20n (by omega) (by assumption)]; rfl))
      | fail "no step")
theorem hKyStep : cKyStep.Holds objs Tryz.prog := runCtr_holds (X := { cxDp Tryz.prog with hints := hsKyStep }) objsOk mixed hctsDp (callable _ Tryz.func39 (by kernel_rfl) (by kernel_rfl)) (by rintro ins _ ⟨_, _, rfl, _⟩; rfl) (by rw [rKyStep]; exact vKyStep _ _)
set_option maxHeartbeats 16000000 in
theorem vKoStep (P : Program) (hs : List (Nat × Nat × List Nat)) : ∀ ins, ins.length = cKoStep.nin → cKoStep.pre ins → tKoStep.sat { cxDp P with hints := hs } (ctrR cKoStep) ins := by
  rintro ins _ ⟨F, M, rfl, hM⟩
  unfold tKoStep
  refine st_and (st_opn (T := kofA) (by rfl) ?_) (st_and (st_opn (T := kofE) (by rfl) ?_) (nomore_keyOf))
  (rintro ps hl ⟨st, ks, t, ls, s, i, rfl, _⟩ he
   simp only [List.getElem?_cons_zero, kofA, kofAObj, Option.some.injEq, EV.u.injEq, U.keyOf.injEq] at he
   subst he
   simp only [List.cons_append, List.nil_append]
   have hTg : True := trivial
   have hG : True := trivial
   skip)
  rotate_left
  (rintro ps hl ⟨st, ks, t, ls, s, i, w, e, rfl, hok⟩ he
   simp only [List.getElem?_cons_zero, kofE, kofEObj, Option.some.injEq, EV.u.injEq, U.keyOf.injEq] at he
   subst he
   simp only [List.cons_append, List.nil_append]
   have hTg : True := trivial
   have hG : True := trivial
   skip)
  rotate_left
  all_goals
    repeat' (first
      | (first
        | (with_reducible refine st_need ?_ ?_
           focus (simp only [dn, reduceCtorEq, hTg, hG, va_map, Int.zero_mul, Int.add_zero] <;> first | omega | assumption))
        | (with_reducible refine st_and ?_ ?_)
        | (with_reducible exact st_ok)
        | (with_reducible refine st_br (fun hc => ?_) (fun hc => ?_) <;> (simp only [dn, reduceCtorEq, hTg, hG, va_map, Int.zero_mul, Int.add_zero] at hc) <;> (try (exfalso; first | contradiction | omega)))
        | (refine st_call (by rfl) (by simp only [dn, reduceCtorEq, hTg, hG, va_map, Int.zero_mul, Int.add_zero] <;> rfl) ?_ (by simp only [out_load, out_store, out_cas, out_getTop, out_puT, out_read, out_jrd, out_lay] <;> rfl) (by simp only [dn] <;> rfl) ?_
           focus (first | exact ⟨_, _, rfl⟩ | exact ⟨_, _, rfl, (idxW_lo' _ _).1, (idxW_lo' _ _).2, by omega, by omega⟩ | exact ⟨_, _, _, rfl⟩ | exact ⟨_, _, _, _, rfl⟩ | exact ⟨_, rfl, hw⟩ | exact ⟨_, rfl, hpw⟩ | exact ⟨_, rfl, n_load hM _⟩ | exact ⟨_, _, _, _, rfl, n_load hM _⟩ | exact pre_puT (by first | omega | exact (idxW_lo' _ _).1) (by first | omega | exact (idxW_lo' _ _).2) | exact ⟨_, _, _, rfl, by omega, by omega, by omega, by omega, by first | omega | (have h9 := hw.1; omega), by first | omega | (have h9 := hw.2; omega)⟩)))
      | (refine st_mk (by rfl) (by simp only [dn, reduceCtorEq, hTg, hG, va_map] <;> rfl) ?_ (by simp only [dn] <;> rfl) ?_
         focus
           (first | refine ⟨_, _, _, _, _, _, rfl, ?_⟩ | refine ⟨_, _, _, _, _, _, _, _, rfl, ?_⟩); (repeat' with_reducible apply And.intro) <;> first | rfl | assumption | exact n_load hM _ | exact isWd0 | omega | exact (idxW_lo' _ _).1 | exact (idxW_lo' _ _).2 | exact idxW_hi (by omega) _ | trivial | (exact .inl rfl))
      | (refine st_ret (by simp only [dn, reduceCtorEq, va_map] <;> rfl) ?_
         show _ = [EV.u (U.keyOf (KeySt.get _ M).1), .u (.mem (KeySt.get _ M).2), .b ((KeySt.get _ M).1.line == 9)]
         first
           | rfl
           | (rw [tk0y (by assumption)]; rfl)
           | (rw [tk3y (by assumption)]; rfl)
           | (rw [tk3n (by assumption)]; rfl)
           | (rw [tk2y (by assumption)]; rfl)
           | (rw [tk2n (by assumption)]; rfl)
           | (rw [gv2y (by assumption)]; rfl)
           | (rw [gv2n (by assumption)]; rfl)
           | (rw [gv3y (by assumption)]; rfl)
           | (rw [gv3n (by assumption)]; rfl)
           | (rw [tu1n (by assumption)]; rfl)
           | (rw [tk0n (by omega)]; rfl)
           | (rw [tk1]; rfl)
           | (rw [gv1y (.inl (by assumption))]; rfl)
           | (rw [gv1y (.inr (by assumption))]; rfl)
           | (rw [gv1n (by assumption) (by assumption)]; rfl)
           | (rw [tu1y (by assumption) (fun e => absurd e (by assumption))]; rfl)
           | (rw [tu1y (by assumption) (fun _ => by assumption)]; rfl)
           | (rw [tu1m (by assumption) (by assumption)]; rfl)
           | (rw [tu24y (by assumption) (by assumption)]; rfl)
           | (rw [tu24n (by assumption) (by assumption)]; rfl)
           | (rw [tu20y (by omega) (by assumption)]; rfl)
           | (rw [tu20n (by omega) (by assumption)]; rfl))
      | fail "no step")
theorem hKoStep : cKoStep.Holds objs Tryz.prog := runCtr_holds (X := { cxDp Tryz.prog with hints := hsKoStep }) objsOk mixed hctsDp (callable _ Tryz.func41 (by kernel_rfl) (by kernel_rfl)) (by rintro ins _ ⟨_, _, rfl, _⟩; rfl) (by rw [rKoStep]; exact vKoStep _ _)
end Go.Proofs.YtdabdbbgaekmdaaGreat
