/- The program's Collects: the contracts hold (printed by gen_lm.py). -/
import Derived.Test.YtdldcofddfkkbaaGreatMb
import Derived.Test.YtdldcofddfkkbaaGreatMcT
namespace Go.Proofs.YtdldcofddfkkbaaGreat
set_option linter.unusedVariables false
set_option linter.unusedSimpArgs false
set_option linter.unusedSectionVars false
open Go Go.RowKit

section
variable {t ls s g wo lm ea ep ec tp c p al aw an av ll lw i nx n fl fg pl pw : Int} {M : MemSt}
theorem c00y (h : (M.load ea).n % 4294967296 = p) : ColSt.step ⟨[t, ls, s, g, wo, lm, ea, ep, ec, tp], 0, c, p, 0, 0, 0, av, 0, 0, 0, 0, 0, 0, 0, 0, 0, 0⟩ M = (ColSt.turn ⟨[t, ls, s, g, wo, lm, ea, ep, ec, tp], 0, c, p, 0, 0, 0, av, 0, 0, 0, 0, 0, 0, 0, 0, 0, 0⟩ (M.load ea).n 0, M.load ea) := by
  show (if (M.load ea).n % 4294967296 = p then _ else _, _) = _
  rw [if_pos h]; try rfl
theorem c00n (h : ¬ (M.load ea).n % 4294967296 = p) : ColSt.step ⟨[t, ls, s, g, wo, lm, ea, ep, ec, tp], 0, c, p, 0, 0, 0, av, 0, 0, 0, 0, 0, 0, 0, 0, 0, 0⟩ M = (⟨[t, ls, s, g, wo, lm, ea, ep, ec, tp], 9, 0, 0, 0, 0, 0, 0, 0, 0, 0, 0, 0, 0, 0, 0, 0, 14⟩, M.load ea) := by
  show (if (M.load ea).n % 4294967296 = p then _ else _, _) = _
  rw [if_neg h]; try rfl
theorem c01y (h : (M.load (IntKind.i64.wrap (ep + an))).n = 0 ∨ (M.load (IntKind.i64.wrap (ep + an))).n = p + 1) : ColSt.step ⟨[t, ls, s, g, wo, lm, ea, ep, ec, tp], 0, c, p, 1, aw, an, av, 0, 0, 0, 0, 0, 0, 0, 0, 0, 0⟩ M = (ColSt.turn ⟨[t, ls, s, g, wo, lm, ea, ep, ec, tp], 0, c, p, 1, aw, an, av, 0, 0, 0, 0, 0, 0, 0, 0, 0, 0⟩ aw (an + 1), M.load (IntKind.i64.wrap (ep + an))) := by
  show (if (M.load (IntKind.i64.wrap (ep + an))).n = 0 ∨ (M.load (IntKind.i64.wrap (ep + an))).n = p + 1 then _ else _, _) = _
  rw [if_pos h]; try rfl
theorem c01n (h : ¬ ((M.load (IntKind.i64.wrap (ep + an))).n = 0 ∨ (M.load (IntKind.i64.wrap (ep + an))).n = p + 1)) : ColSt.step ⟨[t, ls, s, g, wo, lm, ea, ep, ec, tp], 0, c, p, 1, aw, an, av, 0, 0, 0, 0, 0, 0, 0, 0, 0, 0⟩ M = (⟨[t, ls, s, g, wo, lm, ea, ep, ec, tp], 9, 0, 0, 0, 0, 0, 0, 0, 0, 0, 0, 0, 0, 0, 0, 0, 14⟩, M.load (IntKind.i64.wrap (ep + an))) := by
  show (if (M.load (IntKind.i64.wrap (ep + an))).n = 0 ∨ (M.load (IntKind.i64.wrap (ep + an))).n = p + 1 then _ else _, _) = _
  rw [if_neg h]; try rfl
theorem c02y (h : (M.cas ea aw (p + 1)).h = true) : ColSt.step ⟨[t, ls, s, g, wo, lm, ea, ep, ec, tp], 0, c, p, 2, aw, 0, av, 0, 0, 0, 0, 0, 0, 0, 0, 0, 0⟩ M = (⟨[t, ls, s, g, wo, lm, ea, ep, ec, tp], 1, 0, 0, 0, 0, 0, av, 1, 0, 0, 0, 0, 0, 0, 0, 0, 0⟩, M.cas ea aw (p + 1)) := by
  show (if (M.cas ea aw (p + 1)).h = true then _ else _, _) = _
  rw [if_pos h]; try rfl
theorem c02n (h : (M.cas ea aw (p + 1)).h = false) : ColSt.step ⟨[t, ls, s, g, wo, lm, ea, ep, ec, tp], 0, c, p, 2, aw, 0, av, 0, 0, 0, 0, 0, 0, 0, 0, 0, 0⟩ M = (⟨[t, ls, s, g, wo, lm, ea, ep, ec, tp], 9, 0, 0, 0, 0, 0, 0, 0, 0, 0, 0, 0, 0, 0, 0, 0, 14⟩, M.cas ea aw (p + 1)) := by
  show (if (M.cas ea aw (p + 1)).h = true then _ else _, _) = _
  rw [if_neg (by rw [h]; decide)]; try rfl
theorem turn0y {w f : Int} (h : turnTo f c < ec) : ColSt.turn ⟨[t, ls, s, g, wo, lm, ea, ep, ec, tp], 0, c, p, 0, 0, 0, av, 0, 0, 0, 0, 0, 0, 0, 0, 0, 0⟩ w f = ⟨[t, ls, s, g, wo, lm, ea, ep, ec, tp], 0, c, p, 1, w, (turnTo f c), av, 0, 0, 0, 0, 0, 0, 0, 0, 0, 0⟩ := if_pos h
theorem turn0n {w f : Int} (h : ¬ turnTo f c < ec) : ColSt.turn ⟨[t, ls, s, g, wo, lm, ea, ep, ec, tp], 0, c, p, 0, 0, 0, av, 0, 0, 0, 0, 0, 0, 0, 0, 0, 0⟩ w f = ⟨[t, ls, s, g, wo, lm, ea, ep, ec, tp], 0, c, p, 2, w, 0, av, 0, 0, 0, 0, 0, 0, 0, 0, 0, 0⟩ := if_neg h
theorem turn1y {w f : Int} (h : turnTo f c < ec) : ColSt.turn ⟨[t, ls, s, g, wo, lm, ea, ep, ec, tp], 0, c, p, 1, aw, an, av, 0, 0, 0, 0, 0, 0, 0, 0, 0, 0⟩ w f = ⟨[t, ls, s, g, wo, lm, ea, ep, ec, tp], 0, c, p, 1, w, (turnTo f c), av, 0, 0, 0, 0, 0, 0, 0, 0, 0, 0⟩ := if_pos h
theorem turn1n {w f : Int} (h : ¬ turnTo f c < ec) : ColSt.turn ⟨[t, ls, s, g, wo, lm, ea, ep, ec, tp], 0, c, p, 1, aw, an, av, 0, 0, 0, 0, 0, 0, 0, 0, 0, 0⟩ w f = ⟨[t, ls, s, g, wo, lm, ea, ep, ec, tp], 0, c, p, 2, w, 0, av, 0, 0, 0, 0, 0, 0, 0, 0, 0, 0⟩ := if_neg h
theorem c11y (h : idxW s (M.load av).n < 0) : ColSt.step ⟨[t, ls, s, g, wo, lm, ea, ep, ec, tp], 1, 0, 0, 0, 0, 0, av, 1, 0, 0, 0, 0, 0, 0, 0, 0, 0⟩ M = (⟨[t, ls, s, g, wo, lm, ea, ep, ec, tp], 9, 0, 0, 0, 0, 0, 0, 0, 0, 0, 0, 0, 0, 0, 0, 0, 0⟩, M.load av) := by
  show (if idxW s (M.load av).n < 0 then _ else _, _) = _
  rw [if_pos h]; try rfl
theorem c11n (h : ¬ idxW s (M.load av).n < 0) : ColSt.step ⟨[t, ls, s, g, wo, lm, ea, ep, ec, tp], 1, 0, 0, 0, 0, 0, av, 1, 0, 0, 0, 0, 0, 0, 0, 0, 0⟩ M = (⟨[t, ls, s, g, wo, lm, ea, ep, ec, tp], 1, 0, 0, 0, 0, 0, av, 2, (M.load av).n, 0, 0, 0, 0, 0, 0, 0, 0⟩, M.load av) := by
  show (if idxW s (M.load av).n < 0 then _ else _, _) = _
  rw [if_neg h]; try rfl
theorem c12y (h : (M.cas av lw (topW (-1) lw)).h = true) : ColSt.step ⟨[t, ls, s, g, wo, lm, ea, ep, ec, tp], 1, 0, 0, 0, 0, 0, av, 2, lw, 0, 0, 0, 0, 0, 0, 0, 0⟩ M = (⟨[t, ls, s, g, wo, lm, ea, ep, ec, tp], 2, 0, 0, 0, 0, 0, 0, 0, 0, (idxW s lw), 0, 0, 0, 0, 0, 0, 0⟩, M.cas av lw (topW (-1) lw)) := by
  show (if (M.cas av lw (topW (-1) lw)).h = true then _ else _, _) = _
  rw [if_pos h]; try rfl
theorem c12n (h : (M.cas av lw (topW (-1) lw)).h = false) : ColSt.step ⟨[t, ls, s, g, wo, lm, ea, ep, ec, tp], 1, 0, 0, 0, 0, 0, av, 2, lw, 0, 0, 0, 0, 0, 0, 0, 0⟩ M = (⟨[t, ls, s, g, wo, lm, ea, ep, ec, tp], 1, 0, 0, 0, 0, 0, av, 1, 0, 0, 0, 0, 0, 0, 0, 0, 0⟩, M.cas av lw (topW (-1) lw)) := by
  show (if (M.cas av lw (topW (-1) lw)).h = true then _ else _, _) = _
  rw [if_neg (by rw [h]; decide)]; try rfl
theorem c30y (h : lm ≤ (M.load (IntKind.i64.wrap (g + i))).n % 4294967296) : ColSt.step ⟨[t, ls, s, g, wo, lm, ea, ep, ec, tp], 3, 0, 0, 0, 0, 0, 0, 0, 0, i, nx, n, 0, 0, 0, 0, 0⟩ M = (⟨[t, ls, s, g, wo, lm, ea, ep, ec, tp], 3, 0, 0, 0, 0, 0, 0, 0, 0, i, nx, n, 3, 0, 0, 0, 0⟩, M.load (IntKind.i64.wrap (g + i))) := by
  show (if lm ≤ (M.load (IntKind.i64.wrap (g + i))).n % 4294967296 then _ else _, _) = _
  rw [if_pos h]; try rfl
theorem c30n (h : ¬ lm ≤ (M.load (IntKind.i64.wrap (g + i))).n % 4294967296) : ColSt.step ⟨[t, ls, s, g, wo, lm, ea, ep, ec, tp], 3, 0, 0, 0, 0, 0, 0, 0, 0, i, nx, n, 0, 0, 0, 0, 0⟩ M = (⟨[t, ls, s, g, wo, lm, ea, ep, ec, tp], 3, 0, 0, 0, 0, 0, 0, 0, 0, i, nx, n, 1, (M.load (IntKind.i64.wrap (g + i))).n, 0, 0, 0⟩, M.load (IntKind.i64.wrap (g + i))) := by
  show (if lm ≤ (M.load (IntKind.i64.wrap (g + i))).n % 4294967296 then _ else _, _) = _
  rw [if_neg h]; try rfl
theorem c32y (h : (M.cas t pw (topW i pw)).h = true) : ColSt.step ⟨[t, ls, s, g, wo, lm, ea, ep, ec, tp], 3, 0, 0, 0, 0, 0, 0, 0, 0, i, nx, n, 2, 0, 3, pw, 0⟩ M = (ColSt.freed ⟨[t, ls, s, g, wo, lm, ea, ep, ec, tp], 3, 0, 0, 0, 0, 0, 0, 0, 0, i, nx, n, 2, 0, 3, pw, 0⟩, M.cas t pw (topW i pw)) := by
  show (if (M.cas t pw (topW i pw)).h = true then _ else _, _) = _
  rw [if_pos h]; try rfl
theorem c32n (h : (M.cas t pw (topW i pw)).h = false) : ColSt.step ⟨[t, ls, s, g, wo, lm, ea, ep, ec, tp], 3, 0, 0, 0, 0, 0, 0, 0, 0, i, nx, n, 2, 0, 3, pw, 0⟩ M = (⟨[t, ls, s, g, wo, lm, ea, ep, ec, tp], 3, 0, 0, 0, 0, 0, 0, 0, 0, i, nx, n, 2, 0, 1, 0, 0⟩, M.cas t pw (topW i pw)) := by
  show (if (M.cas t pw (topW i pw)).h = true then _ else _, _) = _
  rw [if_neg (by rw [h]; decide)]; try rfl
theorem c33 : ColSt.step ⟨[t, ls, s, g, wo, lm, ea, ep, ec, tp], 3, 0, 0, 0, 0, 0, 0, 0, 0, i, nx, n, 3, 0, 0, 0, 0⟩ M = (ColSt.freed ⟨[t, ls, s, g, wo, lm, ea, ep, ec, tp], 3, 0, 0, 0, 0, 0, 0, 0, 0, i, nx, n, 3, 0, 0, 0, 0⟩, M.add wo 1) := rfl
theorem freed_y (h : nx < 0 ∨ s ≤ nx ∨ s ≤ n + 1) : ColSt.freed ⟨[t, ls, s, g, wo, lm, ea, ep, ec, tp], 3, 0, 0, 0, 0, 0, 0, 0, 0, i, nx, n, fl, fg, pl, pw, 0⟩ = ⟨[t, ls, s, g, wo, lm, ea, ep, ec, tp], 9, 0, 0, 0, 0, 0, 0, 0, 0, 0, 0, (n + 1), 0, 0, 0, 0, 0⟩ := if_pos h
theorem freed_n (h : ¬ (nx < 0 ∨ s ≤ nx ∨ s ≤ n + 1)) : ColSt.freed ⟨[t, ls, s, g, wo, lm, ea, ep, ec, tp], 3, 0, 0, 0, 0, 0, 0, 0, 0, i, nx, n, fl, fg, pl, pw, 0⟩ = ⟨[t, ls, s, g, wo, lm, ea, ep, ec, tp], 2, 0, 0, 0, 0, 0, 0, 0, 0, nx, 0, (n + 1), 0, 0, 0, 0, 0⟩ := if_neg h
end
theorem cnew_no {l : List Int} {ec tp c p : Int} (h : c < 0 ∨ ec ≤ c ∨ p < 0) : ColSt.new l ec tp c p = ColSt.ended l 0 3 := if_pos h
theorem cnew_ok {l : List Int} {ec tp c p : Int} (h : ¬ (c < 0 ∨ ec ≤ c ∨ p < 0)) : ColSt.new l ec tp c p = ⟨l, 0, c, p, 0, 0, 0, IntKind.i64.wrap (tp + (p + 2) % 3), 0, 0, 0, 0, 0, 0, 0, 0, 0, 0⟩ := if_neg h
theorem hctsMc : ∀ (ci : Nat) (c : Ctr U), ctsMc[ci]? = some c → c.Holds objs Tryz.prog := by
  intro ci c h
  match ci, h with
  | 0, h => cases h; exact hLoad
  | 1, h => cases h; exact hStore
  | 2, h => cases h; exact hCAS
  | 3, h => cases h; exact hGetTop
  | 4, h => cases h; exact hPuT
  | 5, h => cases h; exact hRead
  | 6, h => cases h; exact hTurn
  | 7, h => cases h; exact hAdd
  | n + 8, h => cases h
theorem idxW_hi {s : Int} (h : 1 ≤ s) (w : Int) : idxW s w < s := by
  unfold idxW; split <;> omega
theorem u32w {x p : Int} (h : isWd x) (e : x % 4294967296 = p) : IntKind.u64.wrap (IntKind.u32.wrap x) = p ∧ IntKind.u64.wrap (p + 1) = p + 1 := by
  obtain ⟨h0, h1⟩ := h
  have e1 : IntKind.u32.wrap x = x % 4294967296 := by simp [IntKind.wrap, IntKind.signed, IntKind.bits]
  rw [e1, e]
  exact ⟨wrap_u64' (by omega) (by omega), wrap_u64' (by omega) (by omega)⟩
theorem outT_y {l e a b n c p w k f : Int} (h : turnTo f c < n) : cTurn.out [.i l, .i e, .i a, .i b, .i n, .i c, .i p, .i w, .i k, .i f] = [.i 1, .i (turnTo f c)] := by rw [out_turn, if_pos h, if_pos h]
theorem outT_n {l e a b n c p w k f : Int} (h : ¬ turnTo f c < n) : cTurn.out [.i l, .i e, .i a, .i b, .i n, .i c, .i p, .i w, .i k, .i f] = [.i 2, .i k] := by rw [out_turn, if_neg h, if_neg h]
set_option maxRecDepth 10000
set_option maxHeartbeats 16000000 in
theorem vCStep (P : Program) (hs : List (Nat × Nat × List Nat)) : ∀ ins, ins.length = cCStep.nin → cCStep.pre ins → tCStep.sat { cxMc P with hints := hs } (ctrR cCStep) ins := by
  rintro ins _ ⟨F, M, rfl, hM⟩
  have hA : ∀ x, bits .and .u64 (M.load x).n 4294967295 = (M.load x).n % 4294967296 := fun x => and32 (n_load hM x)
  have hI := i32 hM
  have hU := u32n hM
  unfold tCStep
  refine st_and (st_opn (T := colA) (by rfl) ?_) (st_and (st_opn (T := colT1) (by rfl) ?_) (st_and (st_opn (T := colT2) (by rfl) ?_) (st_and (st_opn (T := colL0) (by rfl) ?_) (st_and (st_opn (T := colL1) (by rfl) ?_) (st_and (st_opn (T := colG0) (by rfl) ?_) (st_and (st_opn (T := colG1) (by rfl) ?_) (st_and (st_opn (T := colG2) (by rfl) ?_) (st_and (st_opn (T := colG3f) (by rfl) ?_) (st_and (st_opn (T := colG3s) (by rfl) ?_) (st_and (st_opn (T := colG3t) (by rfl) ?_) (st_and (st_opn (T := colE1) (by rfl) ?_) (st_and (st_opn (T := colE2) (by rfl) ?_) (st_and (st_opn (T := colE3) (by rfl) ?_) (st_and (st_opn (T := colR) (by rfl) ?_) (nomore_col)))))))))))))))
  (rintro ps hl ⟨t, ls, s, g, wo, lm, ea, ep, ec, tp, c, p, al, aw, an, av, rfl, g1, g2, haw, g3, g4, g5, g6, hal, han⟩ he
   simp only [List.getElem?_cons_zero, colA, colAObj, Option.some.injEq, EV.u.injEq, U.col.injEq] at he
   subst he
   simp only [List.cons_append, List.nil_append]
   have hN : True := trivial
   have hTg : True := trivial
   have hw : True := trivial
   rcases hal with ⟨rfl, rfl⟩ | ⟨rfl | rfl, hp⟩
   (have hP1 : True := trivial
    have hP2 : True := trivial
    have hAn : True := trivial
    have hge := turn_ge 0 c
    by_cases hT : turnTo 0 c < ec
    (have hO : ∀ l e a b q w k, cTurn.out [.i l, .i e, .i a, .i b, .i ec, .i c, .i q, .i w, .i k, .i 0] = [.i 1, .i (turnTo 0 c)] := fun l e a b q w k => outT_y hT)
    rotate_left
    (have hO : ∀ l e a b q w k, cTurn.out [.i l, .i e, .i a, .i b, .i ec, .i c, .i q, .i w, .i k, .i 0] = [.i 2, .i k] := fun l e a b q w k => outT_n hT))
   rotate_left
   (obtain ⟨hP1, hP2⟩ := u32w haw hp
    have han' := han rfl
    have hAn : IntKind.i64.wrap (an + 1) = an + 1 := wrap_small (by omega) (by omega)
    have hge := turn_ge (an + 1) c
    by_cases hT : turnTo (an + 1) c < ec
    (have hO : ∀ l e a b q w k, cTurn.out [.i l, .i e, .i a, .i b, .i ec, .i c, .i q, .i w, .i k, .i (an + 1)] = [.i 1, .i (turnTo (an + 1) c)] := fun l e a b q w k => outT_y hT)
    rotate_left
    (have hO : ∀ l e a b q w k, cTurn.out [.i l, .i e, .i a, .i b, .i ec, .i c, .i q, .i w, .i k, .i (an + 1)] = [.i 2, .i k] := fun l e a b q w k => outT_n hT))
   rotate_left
   (obtain ⟨hP1, hP2⟩ := u32w haw hp
    have hAn : True := trivial
    have hO : True := trivial
    have hT : True := trivial))
  rotate_left
  (rintro ps hl ⟨t, ls, s, g, wo, lm, ea, ep, ec, tp, c, p, aw, an, av, lw, i, j, rfl, g1, g2, hlw⟩ he
   simp only [List.getElem?_cons_zero, colT1, colT1Obj, Option.some.injEq, EV.u.injEq, U.col.injEq] at he
   subst he
   simp only [List.cons_append, List.nil_append]
   have hP1 : True := trivial
   have hP2 : True := trivial
   have hAn : True := trivial
   have hO : True := trivial
   have hN : True := trivial
   have hTg : True := trivial
   have hw : isW lw := hlw
   have hT : True := trivial
   skip)
  rotate_left
  (rintro ps hl ⟨t, ls, s, g, wo, lm, ea, ep, ec, tp, c, p, aw, an, av, lw, i, j, rfl, g1, g2, hlw, rfl, g3⟩ he
   simp only [List.getElem?_cons_zero, colT2, colT2Obj, Option.some.injEq, EV.u.injEq, U.col.injEq] at he
   subst he
   simp only [List.cons_append, List.nil_append]
   have hP1 : True := trivial
   have hP2 : True := trivial
   have hAn : True := trivial
   have hO : True := trivial
   have hN : True := trivial
   have hTg : bits .and .i64 (IntKind.i64.wrap (lw / 65536 + 1)) 281474976710655 = (lw / 65536 + 1) % 281474976710656 := tag_next' hlw
   have hw : isW lw := hlw
   have hix : idxW s lw < s := idxW_hi g1 lw
   have hT : True := trivial
   skip)
  rotate_left
  (rintro ps hl ⟨t, ls, s, g, wo, lm, ea, ep, ec, tp, c, p, aw, an, av, lw, ai, aj, i, nx, n, rfl, g1, g2, g3, g4, g5, g6⟩ he
   simp only [List.getElem?_cons_zero, colL0, colL0Obj, Option.some.injEq, EV.u.injEq, U.col.injEq] at he
   subst he
   simp only [List.cons_append, List.nil_append]
   have hP1 : True := trivial
   have hP2 : True := trivial
   have hAn : True := trivial
   have hO : True := trivial
   have hN : True := trivial
   have hTg : True := trivial
   have hw : True := trivial
   have hT : True := trivial
   skip)
  rotate_left
  (rintro ps hl ⟨t, ls, s, g, wo, lm, ea, ep, ec, tp, c, p, aw, an, av, lw, ai, aj, i, nx, n, fi, fg, pw, pj, pd, rfl, g1, g2, g3, g4, g5, g6⟩ he
   simp only [List.getElem?_cons_zero, colL1, colL1Obj, Option.some.injEq, EV.u.injEq, U.col.injEq] at he
   subst he
   simp only [List.cons_append, List.nil_append]
   have hP1 : True := trivial
   have hP2 : True := trivial
   have hAn : True := trivial
   have hO : True := trivial
   have hN : True := trivial
   have hTg : True := trivial
   have hw : True := trivial
   have hT : True := trivial
   skip)
  rotate_left
  (rintro ps hl ⟨t, ls, s, g, wo, lm, ea, ep, ec, tp, c, p, aw, an, av, lw, ai, aj, i, nx, n, fg, pw, pj, rfl, g1, g2, g3, g4, g5, g6, hfg, hpw⟩ he
   simp only [List.getElem?_cons_zero, colG0, colG0Obj, Option.some.injEq, EV.u.injEq, U.col.injEq] at he
   subst he
   simp only [List.cons_append, List.nil_append]
   have hP1 : True := trivial
   have hP2 : True := trivial
   have hAn : True := trivial
   have hO : True := trivial
   have hN : True := trivial
   have hTg : True := trivial
   have hw : isW pw := hpw
   have hT : True := trivial
   skip)
  rotate_left
  (rintro ps hl ⟨t, ls, s, g, wo, lm, ea, ep, ec, tp, c, p, aw, an, av, lw, ai, aj, i, nx, n, fg, pw, pj, rfl, g1, g2, g3, g4, g5, g6, hfg, hpw⟩ he
   simp only [List.getElem?_cons_zero, colG1, colG1Obj, Option.some.injEq, EV.u.injEq, U.col.injEq] at he
   subst he
   simp only [List.cons_append, List.nil_append]
   have hP1 : True := trivial
   have hP2 : True := trivial
   have hAn : True := trivial
   have hO : True := trivial
   have hN : True := trivial
   have hTg : True := trivial
   have hw : isW pw := hpw
   have hT : True := trivial
   skip)
  rotate_left
  (rintro ps hl ⟨t, ls, s, g, wo, lm, ea, ep, ec, tp, c, p, aw, an, av, lw, ai, aj, i, nx, n, fg, pw, pj, rfl, g1, g2, g3, g4, g5, g6, hfg, hpw⟩ he
   simp only [List.getElem?_cons_zero, colG2, colG2Obj, Option.some.injEq, EV.u.injEq, U.col.injEq] at he
   subst he
   simp only [List.cons_append, List.nil_append]
   have hP1 : True := trivial
   have hP2 : True := trivial
   have hAn : True := trivial
   have hO : True := trivial
   have hN : IntKind.i64.wrap (n + 1) = n + 1 := wrap_small (by omega) (by omega)
   have hTg : True := trivial
   have hw : isW pw := hpw
   have hT : True := trivial
   skip)
  rotate_left
  (rintro ps hl ⟨t, ls, s, g, wo, lm, ea, ep, ec, tp, c, p, aw, an, av, lw, ai, aj, i, nx, n, fg, pw, pj, rfl, g1, g2, g3, g4, g5, g6, hfg, hpw⟩ he
   simp only [List.getElem?_cons_zero, colG3f, colG3fObj, Option.some.injEq, EV.u.injEq, U.col.injEq] at he
   subst he
   simp only [List.cons_append, List.nil_append]
   have hP1 : True := trivial
   have hP2 : True := trivial
   have hAn : True := trivial
   have hO : True := trivial
   have hN : True := trivial
   have hTg : True := trivial
   have hw : isW pw := hpw
   have hT : True := trivial
   skip)
  rotate_left
  (rintro ps hl ⟨t, ls, s, g, wo, lm, ea, ep, ec, tp, c, p, aw, an, av, lw, ai, aj, i, nx, n, fg, pw, pj, rfl, g1, g2, g3, g4, g5, g6, hfg, hpw, rfl⟩ he
   simp only [List.getElem?_cons_zero, colG3s, colG3sObj, Option.some.injEq, EV.u.injEq, U.col.injEq] at he
   subst he
   simp only [List.cons_append, List.nil_append]
   have hP1 : True := trivial
   have hP2 : True := trivial
   have hAn : True := trivial
   have hO : True := trivial
   have hN : True := trivial
   have hTg : True := trivial
   have hw : isW pw := hpw
   have hT : True := trivial
   skip)
  rotate_left
  (rintro ps hl ⟨t, ls, s, g, wo, lm, ea, ep, ec, tp, c, p, aw, an, av, lw, ai, aj, i, nx, n, fg, pw, pj, rfl, g1, g2, g3, g4, g5, g6, hfg, hpw⟩ he
   simp only [List.getElem?_cons_zero, colG3t, colG3tObj, Option.some.injEq, EV.u.injEq, U.col.injEq] at he
   subst he
   simp only [List.cons_append, List.nil_append]
   have hP1 : True := trivial
   have hP2 : True := trivial
   have hAn : True := trivial
   have hO : True := trivial
   have hN : IntKind.i64.wrap (n + 1) = n + 1 := wrap_small (by omega) (by omega)
   have hTg : bits .and .i64 (IntKind.i64.wrap (pw / 65536 + 1)) 281474976710655 = (pw / 65536 + 1) % 281474976710656 := tag_next' hpw
   have hw : isW pw := hpw
   have hT : True := trivial
   skip)
  rotate_left
  (rintro ps hl ⟨t, ls, s, g, wo, lm, ea, ep, ec, tp, c, p, aw, an, av, e, rfl, hne⟩ he
   simp only [List.getElem?_cons_zero, colE1, colE1Obj, Option.some.injEq, EV.u.injEq, U.col.injEq] at he
   subst he
   simp only [List.cons_append, List.nil_append]
   have hP1 : True := trivial
   have hP2 : True := trivial
   have hAn : True := trivial
   have hO : True := trivial
   have hN : True := trivial
   have hTg : True := trivial
   have hw : True := trivial
   have hT : True := trivial
   skip)
  rotate_left
  (rintro ps hl ⟨t, ls, s, g, wo, lm, ea, ep, ec, tp, c, p, aw, an, av, lw, ai, aj, rfl, _⟩ he
   simp only [List.getElem?_cons_zero, colE2, colE2Obj, Option.some.injEq, EV.u.injEq, U.col.injEq] at he
   subst he
   simp only [List.cons_append, List.nil_append]
   have hP1 : True := trivial
   have hP2 : True := trivial
   have hAn : True := trivial
   have hO : True := trivial
   have hN : True := trivial
   have hTg : True := trivial
   have hw : True := trivial
   have hT : True := trivial
   skip)
  rotate_left
  (rintro ps hl ⟨t, ls, s, g, wo, lm, ea, ep, ec, tp, c, p, aw, an, av, lw, ai, aj, i, nx, n, fi, fg, pw, pj, pd, rfl, _⟩ he
   simp only [List.getElem?_cons_zero, colE3, colE3Obj, Option.some.injEq, EV.u.injEq, U.col.injEq] at he
   subst he
   simp only [List.cons_append, List.nil_append]
   have hP1 : True := trivial
   have hP2 : True := trivial
   have hAn : True := trivial
   have hO : True := trivial
   have hN : True := trivial
   have hTg : True := trivial
   have hw : True := trivial
   have hT : True := trivial
   skip)
  rotate_left
  (rintro ps hl ⟨t, ls, s, g, wo, lm, ea, ep, ec, tp, e, rfl, hne⟩ he
   simp only [List.getElem?_cons_zero, colR, colRObj, Option.some.injEq, EV.u.injEq, U.col.injEq] at he
   subst he
   simp only [List.cons_append, List.nil_append]
   have hP1 : True := trivial
   have hP2 : True := trivial
   have hAn : True := trivial
   have hO : True := trivial
   have hN : True := trivial
   have hTg : True := trivial
   have hw : True := trivial
   have hT : True := trivial
   skip)
  rotate_left
  all_goals try simp only [reduceIte, Int.reduceEq, not_true_eq_false, not_false_eq_true, and_true, and_false, true_and, false_and, reduceCtorEq, if_true, if_false]
  all_goals
    repeat' (first
      | (first
        | (with_reducible refine st_need ?_ ?_
           focus (simp only [dn, reduceCtorEq, hA, hI, hU, hP1, hP2, hAn, hN, hTg, va_map, Int.zero_mul, Int.add_zero] <;> first | omega | assumption))
        | (with_reducible refine st_and ?_ ?_)
        | (with_reducible exact st_ok)
        | (with_reducible refine st_br (fun hc => ?_) (fun hc => ?_) <;> (simp only [dn, reduceCtorEq, hA, hI, hU, hP1, hP2, hAn, hN, hTg, va_map, Int.zero_mul, Int.add_zero] at hc) <;> (try (exfalso; first | contradiction | omega)))
        | (refine st_call (by rfl) (by simp only [dn, reduceCtorEq, hA, hI, hU, hP1, hP2, hAn, hN, hTg, va_map, Int.zero_mul, Int.add_zero] <;> rfl) ?_ (by simp only [out_load, out_store, out_cas, out_add, out_getTop, out_puT, out_read, hO] <;> rfl) (by simp only [dn] <;> rfl) ?_
           focus (first | exact ⟨_, _, rfl⟩ | exact ⟨_, _, _, rfl⟩ | exact ⟨_, _, _, _, rfl⟩ | exact ⟨_, rfl, hw⟩ | exact ⟨_, rfl, n_load hM _⟩ | exact ⟨_, _, _, _, rfl, n_load hM _⟩ | exact ⟨_, _, rfl, (idxW_lo hw).1, (idxW_lo hw).2, by omega, by omega⟩ | exact pre_puT (by omega) (by omega) | exact pre_turn (by omega) (by omega))))
      | (refine st_mk (by rfl) (by simp only [dn, reduceCtorEq, hA, hI, hAn, hN, va_map] <;> rfl) ?_ (by simp only [dn] <;> rfl) ?_
         focus
         (first | refine ⟨_, _, _, _, _, _, _, _, _, _, _, rfl, ?_⟩ | refine ⟨_, _, _, _, _, _, _, _, _, _, _, _, _, _, _, _, rfl, ?_⟩ | refine ⟨_, _, _, _, _, _, _, _, _, _, _, _, _, _, _, _, _, _, rfl, ?_⟩ | refine ⟨_, _, _, _, _, _, _, _, _, _, _, _, _, _, _, _, _, _, _, _, _, rfl, ?_⟩ | refine ⟨_, _, _, _, _, _, _, _, _, _, _, _, _, _, _, _, _, _, _, _, _, _, _, _, rfl, ?_⟩ | refine ⟨_, _, _, _, _, _, _, _, _, _, _, _, _, _, _, _, _, _, _, _, _, _, _, _, _, _, rfl, ?_⟩)
         (repeat' with_reducible apply And.intro) <;> first | omega | assumption | exact n_load hM _ | rfl | trivial)
      | (refine st_ret (by simp only [dn, reduceCtorEq, va_map] <;> rfl) ?_
         show _ = [EV.u (U.col (ColSt.step _ M).1), .u (.mem (ColSt.step _ M).2), .b ((ColSt.step _ M).1.line == 9)]
         first
           | rfl
           | (rw [c00y (by assumption), turn0y hT]; rfl)
           | (rw [c00y (by assumption), turn0n hT]; rfl)
           | (rw [c00n (by assumption)]; rfl)
           | (rw [c01y (.inl (by assumption)), turn1y hT]; rfl)
           | (rw [c01y (.inr (by assumption)), turn1y hT]; rfl)
           | (rw [c01y (.inl (by assumption)), turn1n hT]; rfl)
           | (rw [c01y (.inr (by assumption)), turn1n hT]; rfl)
           | (rw [c01n (by omega)]; rfl)
           | (rw [c02y (by assumption)]; rfl)
           | (rw [c02n (by assumption)]; rfl)
           | (rw [c11y (by assumption)]; rfl)
           | (rw [c12y (by assumption)]; rfl)
           | (rw [c12n (by assumption)]; rfl)
           | (rw [c30y (by assumption)]; rfl)
           | (rw [c32n (by assumption)]; rfl)
           | (rw [c11n (by omega)]; rfl)
           | (rw [c30n (by omega)]; rfl)
           | (rw [c32y (by assumption), freed_y (by omega)]; rfl)
           | (rw [c33, freed_y (by omega)]; rfl)
           | (rw [c32y (by assumption), freed_n (by omega)]; rfl)
           | (rw [c33, freed_n (by omega)]; rfl))
      | fail "no step")
theorem hCStep : cCStep.Holds objs Tryz.prog := runCtr_holds (X := { cxMc Tryz.prog with hints := hsCStep }) objsOk mixed hctsMc (callable _ Tryz.func18 (by kernel_rfl) (by kernel_rfl)) (by rintro ins _ ⟨_, _, rfl, _⟩; rfl) (by rw [rCStep]; exact vCStep _ _)
end Go.Proofs.YtdldcofddfkkbaaGreat
