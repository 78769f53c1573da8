import Derived.Test.YtdabdbbgaekmdaaGreatDgM
import Derived.Test.YtdabdbbgaekmdaaGreatDhM
/- Laying jobs; what is told of all: the contracts hold (printed by gen_db.py). -/
namespace Go.Proofs.YtdabdbbgaekmdaaGreat
set_option linter.unusedVariables false
set_option linter.unusedSimpArgs false
set_option linter.unusedSectionVars false
open Go Go.RowKit

theorem out_SFill (M : MemSt) (a b n : Int) : cSFill.out [.u (.mem M), .i a, .i b, .i n] = [.u (.mem (fill10 M a b n))] := rfl
theorem out_QSFill (M : MemSt) (a b n : Int) : cQSFill.out [.u (.rmem M), .i a, .i b, .i n] = [.u (.rmem (fill10 M a b n))] := rfl
set_option maxHeartbeats 2000000 in
theorem vSFill (P : Program) (hs : List (Nat × Nat × List Nat)) : ∀ ins, ins.length = cSFill.nin → cSFill.pre ins → tSFill.sat { cxDhs P with hints := hs } (ctrR cSFill) ins := by
  have hb : ∀ env, sfInv env → tSFillL0.sat { cxDhs P with hints := hs } (ctrR cSFill) env := by
    rintro env ⟨M, a, b, n, x0, x1, x2, i, rfl, h1, hM, h2, h3, h4⟩
    have e0 : IntKind.i64.wrap (i + 1) = i + 1 := wrap_small (by omega) (by omega)
    unfold tSFillL0
    repeat' (first
      | (first
        | (with_reducible refine st_need ?_ ?_
           focus (simp only [dn, reduceCtorEq, e0] <;> first | omega | assumption))
        | (with_reducible refine st_and ?_ ?_)
        | (with_reducible exact st_ok)
        | (with_reducible refine st_br (fun hc => ?_) (fun hc => ?_) <;> (simp only [dn, reduceCtorEq, e0] at hc) <;> (try (exfalso; first | contradiction | omega)))
        | (refine st_call (by rfl) (by simp only [dn, reduceCtorEq, e0] <;> rfl) ?_ (by simp only [out_store, out_puT] <;> rfl) (by simp only [dn] <;> rfl) ?_
           focus (first | exact ⟨_, _, _, rfl⟩ | exact ⟨_, _, _, _, rfl, by first | exact hM | (simp only [len_store, len_fillK, len_fill10, len_fillJ, len_fill24]; exact hM)⟩ | exact ⟨_, _, _, _, _, _, _, rfl, by first | exact hM | (simp only [len_store, len_fillK, len_fill10, len_fillJ, len_fill24]; exact hM)⟩ | exact ⟨_, _, _, _, _, _, _, _, _, _, _, rfl, by first | exact hM | (simp only [len_store, len_fillK, len_fill10, len_fillJ, len_fill24]; exact hM)⟩ | exact ⟨_, _, _, _, _, _, _, _, _, _, _, _, _, rfl⟩ | exact ⟨_, _, rfl, by decide, by decide, by decide, by decide⟩ | exact ⟨_, _, rfl, by omega, by omega, by decide, by decide⟩)))
      | (refine st_back (by rfl) (by simp only [dn, reduceCtorEq, e0] <;> rfl) (by simp only [dn] <;> rfl) (by rfl) ?_ ?_
         focus (refine ⟨M, a, b, n, x0, x1, x2, i + 1, ?_, by omega, hM, by omega, h3, h4⟩
                rw [fillK_succ _ _ _ _ h1]
                first
                  | (rw [if_pos (by omega)]; try rfl)
                  | (rw [if_neg (by omega), show i + 1 + 1 + 0 * 65536 = i + 2 by omega]; try rfl))
         focus (show (n - (i + 1)).toNat < (n - i).toNat; omega))
      | (refine st_ret (by simp only [dn, reduceCtorEq, e0] <;> rfl) ?_
         have hi : i = n := by omega
         subst hi
         show _ = [EV.u (U.mem (fill10 M a b i))]
         rw [fill10, if_pos ⟨h3, h4⟩])
      | fail "no step")
  rintro ins _ ⟨M, a, b, n, rfl, hM⟩
  unfold tSFill
  repeat' (first
    | (first
      | (with_reducible refine st_need ?_ ?_
         focus (simp only [dn, reduceCtorEq, hb] <;> first | omega | assumption))
      | (with_reducible refine st_and ?_ ?_)
      | (with_reducible exact st_ok)
      | (with_reducible refine st_br (fun hc => ?_) (fun hc => ?_) <;> (simp only [dn, reduceCtorEq, hb] at hc) <;> (try (exfalso; first | contradiction | omega)))
      | (refine st_call (by rfl) (by simp only [dn, reduceCtorEq, hb] <;> rfl) ?_ (by simp only [out_store, out_puT] <;> rfl) (by simp only [dn] <;> rfl) ?_
         focus (first | exact ⟨_, _, _, rfl⟩ | exact ⟨_, _, _, _, rfl, by first | exact hM | (simp only [len_store, len_fillK, len_fill10, len_fillJ, len_fill24]; exact hM)⟩ | exact ⟨_, _, _, _, _, _, _, rfl, by first | exact hM | (simp only [len_store, len_fillK, len_fill10, len_fillJ, len_fill24]; exact hM)⟩ | exact ⟨_, _, _, _, _, _, _, _, _, _, _, rfl, by first | exact hM | (simp only [len_store, len_fillK, len_fill10, len_fillJ, len_fill24]; exact hM)⟩ | exact ⟨_, _, _, _, _, _, _, _, _, _, _, _, _, rfl⟩ | exact ⟨_, _, rfl, by decide, by decide, by decide, by decide⟩ | exact ⟨_, _, rfl, by omega, by omega, by decide, by decide⟩)))
    | (refine st_loop (by rfl) (by simp only [dn, reduceCtorEq, hb] <;> rfl) (by simp only [dn] <;> rfl) ?_ (fun env' h => hb env' h)
       exact ⟨_, _, _, _, _, _, _, 0, rfl, by omega, hM, by omega, by omega, by omega⟩)
    | (refine st_ret (by simp only [dn, reduceCtorEq, hb] <;> rfl) ?_
       show _ = [EV.u (U.mem (fill10 M a b n))]
       rw [fill10, if_neg (by omega)])
    | fail "no step")
theorem hctsXS : ∀ (ci : Nat) (c : Ctr U), ([cStore, cPuT] : List (Ctr U))[ci]? = some c → c.Holds objs Tryz.prog := by
  intro ci c h
  match ci, h with
  | 0, h => cases h; exact hStore
  | 1, h => cases h; exact hPuT
  | n + 2, h => cases h
theorem hSFill : cSFill.Holds objs Tryz.prog := runCtr_holds (X := { cxDhs Tryz.prog with hints := hsSFill }) objsOk mixed hctsXS (callable _ Tryz.func91 (by kernel_rfl) (by kernel_rfl)) (by rintro ins _ ⟨_, _, _, _, rfl, _⟩; rfl) (by rw [rSFill]; exact vSFill _ _)
set_option maxHeartbeats 2000000 in
theorem vQSFill (P : Program) (hs : List (Nat × Nat × List Nat)) : ∀ ins, ins.length = cQSFill.nin → cQSFill.pre ins → tQSFill.sat { cxDhq P with hints := hs } (ctrR cQSFill) ins := by
  have hb : ∀ env, qsfInv env → tQSFillL0.sat { cxDhq P with hints := hs } (ctrR cQSFill) env := by
    rintro env ⟨M, a, b, n, x0, i, rfl, h1, hM, h2, h4⟩
    have e0 : IntKind.i64.wrap (i + 1) = i + 1 := wrap_small (by omega) (by omega)
    have e1 : IntKind.i64.wrap (i + 2) = i + 2 := wrap_small (by omega) (by omega)
    have e2 : IntKind.u64.wrap (i + 2) = i + 2 := wrap_u64' (by omega) (by omega)
    have e3 : IntKind.i64.wrap (n - 1) = n - 1 := wrap_small (by omega) (by omega)
    have e4 : IntKind.i64.wrap (IntKind.i64.wrap (b + n) - 1) = IntKind.i64.wrap (b + (n - 1)) := by simp only [IntKind.wrap_i64]; omega
    unfold tQSFillL0
    repeat' (first
      | (first
        | (with_reducible refine st_need ?_ ?_
           focus (simp only [dn, reduceCtorEq, e0, e1, e2, e3, e4] <;> first | omega | assumption))
        | (with_reducible refine st_and ?_ ?_)
        | (with_reducible exact st_ok)
        | (with_reducible refine st_br (fun hc => ?_) (fun hc => ?_) <;> (simp only [dn, reduceCtorEq, e0, e1, e2, e3, e4] at hc) <;> (try (exfalso; first | contradiction | omega)))
        | (refine st_call (by rfl) (by simp only [dn, reduceCtorEq, e0, e1, e2, e3, e4] <;> rfl) ?_ (by simp only [fo_store] <;> rfl) (by simp only [dn] <;> rfl) ?_
           focus (first | exact ⟨_, _, _, rfl, by first | exact hM | (simp only [len_store, len_fillK, len_fill10, len_fillJ, len_fill24]; exact hM)⟩ | exact ⟨_, _, _, _, rfl, by first | exact hM | (simp only [len_store, len_fillK, len_fill10, len_fillJ, len_fill24]; exact hM)⟩ | exact ⟨_, _, _, _, _, _, _, rfl, by first | exact hM | (simp only [len_store, len_fillK, len_fill10, len_fillJ, len_fill24]; exact hM)⟩ | exact ⟨_, _, _, _, _, _, _, _, _, _, _, rfl, by first | exact hM | (simp only [len_store, len_fillK, len_fill10, len_fillJ, len_fill24]; exact hM)⟩ | exact ⟨_, _, _, _, _, _, _, _, _, _, _, _, _, rfl⟩)))
      | (refine st_back (by rfl) (by simp only [dn, reduceCtorEq, e0, e1, e2, e3] <;> rfl) (by simp only [dn] <;> rfl) (by rfl) ?_ ?_
         focus (refine ⟨M, a, b, n, x0, i + 1, ?_, by omega, hM, by omega, h4⟩
                rw [fillK_succ _ _ _ _ h1, if_neg (by omega)]; rfl)
         focus (show (n - (i + 1)).toNat < (n - i).toNat; omega))
      | (refine st_ret (by simp only [dn, reduceCtorEq, e0] <;> rfl) ?_
         have hi : n = i + 1 := by omega
         subst hi
         show _ = [EV.u (U.rmem (fill10 M a b (i + 1)))]
         rw [fill10, if_pos ⟨by omega, h4⟩, fillK_succ _ _ _ _ h1, if_pos rfl, show i + 1 - 1 = i by omega])
      | fail "no step")
  rintro ins _ ⟨M, a, b, n, rfl, hM⟩
  unfold tQSFill
  repeat' (first
    | (first
      | (with_reducible refine st_need ?_ ?_
         focus (simp only [dn, reduceCtorEq, hb] <;> first | omega | assumption))
      | (with_reducible refine st_and ?_ ?_)
      | (with_reducible exact st_ok)
      | (with_reducible refine st_br (fun hc => ?_) (fun hc => ?_) <;> (simp only [dn, reduceCtorEq, hb] at hc) <;> (try (exfalso; first | contradiction | omega)))
      | (refine st_call (by rfl) (by simp only [dn, reduceCtorEq, hb] <;> rfl) ?_ (by simp only [fo_store] <;> rfl) (by simp only [dn] <;> rfl) ?_
         focus (first | exact ⟨_, _, _, rfl, by first | exact hM | (simp only [len_store, len_fillK, len_fill10, len_fillJ, len_fill24]; exact hM)⟩ | exact ⟨_, _, _, _, rfl, by first | exact hM | (simp only [len_store, len_fillK, len_fill10, len_fillJ, len_fill24]; exact hM)⟩ | exact ⟨_, _, _, _, _, _, _, rfl, by first | exact hM | (simp only [len_store, len_fillK, len_fill10, len_fillJ, len_fill24]; exact hM)⟩ | exact ⟨_, _, _, _, _, _, _, _, _, _, _, rfl, by first | exact hM | (simp only [len_store, len_fillK, len_fill10, len_fillJ, len_fill24]; exact hM)⟩ | exact ⟨_, _, _, _, _, _, _, _, _, _, _, _, _, rfl⟩)))
    | (refine st_loop (by rfl) (by simp only [dn, reduceCtorEq, hb] <;> rfl) (by simp only [dn] <;> rfl) ?_ (fun env' h => hb env' h)
       exact ⟨_, _, _, _, _, 0, rfl, by omega, hM, by omega, by omega⟩)
    | (refine st_ret (by simp only [dn, reduceCtorEq, hb] <;> rfl) ?_
       show _ = [EV.u (U.rmem (fill10 M a b n))]
       rw [fill10, if_neg (by omega)])
    | fail "no step")
theorem hctsXQS : ∀ (ci : Nat) (c : Ctr U), ([cQStore] : List (Ctr U))[ci]? = some c → c.Holds objs Tryz.prog := by
  intro ci c h
  match ci, h with
  | 0, h => cases h; exact hQStore
  | n + 1, h => cases h
theorem hQSFill : cQSFill.Holds objs Tryz.prog := runCtr_holds (X := { cxDhq Tryz.prog with hints := hsQSFill }) objsOk mixed hctsXQS (callable _ Tryz.func98 (by kernel_rfl) (by kernel_rfl)) (by rintro ins _ ⟨_, _, _, _, rfl, _⟩; rfl) (by rw [rQSFill]; exact vQSFill _ _)
set_option maxHeartbeats 2000000 in
theorem bJFill (P : Program) (hs : List (Nat × Nat × List Nat)) : ∀ env, jfInv env → tJFillL0.sat { cxDhf P with hints := hs } (ctrR cJFill) env := by
  rintro env ⟨M, st, ks, t, ls, s, x6, i, rfl, h1, hM, h3, h4, h5⟩
  have e0 : IntKind.i64.wrap (i + 1) = i + 1 := wrap_small (by omega) (by omega)
  by_cases hi : i < s
  all_goals
    unfold tJFillL0
    repeat' (first
      | (first
        | (with_reducible refine st_need ?_ ?_
           focus (simp only [dn, reduceCtorEq, e0] <;> first | omega | assumption))
        | (with_reducible refine st_and ?_ ?_)
        | (with_reducible exact st_ok)
        | (with_reducible refine st_br (fun hc => ?_) (fun hc => ?_) <;> (simp only [dn, reduceCtorEq, e0] at hc) <;> (try (exfalso; first | contradiction | omega)))
        | (refine st_call (by rfl) (by simp only [dn, reduceCtorEq, e0] <;> rfl) ?_ (by simp only [out_store, fo_store, out_SFill, out_QSFill] <;> rfl) (by simp only [dn] <;> rfl) ?_
           focus (first | exact ⟨_, _, _, rfl⟩ | exact ⟨_, _, _, rfl, (by first | exact hM | (simp only [len_store, len_fillK, len_fill10, len_fillJ, len_fill24]; exact hM))⟩ | exact ⟨_, _, _, _, rfl, (by first | exact hM | (simp only [len_store, len_fillK, len_fill10, len_fillJ, len_fill24]; exact hM))⟩)))
      | (refine st_back (by rfl) (by simp only [dn, reduceCtorEq, e0] <;> rfl) (by simp only [dn] <;> rfl) (by rfl) ?_ ?_
         focus exact ⟨M, st, ks, t, ls, s, x6, i + 1, by rw [fillJ_succ _ _ _ h1]; rfl, by omega, hM, by omega, h4, h5⟩
         focus (show (s - (i + 1)).toNat < (s - i).toNat; omega))
      | (refine st_ret (by simp only [dn, reduceCtorEq, e0] <;> rfl) ?_
         focus (obtain rfl : i = s := by omega
                show _ = [EV.u (U.mem (fill24 M st ks t ls i))]
                rw [fill24, if_pos ⟨h4, h5⟩]))
      | fail "no step")
set_option maxHeartbeats 2000000 in
theorem vJFill (P : Program) (hs : List (Nat × Nat × List Nat)) : ∀ ins, ins.length = cJFill.nin → cJFill.pre ins → tJFill.sat { cxDhf P with hints := hs } (ctrR cJFill) ins := by
  rintro ins _ ⟨M, st, ks, t, ls, s, rfl, hM⟩
  unfold tJFill
  repeat' (first
    | (first
      | (with_reducible refine st_need ?_ ?_
         focus (simp only [dn, reduceCtorEq, hM] <;> first | omega | assumption))
      | (with_reducible refine st_and ?_ ?_)
      | (with_reducible exact st_ok)
      | (with_reducible refine st_br (fun hc => ?_) (fun hc => ?_) <;> (simp only [dn, reduceCtorEq, hM] at hc) <;> (try (exfalso; first | contradiction | omega)))
      | (refine st_call (by rfl) (by simp only [dn, reduceCtorEq, hM] <;> rfl) ?_ (by simp only [out_store, fo_store, out_SFill, out_QSFill] <;> rfl) (by simp only [dn] <;> rfl) ?_
         focus (first | exact ⟨_, _, _, rfl⟩ | exact ⟨_, _, _, rfl, (by first | exact hM | (simp only [len_store, len_fillK, len_fill10, len_fillJ, len_fill24]; exact hM))⟩ | exact ⟨_, _, _, _, rfl, (by first | exact hM | (simp only [len_store, len_fillK, len_fill10, len_fillJ, len_fill24]; exact hM))⟩)))
    | (refine st_loop (by rfl) (by simp only [dn, reduceCtorEq, hM] <;> rfl) (by simp only [dn] <;> rfl) ?_ (fun env' h => bJFill P hs env' h)
       exact ⟨M, st, ks, t, ls, s, _, 0, rfl, by omega, hM, by omega, by omega, by omega⟩)
    | (refine st_ret (by simp only [dn, reduceCtorEq, hM] <;> rfl) ?_
       focus (show _ = [EV.u (U.mem (fill24 M st ks t ls s))]
              rw [fill24, if_neg (by omega)]))
    | fail "no step")
theorem hctsJFill : ∀ (ci : Nat) (c : Ctr U), ([cStore, cSFill] : List (Ctr U))[ci]? = some c → c.Holds objs Tryz.prog := by
  intro ci c h
  match ci, h with
  | 0, h => cases h; exact hStore
  | 1, h => cases h; exact hSFill
  | n + 2, h => cases h
theorem hJFill : cJFill.Holds objs Tryz.prog := runCtr_holds (X := { cxDhf Tryz.prog with hints := hsJFill }) objsOk mixed hctsJFill (callable _ Tryz.func48 (by kernel_rfl) (by kernel_rfl)) (by rintro ins _ ⟨_, _, _, _, _, _, rfl, _⟩; rfl) (by rw [rJFill]; exact vJFill _ _)
set_option maxHeartbeats 2000000 in
theorem bQJFill (P : Program) (hs : List (Nat × Nat × List Nat)) : ∀ env, qjfInv env → tQJFillL0.sat { cxDhg P with hints := hs } (ctrR cQJFill) env := by
  rintro env ⟨M, st, ks, t, ls, s, x6, i, rfl, h1, hM, h3, h4, h5⟩
  have e0 : IntKind.i64.wrap (i + 1) = i + 1 := wrap_small (by omega) (by omega)
  by_cases hi : i < s
  all_goals
    unfold tQJFillL0
    repeat' (first
      | (first
        | (with_reducible refine st_need ?_ ?_
           focus (simp only [dn, reduceCtorEq, e0] <;> first | omega | assumption))
        | (with_reducible refine st_and ?_ ?_)
        | (with_reducible exact st_ok)
        | (with_reducible refine st_br (fun hc => ?_) (fun hc => ?_) <;> (simp only [dn, reduceCtorEq, e0] at hc) <;> (try (exfalso; first | contradiction | omega)))
        | (refine st_call (by rfl) (by simp only [dn, reduceCtorEq, e0] <;> rfl) ?_ (by simp only [out_store, fo_store, out_SFill, out_QSFill] <;> rfl) (by simp only [dn] <;> rfl) ?_
           focus (first | exact ⟨_, _, _, rfl⟩ | exact ⟨_, _, _, rfl, (by first | exact hM | (simp only [len_store, len_fillK, len_fill10, len_fillJ, len_fill24]; exact hM))⟩ | exact ⟨_, _, _, _, rfl, (by first | exact hM | (simp only [len_store, len_fillK, len_fill10, len_fillJ, len_fill24]; exact hM))⟩)))
      | (refine st_back (by rfl) (by simp only [dn, reduceCtorEq, e0] <;> rfl) (by simp only [dn] <;> rfl) (by rfl) ?_ ?_
         focus exact ⟨M, st, ks, t, ls, s, x6, i + 1, by rw [fillJ_succ _ _ _ h1]; rfl, by omega, hM, by omega, h4, h5⟩
         focus (show (s - (i + 1)).toNat < (s - i).toNat; omega))
      | (refine st_ret (by simp only [dn, reduceCtorEq, e0] <;> rfl) ?_
         focus (obtain rfl : i = s := by omega
                show _ = [EV.u (U.rmem (fill24 M st ks t ls i))]
                rw [fill24, if_pos ⟨h4, h5⟩]))
      | fail "no step")
set_option maxHeartbeats 2000000 in
theorem vQJFill (P : Program) (hs : List (Nat × Nat × List Nat)) : ∀ ins, ins.length = cQJFill.nin → cQJFill.pre ins → tQJFill.sat { cxDhg P with hints := hs } (ctrR cQJFill) ins := by
  rintro ins _ ⟨M, st, ks, t, ls, s, rfl, hM⟩
  unfold tQJFill
  repeat' (first
    | (first
      | (with_reducible refine st_need ?_ ?_
         focus (simp only [dn, reduceCtorEq, hM] <;> first | omega | assumption))
      | (with_reducible refine st_and ?_ ?_)
      | (with_reducible exact st_ok)
      | (with_reducible refine st_br (fun hc => ?_) (fun hc => ?_) <;> (simp only [dn, reduceCtorEq, hM] at hc) <;> (try (exfalso; first | contradiction | omega)))
      | (refine st_call (by rfl) (by simp only [dn, reduceCtorEq, hM] <;> rfl) ?_ (by simp only [out_store, fo_store, out_SFill, out_QSFill] <;> rfl) (by simp only [dn] <;> rfl) ?_
         focus (first | exact ⟨_, _, _, rfl⟩ | exact ⟨_, _, _, rfl, (by first | exact hM | (simp only [len_store, len_fillK, len_fill10, len_fillJ, len_fill24]; exact hM))⟩ | exact ⟨_, _, _, _, rfl, (by first | exact hM | (simp only [len_store, len_fillK, len_fill10, len_fillJ, len_fill24]; exact hM))⟩)))
    | (refine st_loop (by rfl) (by simp only [dn, reduceCtorEq, hM] <;> rfl) (by simp only [dn] <;> rfl) ?_ (fun env' h => bQJFill P hs env' h)
       exact ⟨M, st, ks, t, ls, s, _, 0, rfl, by omega, hM, by omega, by omega, by omega⟩)
    | (refine st_ret (by simp only [dn, reduceCtorEq, hM] <;> rfl) ?_
       focus (show _ = [EV.u (U.rmem (fill24 M st ks t ls s))]
              rw [fill24, if_neg (by omega)]))
    | fail "no step")
theorem hctsQJFill : ∀ (ci : Nat) (c : Ctr U), ([cQStore, cQSFill] : List (Ctr U))[ci]? = some c → c.Holds objs Tryz.prog := by
  intro ci c h
  match ci, h with
  | 0, h => cases h; exact hQStore
  | 1, h => cases h; exact hQSFill
  | n + 2, h => cases h
theorem hQJFill : cQJFill.Holds objs Tryz.prog := runCtr_holds (X := { cxDhg Tryz.prog with hints := hsQJFill }) objsOk mixed hctsQJFill (callable _ Tryz.func61 (by kernel_rfl) (by kernel_rfl)) (by rintro ins _ ⟨_, _, _, _, _, _, rfl, _⟩; rfl) (by rw [rQJFill]; exact vQJFill _ _)
theorem bx_rm (env : List (EV U)) (i z : Nat) (e : Ex) : Bx.den env (.rm i z e) = decide ((z : Int) * e.den env = ((gL env i).length : Int)) := rfl
section
variable {k : Tree} {env : List (EV U)} {X : Cx U} {R : List (EV U) → List (EV U) → Prop} {ci : Nat} {β : List Bnd}
theorem st_appf {i : Nat} {e : Ex} {xs : List Ex} {V vc ys : List Int} {sz n : Nat} (hl : gL env i = V ++ vc) (hn : e.den env = (n : Int)) (hV : V.length = n * sz) (hx : xs.map (Ex.den env) = ys)
    (hk : ∀ (q : Nat) (r : List Int) (env' : List (EV U)), r.length = sz * q → env ++ [.l ((V ++ ys) ++ r), .i ((n + 1 + q : Nat) : Int)] = env' → k.sat X R env') : (Tree.appf (some i) e sz xs k).sat X R env := by
  intro q r hr
  refine hk q r _ hr ?_
  simp only
  rw [hl, hn, Int.toNat_natCast, List.take_left' hV, hx]
end
theorem jobsL_succ (M : MemSt) (st : Int) {i : Int} (h : 0 ≤ i) : jobsL M st (i + 1).toNat = jobsL M st i.toNat ++ readL (M.at0 (IntKind.i64.wrap (st + i))) := by
  rw [show (i + 1).toNat = i.toNat + 1 by omega, jobsL, show ((i.toNat : Nat) : Int) = i by omega]
set_option maxHeartbeats 4000000 in
theorem bJAll (P : Program) (hs : List (Nat × Nat × List Nat)) : ∀ env, jaInv env → tJAllL0.sat { cxDha P with hints := hs } (ctrR cJAll) env := by
  rintro env ⟨M, st, ks, t, ls, s, i, cp, d, rfl, h1, h2, h3, h4, hM, h5⟩
  have e0 : IntKind.i64.wrap (i + 1) = i + 1 := wrap_small (by omega) (by omega)
  have hsucc := jobsL_succ M st h1
  have hjl := jobsL_len M st i.toNat
  have hlen : ((jobsL M st i.toNat ++ d).length : Int) = 3 * i + d.length := by rw [List.length_append, hjl]; omega
  obtain ⟨n, rfl⟩ : ∃ n : Nat, i = n := ⟨i.toNat, by omega⟩
  rw [Int.toNat_natCast] at hjl
  by_cases hi : (n : Int) < s
  · generalize hx : IntKind.i64.wrap (st + (n : Int)) = x at hsucc
    have hw : isW (M.at0 x) := fine_at0 hM x
    have hv : 0 ≤ x ∧ x < M.W.length → M.W[x.toNat]?.getD 0 = M.at0 x := fun h => (at0_in h.1 h.2).symm
    by_cases hin : 0 ≤ x ∧ x < M.W.length
    · have hv := hv hin
      unfold tJAllL0
      repeat' (first
        | (first
          | (with_reducible refine st_need ?_ ?_
             focus (simp only [dn, reduceCtorEq, hx, hv, bx_rm, hlen, decide_eq_true_eq] <;> first | omega | assumption))
          | (with_reducible refine st_and ?_ ?_)
          | (with_reducible exact st_ok)
          | (with_reducible refine st_br (fun hc => ?_) (fun hc => ?_) <;> (simp only [dn, reduceCtorEq, hx, hv, bx_rm, hlen, decide_eq_true_eq] at hc) <;> (try (exfalso; first | contradiction | omega)))
          | (refine st_call (by rfl) (by simp only [dn, reduceCtorEq, hx, hv, bx_rm, hlen, decide_eq_true_eq] <;> rfl) ?_ (by simp only [out_jrd] <;> rfl) (by simp only [dn] <;> rfl) ?_
             focus (first | exact ⟨_, rfl⟩ | exact ⟨_, rfl, hw⟩ | exact ⟨_, _, rfl, hM.1⟩ | exact ⟨_, rfl, isWd0⟩)))
        | (refine st_appf (V := jobsL M st n) (n := n) (vc := d) (by rfl) (by rfl) (by omega) (by simp only [List.map_cons, List.map_nil] <;> rfl) (fun q rr env' hr he => ?_)
           simp only [List.cons_append, List.nil_append] at he
           subst he)
        | (refine st_back (by rfl) (by simp only [dn, reduceCtorEq, e0] <;> rfl) (by simp only [dn] <;> rfl) (by rfl) ?_ ?_
           focus exact ⟨M, st, ks, t, ls, s, (n : Int) + 1, ((n + 1 + q : Nat) : Int), rr, by rw [hsucc]; rfl, by omega, by omega, h3, h4, hM, by omega⟩
           focus (show (s - ((n : Int) + 1)).toNat < (s - (n : Int)).toNat; omega))
        | fail "no step")
    · have hz : M.at0 x = 0 := at0_out (by omega)
      rw [hz] at hsucc
      unfold tJAllL0
      repeat' (first
        | (first
          | (with_reducible refine st_need ?_ ?_
             focus (simp only [dn, reduceCtorEq, hx, bx_rm, hlen, decide_eq_true_eq] <;> first | omega | assumption))
          | (with_reducible refine st_and ?_ ?_)
          | (with_reducible exact st_ok)
          | (with_reducible refine st_br (fun hc => ?_) (fun hc => ?_) <;> (simp only [dn, reduceCtorEq, hx, bx_rm, hlen, decide_eq_true_eq] at hc) <;> (try (exfalso; first | contradiction | omega)))
          | (refine st_call (by rfl) (by simp only [dn, reduceCtorEq, hx, bx_rm, hlen, decide_eq_true_eq] <;> rfl) ?_ (by simp only [out_jrd] <;> rfl) (by simp only [dn] <;> rfl) ?_
             focus (first | exact ⟨_, rfl⟩ | exact ⟨_, rfl, hw⟩ | exact ⟨_, _, rfl, hM.1⟩ | exact ⟨_, rfl, isWd0⟩)))
        | (refine st_appf (V := jobsL M st n) (n := n) (vc := d) (by rfl) (by rfl) (by omega) (by simp only [List.map_cons, List.map_nil] <;> rfl) (fun q rr env' hr he => ?_)
           simp only [List.cons_append, List.nil_append] at he
           subst he)
        | (refine st_back (by rfl) (by simp only [dn, reduceCtorEq, e0] <;> rfl) (by simp only [dn] <;> rfl) (by rfl) ?_ ?_
           focus exact ⟨M, st, ks, t, ls, s, (n : Int) + 1, ((n + 1 + q : Nat) : Int), rr, by rw [hsucc]; rfl, by omega, by omega, h3, h4, hM, by omega⟩
           focus (show (s - ((n : Int) + 1)).toNat < (s - (n : Int)).toNat; omega))
        | fail "no step")
  · unfold tJAllL0
    repeat' (first
      | (first
        | (with_reducible refine st_need ?_ ?_
           focus (simp only [dn, reduceCtorEq, e0] <;> first | omega | assumption))
        | (with_reducible refine st_and ?_ ?_)
        | (with_reducible exact st_ok)
        | (with_reducible refine st_br (fun hc => ?_) (fun hc => ?_) <;> (simp only [dn, reduceCtorEq, e0] at hc) <;> (try (exfalso; first | contradiction | omega)))
        | (refine st_call (by rfl) (by simp only [dn, reduceCtorEq, e0] <;> rfl) ?_ (by rfl <;> rfl) (by simp only [dn] <;> rfl) ?_
           focus (first | rfl)))
      | (refine st_ret (by simp only [dn, reduceCtorEq, e0] <;> rfl) ?_
         focus (obtain rfl : s = (n : Int) := by omega
                exact ⟨M, st, ks, t, ls, (n : Int), cp, d, rfl, rfl⟩))
      | fail "no step")
set_option maxHeartbeats 4000000 in
theorem vJAll (P : Program) (hs : List (Nat × Nat × List Nat)) : ∀ ins, ins.length = cJAll.nin → cJAll.pre ins → tJAll.sat { cxDha P with hints := hs } (ctrR cJAll) ins := by
  rintro ins _ ⟨M, st, ks, t, ls, s, rfl, hM, h1, h2⟩
  unfold tJAll
  repeat' (first
    | (first
      | (with_reducible refine st_need ?_ ?_
         focus (simp only [dn, reduceCtorEq, hM] <;> first | omega | assumption))
      | (with_reducible refine st_and ?_ ?_)
      | (with_reducible exact st_ok)
      | (with_reducible refine st_br (fun hc => ?_) (fun hc => ?_) <;> (simp only [dn, reduceCtorEq, hM] at hc) <;> (try (exfalso; first | contradiction | omega)))
      | (refine st_call (by rfl) (by simp only [dn, reduceCtorEq, hM] <;> rfl) ?_ (by simp only [out_words] <;> rfl) (by simp only [dn] <;> rfl) ?_
         focus (first | exact ⟨_, rfl⟩)))
    | (refine st_lst (by simp only [dn, reduceCtorEq, hM] <;> rfl) ?_)
    | (refine st_loop (by rfl) (by simp only [dn, reduceCtorEq, hM] <;> rfl) (by simp only [dn] <;> rfl) ?_ (fun env' h => bJAll P hs env' h)
       exact ⟨M, st, ks, t, ls, s, 0, 0, [], rfl, by omega, by omega, h1, h2, hM, rfl⟩)
    | fail "no step")
theorem hctsJAll : ∀ (ci : Nat) (c : Ctr U), ([cWords, cJRd] : List (Ctr U))[ci]? = some c → c.Holds objs Tryz.prog := by
  intro ci c h
  match ci, h with
  | 0, h => cases h; exact hWords
  | 1, h => cases h; exact hJRd
  | n + 2, h => cases h
theorem hJAll : cJAll.Holds objs Tryz.prog := runCtr_holdsm (X := { cxDha Tryz.prog with hints := hsJAll }) (fuel := 20) (opens := []) (folds := []) objsOk mixed hctsJAll (callable _ Tryz.func12 (by kernel_rfl) (by kernel_rfl)) (by rintro ins outs _ _ ⟨_, _, _, _, _, _, _, _, _, rfl⟩; rfl) (by rw [rJAll]; exact vJAll _ _)
set_option maxHeartbeats 4000000 in
theorem bQAll (P : Program) (hs : List (Nat × Nat × List Nat)) : ∀ env, qaInv env → tQAllL0.sat { cxDhb P with hints := hs } (ctrR cQAll) env := by
  rintro env ⟨M, st, ks, t, ls, s, i, cp, d, rfl, h1, h2, h3, h4, hM, h5⟩
  have e0 : IntKind.i64.wrap (i + 1) = i + 1 := wrap_small (by omega) (by omega)
  have hsucc := jobsL_succ M st h1
  have hjl := jobsL_len M st i.toNat
  have hlen : ((jobsL M st i.toNat ++ d).length : Int) = 3 * i + d.length := by rw [List.length_append, hjl]; omega
  obtain ⟨n, rfl⟩ : ∃ n : Nat, i = n := ⟨i.toNat, by omega⟩
  rw [Int.toNat_natCast] at hjl
  have hw : isW (M.at0 (IntKind.i64.wrap (st + (n : Int)))) := fine_at0 hM _
  by_cases hi : (n : Int) < s
  all_goals
    unfold tQAllL0
    repeat' (first
      | (first
        | (with_reducible refine st_need ?_ ?_
           focus (simp only [dn, reduceCtorEq, bx_rm, hlen, decide_eq_true_eq] <;> first | omega | assumption))
        | (with_reducible refine st_and ?_ ?_)
        | (with_reducible exact st_ok)
        | (with_reducible refine st_br (fun hc => ?_) (fun hc => ?_) <;> (simp only [dn, reduceCtorEq, bx_rm, hlen, decide_eq_true_eq] at hc) <;> (try (exfalso; first | contradiction | omega)))
        | (refine st_call (by rfl) (by simp only [dn, reduceCtorEq, bx_rm, hlen, decide_eq_true_eq] <;> rfl) ?_ (by simp only [fo_at, out_qrd] <;> rfl) (by simp only [dn] <;> rfl) ?_
           focus (first | exact ⟨_, rfl⟩ | exact ⟨_, rfl, hw⟩ | exact ⟨_, _, rfl, hM.1⟩ | exact ⟨_, rfl, isWd0⟩)))
      | (refine st_appf (V := jobsL M st n) (n := n) (vc := d) (by rfl) (by rfl) (by omega) (by simp only [List.map_cons, List.map_nil] <;> rfl) (fun q rr env' hr he => ?_)
         simp only [List.cons_append, List.nil_append] at he
         subst he)
      | (refine st_back (by rfl) (by simp only [dn, reduceCtorEq, e0] <;> rfl) (by simp only [dn] <;> rfl) (by rfl) ?_ ?_
         focus exact ⟨M, st, ks, t, ls, s, (n : Int) + 1, ((n + 1 + q : Nat) : Int), rr, by rw [hsucc]; rfl, by omega, by omega, h3, h4, hM, by omega⟩
         focus (show (s - ((n : Int) + 1)).toNat < (s - (n : Int)).toNat; omega))
      | (refine st_ret (by simp only [dn, reduceCtorEq, e0] <;> rfl) ?_
         focus (obtain rfl : s = (n : Int) := by omega
                exact ⟨M, st, ks, t, ls, (n : Int), cp, d, rfl, rfl⟩))
      | fail "no step")
set_option maxHeartbeats 4000000 in
theorem vQAll (P : Program) (hs : List (Nat × Nat × List Nat)) : ∀ ins, ins.length = cQAll.nin → cQAll.pre ins → tQAll.sat { cxDhb P with hints := hs } (ctrR cQAll) ins := by
  rintro ins _ ⟨M, st, ks, t, ls, s, rfl, hM, h1, h2⟩
  unfold tQAll
  repeat' (first
    | (refine st_lst (by simp only [dn, reduceCtorEq, hM] <;> rfl) ?_)
    | (refine st_loop (by rfl) (by simp only [dn, reduceCtorEq, hM] <;> rfl) (by simp only [dn] <;> rfl) ?_ (fun env' h => bQAll P hs env' h)
       exact ⟨M, st, ks, t, ls, s, 0, 0, [], rfl, by omega, by omega, h1, h2, hM, rfl⟩)
    | fail "no step")
theorem hctsQAll : ∀ (ci : Nat) (c : Ctr U), ([cQAt, cQRd] : List (Ctr U))[ci]? = some c → c.Holds objs Tryz.prog := by
  intro ci c h
  match ci, h with
  | 0, h => cases h; exact hQAt
  | 1, h => cases h; exact hQRd
  | n + 2, h => cases h
theorem hQAll : cQAll.Holds objs Tryz.prog := runCtr_holdsm (X := { cxDhb Tryz.prog with hints := hsQAll }) (fuel := 20) (opens := []) (folds := []) objsOk mixed hctsQAll (callable _ Tryz.func78 (by kernel_rfl) (by kernel_rfl)) (by rintro ins outs _ _ ⟨_, _, _, _, _, _, _, _, _, rfl⟩; rfl) (by rw [rQAll]; exact vQAll _ _)
end Go.Proofs.YtdabdbbgaekmdaaGreat
/- What is told of all, on both sides (printed by gen_db.py). -/
namespace Go.Proofs.YtdabdbbgaekmdaaGreat
set_option linter.unusedVariables false
set_option linter.unusedSimpArgs false
set_option linter.unusedSectionVars false
open Go Go.RowKit

section
variable {k : Tree} {env : List (EV U)} {X : Cx U} {R : List (EV U) → List (EV U) → Prop} {ci : Nat} {β : List Bnd}
theorem st_jall {M : MemSt} {st ks t ls s : Int} (hc : X.cts[ci]? = some cJAll) (ha : β.map (Bnd.den env) = [.u (.mem M), .i st, .i ks, .i t, .i ls, .i s]) (hM : M.fine) (h1 : 1 ≤ s) (h2 : s ≤ 64)
    (hk : ∀ (cp : Int) (d : List Int) (env' : List (EV U)), env ++ [.u (.mem M), .l (jobsL M st s.toNat ++ d), .i s, .i cp] = env' → k.sat X R env') : (Tree.callm ci β k).sat X R env := by
  refine st_callm hc ha ⟨_, _, _, _, _, _, rfl, hM, h1, h2⟩ (fun o env' hr he => ?_)
  obtain ⟨M', st', ks', t', ls', s', cp, d, e1, e2⟩ := hr
  simp only [List.cons.injEq, EV.i.injEq, EV.u.injEq, U.mem.injEq, and_true] at e1
  obtain ⟨rfl, rfl, rfl, rfl, rfl, rfl⟩ := e1
  subst e2
  exact hk cp d env' he
theorem st_qall {M : MemSt} {st ks t ls s : Int} (hc : X.cts[ci]? = some cQAll) (ha : β.map (Bnd.den env) = [.u (.rmem M), .i st, .i ks, .i t, .i ls, .i s]) (hM : M.fine) (h1 : 1 ≤ s) (h2 : s ≤ 64)
    (hk : ∀ (cp : Int) (d : List Int) (env' : List (EV U)), env ++ [.u (.rmem M), .l (jobsL M st s.toNat ++ d), .i s, .i cp] = env' → k.sat X R env') : (Tree.callm ci β k).sat X R env := by
  refine st_callm hc ha ⟨_, _, _, _, _, _, rfl, hM, h1, h2⟩ (fun o env' hr he => ?_)
  obtain ⟨M', st', ks', t', ls', s', cp, d, e1, e2⟩ := hr
  simp only [List.cons.injEq, EV.i.injEq, EV.u.injEq, U.rmem.injEq, and_true] at e1
  obtain ⟨rfl, rfl, rfl, rfl, rfl, rfl⟩ := e1
  subst e2
  exact hk cp d env' he
theorem st_sets {i sz : Nat} {e : Ex} {xs : List Ex} {env' : List (EV U)} (he : env ++ [.l (setsL (gL env i) ((e.den env).toNat * sz) (xs.map (Ex.den env)))] = env') (hk : k.sat X R env') : (Tree.ext (.sets i e sz xs) k).sat X R env := by subst he; exact hk
end
theorem jget_pre {J d : List Int} {x : Int} (h : x < J.length) (h0 : 0 ≤ x) : (J ++ d)[x.toNat]?.getD 0 = J[x.toNat]?.getD 0 := by rw [List.getElem?_append_left (by omega)]
theorem jget_mid {P J d : List Int} {n : Nat} {x : Int} (hP : P.length = 3 * n) (h : 3 * (n : Int) ≤ x) (h1 : x < J.length) : (P ++ (J.drop (3 * n) ++ d))[x.toNat]?.getD 0 = J[x.toNat]?.getD 0 := by
  rw [List.getElem?_append_right (by omega), List.getElem?_append_left (by rw [List.length_drop]; omega), List.getElem?_drop, hP, show 3 * n + (x.toNat - 3 * n) = x.toNat by omega]
theorem sets_mid {P J d : List Int} {n : Nat} {a b c : Int} (hP : P.length = 3 * n) (h1 : 3 * n + 3 ≤ J.length) : setsL (P ++ (J.drop (3 * n) ++ d)) (n * 3) [a, b, c] = (P ++ [a, b, c]) ++ (J.drop (3 * (n + 1)) ++ d) := by
  unfold setsL
  have e1 : n * 3 = P.length := by omega
  rw [e1, List.take_left' rfl, ← List.drop_drop, List.drop_left' rfl, List.drop_append_of_le_length (by rw [List.length_drop]; simp; omega), List.drop_drop]
  simp only [List.length_cons, List.length_nil]
  rw [show 3 * n + (0 + 1 + 1 + 1) = 3 * (n + 1) by omega]
theorem true3 {a b c : Int} : (cmpDen .eql a a && (cmpDen .eql b b && cmpDen .eql c c)) = true := by simp [cmpDen]
set_option maxRecDepth 10000 in
set_option maxHeartbeats 8000000 in
theorem bAl2 (P : Program) (hs : List (Nat × Nat × List Nat)) : ∀ env, al2Inv env → tAllL0.sat { cxDhl P with hints := hs } (ctrR cAll) env := by
  rintro env ⟨M, st, ks, t, ls, s, i, ca, cb, cc, d, e, f, x15, x16, x17, rfl, h1, h2, h3, h4, hM⟩
  have e0 : IntKind.i64.wrap (i + 1) = i + 1 := wrap_small (by omega) (by omega)
  have hm : IntKind.i64.wrap (i * 3) = i * 3 := wrap_small (by omega) (by omega)
  have ha0 : IntKind.i64.wrap (i * 3 + 0) = i * 3 + 0 := wrap_small (by omega) (by omega)
  have ha1 : IntKind.i64.wrap (i * 3 + 1) = i * 3 + 1 := wrap_small (by omega) (by omega)
  have ha2 : IntKind.i64.wrap (i * 3 + 2) = i * 3 + 2 := wrap_small (by omega) (by omega)
  have hjl := jobsL_len M st s.toNat
  have hlf : ((jobsL M st s.toNat ++ f).length : Int) = 3 * s + f.length := by rw [List.length_append, hjl]; omega
  have hle : ((jobsL M st s.toNat ++ e).length : Int) = 3 * s + e.length := by rw [List.length_append, hjl]; omega
  by_cases hi : i < s
  · have f0 := jget_pre (J := jobsL M st s.toNat) (d := f) (x := i * 3 + 0) (by omega) (by omega)
    have f1 := jget_pre (J := jobsL M st s.toNat) (d := f) (x := i * 3 + 1) (by omega) (by omega)
    have f2 := jget_pre (J := jobsL M st s.toNat) (d := f) (x := i * 3 + 2) (by omega) (by omega)
    have g0 := jget_pre (J := jobsL M st s.toNat) (d := e) (x := i * 3 + 0) (by omega) (by omega)
    have g1 := jget_pre (J := jobsL M st s.toNat) (d := e) (x := i * 3 + 1) (by omega) (by omega)
    have g2 := jget_pre (J := jobsL M st s.toNat) (d := e) (x := i * 3 + 2) (by omega) (by omega)
    unfold tAllL0
    repeat' (first
      | (first
        | (with_reducible refine st_need ?_ ?_
           focus (simp only [dn, reduceCtorEq, hm, ha0, ha1, ha2, hlf, hle] <;> first | omega | assumption))
        | (with_reducible refine st_and ?_ ?_)
        | (with_reducible exact st_ok)
        | (with_reducible refine st_br (fun hc => ?_) (fun hc => ?_) <;> (simp only [dn, reduceCtorEq, hm, ha0, ha1, ha2, hlf, hle] at hc) <;> (try (exfalso; first | contradiction | omega)))
        | (refine st_call (by rfl) (by simp only [dn, reduceCtorEq, hm, ha0, ha1, ha2, hlf, hle] <;> rfl) ?_ (by rfl <;> rfl) (by simp only [dn] <;> rfl) ?_
           focus (first | rfl)))
      | (refine st_back (by rfl) (by simp only [dn, reduceCtorEq, e0, hm, ha0, ha1, ha2, f0, f1, f2, g0, g1, g2, true3] <;> rfl) (by simp only [dn] <;> rfl) (by rfl) ?_ ?_
         focus exact ⟨M, st, ks, t, ls, s, i + 1, ca, cb, cc, d, e, f, x15, x16, x17, rfl, by omega, by omega, h3, h4, hM⟩
         focus (show (s - (i + 1)).toNat < (s - i).toNat; omega))
      | fail "no step")
  · unfold tAllL0
    repeat' (first
      | (first
        | (with_reducible refine st_need ?_ ?_
           focus (simp only [dn, reduceCtorEq, e0] <;> first | omega | assumption))
        | (with_reducible refine st_and ?_ ?_)
        | (with_reducible exact st_ok)
        | (with_reducible refine st_br (fun hc => ?_) (fun hc => ?_) <;> (simp only [dn, reduceCtorEq, e0] at hc) <;> (try (exfalso; first | contradiction | omega)))
        | (refine st_call (by rfl) (by simp only [dn, reduceCtorEq, e0] <;> rfl) ?_ (by rfl <;> rfl) (by simp only [dn] <;> rfl) ?_
           focus (first | rfl)))
      | (refine st_ret (by simp only [dn, reduceCtorEq, e0] <;> rfl) ?_
         rfl)
      | fail "no step")
set_option maxRecDepth 10000 in
set_option maxHeartbeats 8000000 in
theorem bAl1 (P : Program) (hs : List (Nat × Nat × List Nat)) : ∀ env, al1Inv env → tAllL1.sat { cxDhl P with hints := hs } (ctrR cAll) env := by
  rintro env ⟨M, st, ks, t, ls, s, i, ca, cb, d, e, Q, rfl, hQ, h1, h2, h3, h4, hM⟩
  have e0 : IntKind.i64.wrap (i + 1) = i + 1 := wrap_small (by omega) (by omega)
  have hm : IntKind.i64.wrap (i * 3) = i * 3 := wrap_small (by omega) (by omega)
  have ha0 : IntKind.i64.wrap (i * 3 + 0) = i * 3 + 0 := wrap_small (by omega) (by omega)
  have ha1 : IntKind.i64.wrap (i * 3 + 1) = i * 3 + 1 := wrap_small (by omega) (by omega)
  have ha2 : IntKind.i64.wrap (i * 3 + 2) = i * 3 + 2 := wrap_small (by omega) (by omega)
  have hjl := jobsL_len M st s.toNat
  obtain ⟨n, rfl⟩ : ∃ n : Nat, i = n := ⟨i.toNat, by omega⟩
  simp only [Int.toNat_natCast] at hQ ⊢
  have hla : ((Q ++ ((jobsL M st s.toNat).drop (3 * n) ++ d)).length : Int) = 3 * s + d.length := by rw [List.length_append, List.length_append, List.length_drop, hjl, hQ]; omega
  have hle : ((jobsL M st s.toNat ++ e).length : Int) = 3 * s + e.length := by rw [List.length_append, hjl]; omega
  by_cases hi : (n : Int) < s
  · have f0 := jget_mid (J := jobsL M st s.toNat) (d := d) (x := (n : Int) * 3 + 0) hQ (by omega) (by omega)
    have f1 := jget_mid (J := jobsL M st s.toNat) (d := d) (x := (n : Int) * 3 + 1) hQ (by omega) (by omega)
    have f2 := jget_mid (J := jobsL M st s.toNat) (d := d) (x := (n : Int) * 3 + 2) hQ (by omega) (by omega)
    have g0 := jget_pre (J := jobsL M st s.toNat) (d := e) (x := (n : Int) * 3 + 0) (by omega) (by omega)
    have g1 := jget_pre (J := jobsL M st s.toNat) (d := e) (x := (n : Int) * 3 + 1) (by omega) (by omega)
    have g2 := jget_pre (J := jobsL M st s.toNat) (d := e) (x := (n : Int) * 3 + 2) (by omega) (by omega)
    have hset := sets_mid (J := jobsL M st s.toNat) (d := d) (a := -77) (b := 0) (c := 0) hQ (by omega)
    unfold tAllL1
    repeat' (first
      | (first
        | (with_reducible refine st_need ?_ ?_
           focus (simp only [dn, reduceCtorEq, hm, ha0, ha1, ha2, hla, hle] <;> first | omega | assumption))
        | (with_reducible refine st_and ?_ ?_)
        | (with_reducible exact st_ok)
        | (with_reducible refine st_br (fun hc => ?_) (fun hc => ?_) <;> (simp only [dn, reduceCtorEq, hm, ha0, ha1, ha2, hla, hle] at hc) <;> (try (exfalso; first | contradiction | omega)))
        | (refine st_call (by rfl) (by simp only [dn, reduceCtorEq, hm, ha0, ha1, ha2, hla, hle] <;> rfl) ?_ (by rfl <;> rfl) (by simp only [dn] <;> rfl) ?_
           focus (first | rfl)))
      | (refine st_sets (by simp only [dn, reduceCtorEq, Int.toNat_natCast, hset] <;> rfl) ?_)
      | (refine st_back (by rfl) (by simp only [dn, reduceCtorEq, e0, hm, ha0, ha1, ha2, f0, f1, f2, g0, g1, g2, true3] <;> rfl) (by simp only [dn] <;> rfl) (by rfl) ?_ ?_
         focus exact ⟨M, st, ks, t, ls, s, (n : Int) + 1, ca, cb, d, e, Q ++ [-77, 0, 0], rfl, by rw [List.length_append, hQ]; simp; omega, by omega, by omega, h3, h4, hM⟩
         focus (show (s - ((n : Int) + 1)).toNat < (s - (n : Int)).toNat; omega))
      | fail "no step")
  · unfold tAllL1
    repeat' (first
      | (first
        | (with_reducible refine st_need ?_ ?_
           focus (simp only [dn, reduceCtorEq, e0] <;> first | omega | assumption))
        | (with_reducible refine st_and ?_ ?_)
        | (with_reducible exact st_ok)
        | (with_reducible refine st_br (fun hc => ?_) (fun hc => ?_) <;> (simp only [dn, reduceCtorEq, e0] at hc) <;> (try (exfalso; first | contradiction | omega)))
        | (refine st_call (by rfl) (by simp only [dn, reduceCtorEq, e0] <;> rfl) ?_ (by rfl <;> rfl) (by simp only [dn] <;> rfl) ?_
           focus (first | rfl)))
      | (refine st_jall (by rfl) (by simp only [dn, reduceCtorEq, va_map] <;> rfl) hM h3 h4 (fun cc f env' he => ?_)
         simp only [List.cons_append, List.nil_append] at he
         subst he)
      | (refine st_loop (by rfl) (by simp only [dn, reduceCtorEq, e0] <;> rfl) (by simp only [dn] <;> rfl) ?_ (fun env' h => bAl2 P hs env' h)
         exact ⟨M, st, ks, t, ls, s, 0, ca, cb, cc, d, e, f, _, _, _, rfl, by omega, by omega, h3, h4, hM⟩)
      | fail "no step")
set_option maxRecDepth 10000 in
set_option maxHeartbeats 8000000 in
theorem vAll (P : Program) (hs : List (Nat × Nat × List Nat)) : ∀ ins, ins.length = cAll.nin → cAll.pre ins → tAll.sat { cxDhl P with hints := hs } (ctrR cAll) ins := by
  rintro ins _ ⟨M, st, ks, t, ls, s, rfl, hM, h1, h2⟩
  have hcs : cmpDen .eql s s = true := by simp [cmpDen]
  unfold tAll
  repeat' (first
    | (first
      | (with_reducible refine st_need ?_ ?_
         focus (simp only [dn, reduceCtorEq, va_map] <;> first | omega | assumption))
      | (with_reducible refine st_and ?_ ?_)
      | (with_reducible exact st_ok)
      | (with_reducible refine st_br (fun hc => ?_) (fun hc => ?_) <;> (simp only [dn, reduceCtorEq, va_map] at hc) <;> (try (exfalso; first | contradiction | omega)))
      | (refine st_call (by rfl) (by simp only [dn, reduceCtorEq, va_map] <;> rfl) ?_ (by rfl <;> rfl) (by simp only [dn] <;> rfl) ?_
         focus (first | rfl)))
    | (refine st_jall (by rfl) (by simp only [dn, reduceCtorEq, va_map] <;> rfl) hM h1 h2 (fun ca d env' he => ?_)
       simp only [List.cons_append, List.nil_append] at he
       subst he)
    | (refine st_qall (by rfl) (by simp only [dn, reduceCtorEq, va_map] <;> rfl) hM h1 h2 (fun cb e env' he => ?_)
       simp only [List.cons_append, List.nil_append] at he
       subst he)
    | (refine st_loop (by rfl) (by simp only [dn, reduceCtorEq, hcs] <;> rfl) (by simp only [dn] <;> rfl) ?_ (fun env' h => bAl1 P hs env' h)
       exact ⟨M, st, ks, t, ls, s, 0, ca, cb, d, e, [], rfl, rfl, by omega, by omega, h1, h2, hM⟩)
    | fail "no step")
theorem hctsAll : ∀ (ci : Nat) (c : Ctr U), ([cJAll, cQAll] : List (Ctr U))[ci]? = some c → c.Holds objs Tryz.prog := by
  intro ci c h
  match ci, h with
  | 0, h => cases h; exact hJAll
  | 1, h => cases h; exact hQAll
  | n + 2, h => cases h
theorem hAll : cAll.Holds objs Tryz.prog := runCtr_holds (X := { cxDhl Tryz.prog with hints := hsAll }) objsOk mixed hctsAll (callable _ Tryz.func21 (by kernel_rfl) (by kernel_rfl)) (by rintro ins _ ⟨_, _, _, _, _, _, rfl, _⟩; rfl) (by rw [rAll]; exact vAll _ _)
end Go.Proofs.YtdabdbbgaekmdaaGreat
