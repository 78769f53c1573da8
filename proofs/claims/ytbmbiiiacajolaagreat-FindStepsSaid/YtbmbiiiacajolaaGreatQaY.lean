/- Finds: what the document's tell; both tell the same (printed by gen_qy.py). -/
import Derived.Test.YtbmbiiiacajolaaGreatQaX
namespace Go.Proofs.YtbmbiiiacajolaaGreat
set_option linter.unusedVariables false
set_option linter.unusedSimpArgs false
set_option linter.unusedSectionVars false
open Go Go.RowKit

theorem hctsQp : ∀ (ci : Nat) (c : Ctr U), ctsQp[ci]? = some c → c.Holds objs Tryz.prog := by
  intro ci c h
  match ci, h with
  | 0, h => cases h; exact hCopyI
  | 1, h => cases h; exact hCopyW
  | n + 2, h => cases h
theorem cpy_e (c xs : List Int) (a b : Int) : cpyMany c [.l xs, .i a, .i b] = [.l (xs.take a.toNat ++ c), .i a, .i ((a.toNat + c.length : Nat) : Int)] := rfl
theorem rowQ_yes {g : FindSt → List Int} {F : FindSt} {c L : List Int} {k : Nat} (h : F.line = 9) (hg : g F = L) (e : (L.length : Int) = (k : Int)) : [EV.u (U.rfind F), .l (L.take (k : Int).toNat ++ c), .i (k : Int), .i (((k : Int).toNat + c.length : Nat) : Int)] = rowQ g c [.u (U.rfind F)] := by
  show _ = rowOut _ (F.told (g F)) c
  have e' : L.length = k := by omega
  rw [FindSt.told, if_pos h, hg, Int.toNat_natCast, ← e', List.take_length]; rfl
set_option maxRecDepth 10000 in
set_option maxHeartbeats 4000000 in
theorem vQPreds (P : Program) (hs : List (Nat × Nat × List Nat)) : ∀ ins, ins.length = cQPreds.nin → cQPreds.pre ins → tQPreds.sat { cxQp P with hints := hs } (ctrR cQPreds) ins := by
  rintro ins _ ⟨F, rfl⟩
  unfold tQPreds
  refine st_and (st_opn (T := rfindT) (by rfl) ?_) nomore_rfind
  rintro ps hl ⟨a0, a1, a2, a3, a4, a5, a6, a7, a8, a9, a10, a11, a12, key, line, l, pred, ref, cur, w, r, P, S, K, rfl, hn, hc1, hc2, hw3, g1, g2, e1, e2, e3⟩ he
  simp only [List.getElem?_cons_zero, rfindT, rfindObj, Option.some.injEq, EV.u.injEq, U.rfind.injEq] at he
  subst he
  simp only [List.cons_append, List.nil_append]
  obtain ⟨k, hk⟩ : ∃ k : Nat, a2 = k := ⟨a2.toNat, by omega⟩
  subst hk
  repeat' (first
    | (first
      | (with_reducible refine st_need ?_ ?_
         focus (simp only [dn, reduceCtorEq, hn, va_map] <;> first | omega | assumption))
      | (with_reducible refine st_and ?_ ?_)
      | (with_reducible exact st_ok)
      | (with_reducible refine st_br (fun hc => ?_) (fun hc => ?_) <;> (simp only [dn, reduceCtorEq, hn, va_map] at hc) <;> (try (exfalso; first | contradiction | omega)))
      | (refine st_call (by rfl) (by simp only [dn, reduceCtorEq, hn, va_map] <;> rfl) ?_ (by rfl <;> rfl) (by simp only [dn] <;> rfl) ?_
         focus (first | rfl)))
    | (refine st_callm (by rfl) (by simp only [dn, reduceCtorEq, va_map] <;> rfl) ?_ (fun o env' hm he => ?_)
       focus exact ⟨_, _, _, rfl, by omega, by omega, by omega⟩
       obtain ⟨cc, rfl⟩ := hm
       simp only [cpy_e, List.cons_append, List.nil_append] at he
       subst he)
    | (refine st_lst (by simp only [dn] <;> rfl) ?_)
    | (refine st_mk (by rfl) (by simp only [dn, reduceCtorEq, va_map] <;> rfl) ?_ (by simp only [dn] <;> rfl) ?_
       focus exact ⟨_, _, _, _, _, _, _, _, _, _, _, _, _, _, _, _, _, _, _, _, _, _, _, _, rfl, hn, hc1, hc2, hw3, g1, g2, by omega, by omega, by omega⟩)
    | (refine st_ret (by simp only [dn, reduceCtorEq, va_map] <;> rfl) ?_
       first
         | exact ⟨[], rowQ_no (by assumption)⟩
         | exact ⟨_, rowQ_yes (by assumption) rfl (by assumption)⟩
         | exact qerr_yes (by assumption)
         | exact qerr_no (by assumption)
         | rfl)
    | fail "no step")
theorem hQPreds : cQPreds.Holds objs Tryz.prog := runCtr_holdsm (X := { cxQp Tryz.prog with hints := hsQPreds }) objsOk mixed hctsQp (callable _ Tryz.func72 (by kernel_rfl) (by kernel_rfl)) (by rintro ins outs _ ⟨F, rfl⟩ ⟨c, rfl⟩; rfl) (by rw [rQPreds]; exact vQPreds _ _)
set_option maxRecDepth 10000 in
set_option maxHeartbeats 4000000 in
theorem vQSuccs (P : Program) (hs : List (Nat × Nat × List Nat)) : ∀ ins, ins.length = cQSuccs.nin → cQSuccs.pre ins → tQSuccs.sat { cxQp P with hints := hs } (ctrR cQSuccs) ins := by
  rintro ins _ ⟨F, rfl⟩
  unfold tQSuccs
  refine st_and (st_opn (T := rfindT) (by rfl) ?_) nomore_rfind
  rintro ps hl ⟨a0, a1, a2, a3, a4, a5, a6, a7, a8, a9, a10, a11, a12, key, line, l, pred, ref, cur, w, r, P, S, K, rfl, hn, hc1, hc2, hw3, g1, g2, e1, e2, e3⟩ he
  simp only [List.getElem?_cons_zero, rfindT, rfindObj, Option.some.injEq, EV.u.injEq, U.rfind.injEq] at he
  subst he
  simp only [List.cons_append, List.nil_append]
  obtain ⟨k, hk⟩ : ∃ k : Nat, a2 = k := ⟨a2.toNat, by omega⟩
  subst hk
  repeat' (first
    | (first
      | (with_reducible refine st_need ?_ ?_
         focus (simp only [dn, reduceCtorEq, hn, va_map] <;> first | omega | assumption))
      | (with_reducible refine st_and ?_ ?_)
      | (with_reducible exact st_ok)
      | (with_reducible refine st_br (fun hc => ?_) (fun hc => ?_) <;> (simp only [dn, reduceCtorEq, hn, va_map] at hc) <;> (try (exfalso; first | contradiction | omega)))
      | (refine st_call (by rfl) (by simp only [dn, reduceCtorEq, hn, va_map] <;> rfl) ?_ (by rfl <;> rfl) (by simp only [dn] <;> rfl) ?_
         focus (first | rfl)))
    | (refine st_callm (by rfl) (by simp only [dn, reduceCtorEq, va_map] <;> rfl) ?_ (fun o env' hm he => ?_)
       focus exact ⟨_, _, _, rfl, by omega, by omega, by omega⟩
       obtain ⟨cc, rfl⟩ := hm
       simp only [cpy_e, List.cons_append, List.nil_append] at he
       subst he)
    | (refine st_lst (by simp only [dn] <;> rfl) ?_)
    | (refine st_mk (by rfl) (by simp only [dn, reduceCtorEq, va_map] <;> rfl) ?_ (by simp only [dn] <;> rfl) ?_
       focus exact ⟨_, _, _, _, _, _, _, _, _, _, _, _, _, _, _, _, _, _, _, _, _, _, _, _, rfl, hn, hc1, hc2, hw3, g1, g2, by omega, by omega, by omega⟩)
    | (refine st_ret (by simp only [dn, reduceCtorEq, va_map] <;> rfl) ?_
       first
         | exact ⟨[], rowQ_no (by assumption)⟩
         | exact ⟨_, rowQ_yes (by assumption) rfl (by assumption)⟩
         | exact qerr_yes (by assumption)
         | exact qerr_no (by assumption)
         | rfl)
    | fail "no step")
theorem hQSuccs : cQSuccs.Holds objs Tryz.prog := runCtr_holdsm (X := { cxQp Tryz.prog with hints := hsQSuccs }) objsOk mixed hctsQp (callable _ Tryz.func73 (by kernel_rfl) (by kernel_rfl)) (by rintro ins outs _ ⟨F, rfl⟩ ⟨c, rfl⟩; rfl) (by rw [rQSuccs]; exact vQSuccs _ _)
set_option maxRecDepth 10000 in
set_option maxHeartbeats 4000000 in
theorem vQKnown (P : Program) (hs : List (Nat × Nat × List Nat)) : ∀ ins, ins.length = cQKnown.nin → cQKnown.pre ins → tQKnown.sat { cxQp P with hints := hs } (ctrR cQKnown) ins := by
  rintro ins _ ⟨F, rfl⟩
  unfold tQKnown
  refine st_and (st_opn (T := rfindT) (by rfl) ?_) nomore_rfind
  rintro ps hl ⟨a0, a1, a2, a3, a4, a5, a6, a7, a8, a9, a10, a11, a12, key, line, l, pred, ref, cur, w, r, P, S, K, rfl, hn, hc1, hc2, hw3, g1, g2, e1, e2, e3⟩ he
  simp only [List.getElem?_cons_zero, rfindT, rfindObj, Option.some.injEq, EV.u.injEq, U.rfind.injEq] at he
  subst he
  simp only [List.cons_append, List.nil_append]
  obtain ⟨k, hk⟩ : ∃ k : Nat, a2 = k := ⟨a2.toNat, by omega⟩
  subst hk
  repeat' (first
    | (first
      | (with_reducible refine st_need ?_ ?_
         focus (simp only [dn, reduceCtorEq, hn, va_map] <;> first | omega | assumption))
      | (with_reducible refine st_and ?_ ?_)
      | (with_reducible exact st_ok)
      | (with_reducible refine st_br (fun hc => ?_) (fun hc => ?_) <;> (simp only [dn, reduceCtorEq, hn, va_map] at hc) <;> (try (exfalso; first | contradiction | omega)))
      | (refine st_call (by rfl) (by simp only [dn, reduceCtorEq, hn, va_map] <;> rfl) ?_ (by rfl <;> rfl) (by simp only [dn] <;> rfl) ?_
         focus (first | rfl)))
    | (refine st_callm (by rfl) (by simp only [dn, reduceCtorEq, va_map] <;> rfl) ?_ (fun o env' hm he => ?_)
       focus exact ⟨_, _, _, rfl, by omega, by omega, by omega⟩
       obtain ⟨cc, rfl⟩ := hm
       simp only [cpy_e, List.cons_append, List.nil_append] at he
       subst he)
    | (refine st_lst (by simp only [dn] <;> rfl) ?_)
    | (refine st_mk (by rfl) (by simp only [dn, reduceCtorEq, va_map] <;> rfl) ?_ (by simp only [dn] <;> rfl) ?_
       focus exact ⟨_, _, _, _, _, _, _, _, _, _, _, _, _, _, _, _, _, _, _, _, _, _, _, _, rfl, hn, hc1, hc2, hw3, g1, g2, by omega, by omega, by omega⟩)
    | (refine st_ret (by simp only [dn, reduceCtorEq, va_map] <;> rfl) ?_
       first
         | exact ⟨[], rowQ_no (by assumption)⟩
         | exact ⟨_, rowQ_yes (by assumption) rfl (by assumption)⟩
         | exact qerr_yes (by assumption)
         | exact qerr_no (by assumption)
         | rfl)
    | fail "no step")
theorem hQKnown : cQKnown.Holds objs Tryz.prog := runCtr_holdsm (X := { cxQp Tryz.prog with hints := hsQKnown }) objsOk mixed hctsQp (callable _ Tryz.func74 (by kernel_rfl) (by kernel_rfl)) (by rintro ins outs _ ⟨F, rfl⟩ ⟨c, rfl⟩; rfl) (by rw [rQKnown]; exact vQKnown _ _)
set_option maxRecDepth 10000 in
set_option maxHeartbeats 4000000 in
theorem vQBy (P : Program) (hs : List (Nat × Nat × List Nat)) : ∀ ins, ins.length = cQBy.nin → cQBy.pre ins → tQBy.sat { cxQi P with hints := hs } (ctrR cQBy) ins := by
  rintro ins _ ⟨F, rfl⟩
  unfold tQBy
  refine st_and (st_opn (T := rfindT) (by rfl) ?_) nomore_rfind
  rintro ps hl ⟨a0, a1, a2, a3, a4, a5, a6, a7, a8, a9, a10, a11, a12, key, line, l, pred, ref, cur, w, r, P, S, K, rfl, hn, hc1, hc2, hw3, g1, g2, e1, e2, e3⟩ he
  simp only [List.getElem?_cons_zero, rfindT, rfindObj, Option.some.injEq, EV.u.injEq, U.rfind.injEq] at he
  subst he
  simp only [List.cons_append, List.nil_append]
  repeat' (first
    | (first
      | (with_reducible refine st_need ?_ ?_
         focus (simp only [dn, reduceCtorEq, hn, va_map] <;> first | omega | assumption))
      | (with_reducible refine st_and ?_ ?_)
      | (with_reducible exact st_ok)
      | (with_reducible refine st_br (fun hc => ?_) (fun hc => ?_) <;> (simp only [dn, reduceCtorEq, hn, va_map] at hc) <;> (try (exfalso; first | contradiction | omega)))
      | (refine st_call (by rfl) (by simp only [dn, reduceCtorEq, hn, va_map] <;> rfl) ?_ (by rfl <;> rfl) (by simp only [dn] <;> rfl) ?_
         focus (first | rfl)))
    | (refine st_callm (by rfl) (by simp only [dn, reduceCtorEq, va_map] <;> rfl) ?_ (fun o env' hm he => ?_)
       focus exact ⟨_, _, _, rfl, by omega, by omega, by omega⟩
       obtain ⟨cc, rfl⟩ := hm
       simp only [cpy_e, List.cons_append, List.nil_append] at he
       subst he)
    | (refine st_lst (by simp only [dn] <;> rfl) ?_)
    | (refine st_mk (by rfl) (by simp only [dn, reduceCtorEq, va_map] <;> rfl) ?_ (by simp only [dn] <;> rfl) ?_
       focus exact ⟨_, _, _, _, _, _, _, _, _, _, _, _, _, _, _, _, _, _, _, _, _, _, _, _, rfl, hn, hc1, hc2, hw3, g1, g2, by omega, by omega, by omega⟩)
    | (refine st_ret (by simp only [dn, reduceCtorEq, va_map] <;> rfl) ?_
       first
         | exact ⟨[], rowQ_no (by assumption)⟩
         | exact ⟨_, rowQ_yes (by assumption) rfl (by assumption)⟩
         | exact qerr_yes (by assumption)
         | exact qerr_no (by assumption)
         | rfl)
    | fail "no step")
theorem hQBy : cQBy.Holds objs Tryz.prog := runCtr_holds (X := { cxQi Tryz.prog with hints := hsQBy }) objsOk mixed noCts (callable _ Tryz.func76 (by kernel_rfl) (by kernel_rfl)) (by rintro ins _ ⟨_, rfl⟩; rfl) (by rw [rQBy]; exact vQBy _ _)
set_option maxRecDepth 10000 in
set_option maxHeartbeats 4000000 in
theorem vQErr (P : Program) (hs : List (Nat × Nat × List Nat)) : ∀ ins, ins.length = cQErr.nin → cQErr.pre ins → tQErr.sat { cxQi P with hints := hs } (ctrR cQErr) ins := by
  rintro ins _ ⟨F, rfl⟩
  unfold tQErr
  refine st_and (st_opn (T := rfindT) (by rfl) ?_) nomore_rfind
  rintro ps hl ⟨a0, a1, a2, a3, a4, a5, a6, a7, a8, a9, a10, a11, a12, key, line, l, pred, ref, cur, w, r, P, S, K, rfl, hn, hc1, hc2, hw3, g1, g2, e1, e2, e3⟩ he
  simp only [List.getElem?_cons_zero, rfindT, rfindObj, Option.some.injEq, EV.u.injEq, U.rfind.injEq] at he
  subst he
  simp only [List.cons_append, List.nil_append]
  repeat' (first
    | (first
      | (with_reducible refine st_need ?_ ?_
         focus (simp only [dn, reduceCtorEq, hn, va_map] <;> first | omega | assumption))
      | (with_reducible refine st_and ?_ ?_)
      | (with_reducible exact st_ok)
      | (with_reducible refine st_br (fun hc => ?_) (fun hc => ?_) <;> (simp only [dn, reduceCtorEq, hn, va_map] at hc) <;> (try (exfalso; first | contradiction | omega)))
      | (refine st_call (by rfl) (by simp only [dn, reduceCtorEq, hn, va_map] <;> rfl) ?_ (by rfl <;> rfl) (by simp only [dn] <;> rfl) ?_
         focus (first | rfl)))
    | (refine st_callm (by rfl) (by simp only [dn, reduceCtorEq, va_map] <;> rfl) ?_ (fun o env' hm he => ?_)
       focus exact ⟨_, _, _, rfl, by omega, by omega, by omega⟩
       obtain ⟨cc, rfl⟩ := hm
       simp only [cpy_e, List.cons_append, List.nil_append] at he
       subst he)
    | (refine st_lst (by simp only [dn] <;> rfl) ?_)
    | (refine st_mk (by rfl) (by simp only [dn, reduceCtorEq, va_map] <;> rfl) ?_ (by simp only [dn] <;> rfl) ?_
       focus exact ⟨_, _, _, _, _, _, _, _, _, _, _, _, _, _, _, _, _, _, _, _, _, _, _, _, rfl, hn, hc1, hc2, hw3, g1, g2, by omega, by omega, by omega⟩)
    | (refine st_ret (by simp only [dn, reduceCtorEq, va_map] <;> rfl) ?_
       first
         | exact ⟨[], rowQ_no (by assumption)⟩
         | exact ⟨_, rowQ_yes (by assumption) rfl (by assumption)⟩
         | exact qerr_yes (by assumption)
         | exact qerr_no (by assumption)
         | rfl)
    | fail "no step")
theorem hQErr : cQErr.Holds objs Tryz.prog := runCtr_holds (X := { cxQi Tryz.prog with hints := hsQErr }) objsOk mixed noCts (callable _ Tryz.func78 (by kernel_rfl) (by kernel_rfl)) (by rintro ins _ ⟨_, rfl⟩; rfl) (by rw [rQErr]; exact vQErr _ _)
theorem rowF_e (g : FindSt → List Int) (c : List Int) (F : FindSt) : rowF g c [.u (.find F)] = [.u (.find F), .l (F.told (g F) ++ c), .i (F.told (g F)).length, .i (((F.told (g F)).length + c.length : Nat) : Int)] := rfl
theorem rowQ_e (g : FindSt → List Int) (c : List Int) (F : FindSt) : rowQ g c [.u (.rfind F)] = [.u (.rfind F), .l (F.told (g F) ++ c), .i (F.told (g F)).length, .i (((F.told (g F)).length + c.length : Nat) : Int)] := rfl
theorem told_le {F : FindSt} {L : List Int} (h : L.length ≤ 4) : (F.told L).length ≤ 4 := by
  unfold FindSt.told; split
  · exact h
  · exact Nat.zero_le _
theorem out_sI (L c c' : List Int) (a b : Int) : cSameInts.out [.l (L ++ c), .l (L ++ c'), .i L.length, .i a, .i L.length, .i b] = [.b true] := by
  show [EV.b (decide ((L ++ c).take (L.length : Int).toNat = (L ++ c').take (L.length : Int).toNat))] = _
  rw [Int.toNat_natCast, List.take_left' rfl, List.take_left' rfl, decide_eq_true rfl]
theorem out_sW (L c c' : List Int) (a b : Int) : cSameWords.out [.l (L ++ c), .l (L ++ c'), .i L.length, .i a, .i L.length, .i b] = [.b true] := by
  show [EV.b (decide ((L ++ c).take (L.length : Int).toNat = (L ++ c').take (L.length : Int).toNat))] = _
  rw [Int.toNat_natCast, List.take_left' rfl, List.take_left' rfl, decide_eq_true rfl]
theorem pre_sI {L c c' : List Int} {a b : Int} (h : L.length ≤ 4) : cSameInts.pre [.l (L ++ c), .l (L ++ c'), .i L.length, .i a, .i L.length, .i b] := ⟨_, _, _, _, _, _, rfl, by omega, by rw [List.length_append]; omega, by omega, by rw [List.length_append]; omega, by omega⟩
theorem pre_sW {L c c' : List Int} {a b : Int} (h : L.length ≤ 4) : cSameWords.pre [.l (L ++ c), .l (L ++ c'), .i L.length, .i a, .i L.length, .i b] := ⟨_, _, _, _, _, _, rfl, by omega, by rw [List.length_append]; omega, by omega, by rw [List.length_append]; omega, by omega⟩
theorem pre_ov {L c : List Int} {b : Int} (h : L.length ≤ 4) : ∃ (xs : List Int) (a e : Int), ([.l (L ++ c), .i L.length, .i b] : List (EV U)) = [.l xs, .i a, .i e] ∧ 0 ≤ a ∧ a ≤ xs.length ∧ a ≤ 1000 := ⟨_, _, _, rfl, by omega, by rw [List.length_append]; omega, by omega⟩
theorem out_ovI (xs : List Int) (a c : Int) : cOverI.out [.l xs, .i a, .i c] = [.l (List.replicate a.toNat (-77) ++ xs.drop a.toNat)] := rfl
theorem out_ovW (xs : List Int) (a c : Int) : cOverW.out [.l xs, .i a, .i c] = [.l (List.replicate a.toNat 7777777 ++ xs.drop a.toNat)] := rfl
theorem out_fby (F : FindSt) : cFBy.out [.u (.find F)] = [.u (.find F), .i F.r] := rfl
theorem out_qby (F : FindSt) : cQBy.out [.u (.rfind F)] = [.u (.rfind F), .i F.r] := rfl
theorem out_ferr (F : FindSt) : cFErr.out [.u (.find F)] = [.u (.find F), .i (errF F)] := rfl
theorem out_qerr (F : FindSt) : cQErr.out [.u (.rfind F)] = [.u (.rfind F), .i (errF F)] := rfl
set_option maxRecDepth 10000 in
set_option maxHeartbeats 4000000 in
theorem vAlike (P : Program) (hs : List (Nat × Nat × List Nat)) : ∀ ins, ins.length = cAlike.nin → cAlike.pre ins → tAlike.sat { cxQa P with hints := hs } (ctrR cAlike) ins := by
  rintro ins _ (⟨F, rfl, f1, f2, f3⟩ | rfl)
  · have t1 := told_le (F := F) f1
    have t2 := told_le (F := F) f2
    have t3 := told_le (F := F) f3
    unfold tAlike
    repeat' (first
      | (first
        | (with_reducible refine st_need ?_ ?_
           focus (simp only [dn, reduceCtorEq, cmp_self, va_map] <;> first | omega | assumption))
        | (with_reducible refine st_and ?_ ?_)
        | (with_reducible exact st_ok)
        | (with_reducible refine st_br (fun hc => ?_) (fun hc => ?_) <;> (simp only [dn, reduceCtorEq, cmp_self, va_map] at hc) <;> (try (exfalso; first | contradiction | omega)))
        | (refine st_call (by rfl) (by simp only [dn, reduceCtorEq, cmp_self, va_map] <;> rfl) ?_ (by simp only [out_sI, out_sW, out_ovI, out_ovW, out_fby, out_qby, out_ferr, out_qerr] <;> rfl) (by simp only [dn] <;> rfl) ?_
           focus (first | exact ⟨_, rfl⟩ | exact pre_sI t1 | exact pre_sW t2 | exact pre_sW t3 | exact pre_ov t1 | exact pre_ov t2 | exact pre_ov t3)))
      | (refine st_callm (by rfl) (by simp only [dn, reduceCtorEq, va_map] <;> rfl) ?_ (fun o env' hm he => ?_)
         focus exact ⟨_, rfl⟩
         obtain ⟨cc, rfl⟩ := hm
         simp only [rowF_e, rowQ_e, List.cons_append, List.nil_append] at he
         subst he)
      | (refine st_ret (by simp only [dn, reduceCtorEq, va_map] <;> rfl) ?_
         rfl)
      | fail "no step")
  · unfold tAlike
    repeat' (first
      | (first
        | (with_reducible refine st_need ?_ ?_
           focus (simp only [dn, reduceCtorEq, cmp_self, va_map] <;> first | omega | assumption))
        | (with_reducible refine st_and ?_ ?_)
        | (with_reducible exact st_ok)
        | (with_reducible refine st_br (fun hc => ?_) (fun hc => ?_) <;> (simp only [dn, reduceCtorEq, cmp_self, va_map] at hc) <;> (try (exfalso; first | contradiction | omega)))
        | (refine st_call (by rfl) (by simp only [dn, reduceCtorEq, cmp_self, va_map] <;> rfl) ?_ (by rfl <;> rfl) (by simp only [dn] <;> rfl) ?_
           focus (first | exact ⟨_, rfl⟩)))
      | (refine st_ret (by simp only [dn, reduceCtorEq, va_map] <;> rfl) ?_
         rfl)
      | fail "no step")
theorem hctsQa : ∀ (ci : Nat) (c : Ctr U), ctsQa[ci]? = some c → c.Holds objs Tryz.prog := by
  intro ci c h
  match ci, h with
  | 0, h => cases h; exact hSameInts
  | 1, h => cases h; exact hSameWords
  | 2, h => cases h; exact hFPreds
  | 3, h => cases h; exact hFSuccs
  | 4, h => cases h; exact hFKnown
  | 5, h => cases h; exact hQPreds
  | 6, h => cases h; exact hQSuccs
  | 7, h => cases h; exact hQKnown
  | 8, h => cases h; exact hFBy
  | 9, h => cases h; exact hQBy
  | 10, h => cases h; exact hFErr
  | 11, h => cases h; exact hQErr
  | 12, h => cases h; exact hOverI
  | 13, h => cases h; exact hOverW
  | n + 14, h => cases h
theorem hAlike : cAlike.Holds objs Tryz.prog := runCtr_holds (X := { cxQa Tryz.prog with hints := hsAlike }) objsOk mixed hctsQa (callable _ Tryz.func15 (by kernel_rfl) (by kernel_rfl)) (by rintro ins _ (⟨_, rfl, _⟩ | rfl) <;> rfl) (by rw [rAlike]; exact vAlike _ _)
theorem hFNew : cFNew.Holds objs Tryz.prog := by
  refine ⟨hFNew1.1, ?_, ?_⟩
  · rintro ins outs _ ⟨_, _, _, _, _, _, _, _, _, _, _, _, _, _, rfl, _⟩ h3
    have h3' : outs = _ := h3
    rw [h3']; rfl
  · rintro ins ρ w vals F hl ⟨a0, a1, a2, a3, a4, a5, a6, a7, a8, a9, a10, a11, a12, key, rfl, ht⟩ ha hs
    obtain ⟨h1, h2, _⟩ := okT_facts ht
    have hh : a2 = 1 ∨ a2 = 2 ∨ a2 = 3 ∨ a2 = 4 := by omega
    rcases hh with rfl | rfl | rfl | rfl
    · exact hFNew1.2.2 _ ρ w vals F hl ⟨_, _, _, _, _, _, _, _, _, _, _, _, _, _, rfl, rfl, ht⟩ ha hs
    · exact hFNew2.2.2 _ ρ w vals F hl ⟨_, _, _, _, _, _, _, _, _, _, _, _, _, _, rfl, rfl, ht⟩ ha hs
    · exact hFNew3.2.2 _ ρ w vals F hl ⟨_, _, _, _, _, _, _, _, _, _, _, _, _, _, rfl, rfl, ht⟩ ha hs
    · exact hFNew4.2.2 _ ρ w vals F hl ⟨_, _, _, _, _, _, _, _, _, _, _, _, _, _, rfl, rfl, ht⟩ ha hs
end Go.Proofs.YtbmbiiiacajolaaGreat
