/- Epochs: plays, and alone each ends: they hold. -/
import Derived.Test.YtjohihkbampbgaaEoT
import Derived.Test.YtjohihkbampbgaaEp
import Derived.Test.YtjohihkbampbgaaEmV
namespace Go.Proofs.Ytjohihkbampbgaa
set_option linter.unusedVariables false
set_option linter.unusedSimpArgs false
set_option linter.unusedSectionVars false
open Go Go.RowKit

section
variable {X : Cx U} {R : List (EV U) → List (EV U) → Prop} {ci : Nat} {β : List Bnd} {k : Tree} {env : List (EV U)} {M M' : MemSt} {a a' : Nat → Int} {o o' : Nat → CoreE} {x n : Int} {c : Nat}
theorem st_loopP {id ne : Nat} {a e0 : List (EV U)} {s : LoopS U} (hs : X.loops[id]? = some s) (ha : β.map (Bnd.den env) = a) (h0 : env.take ne = e0) (hi : s.inv (e0 ++ a)) (hk : ∀ fr, s.inv (e0 ++ fr) → k.sat X R (e0 ++ fr)) : (Tree.loop id ne β k).sat X R env := by
  subst ha h0
  simp only [Tree.sat, hs]
  exact ⟨hi, fun fr _ h => hk _ h⟩
theorem st_busy (hc : X.cts[ci]? = some cBusy) (ha : β.map (Bnd.den env) = crewL M a o ++ [.i x]) (hx : x = ((c : Nat) : Int)) (h3 : c < 3) (hk : ∀ env', env ++ [.b (busyE (o c))] = env' → k.sat X R env') : (Tree.call ci β k).sat X R env := by
  subst hx
  exact st_call hc ha ⟨M, a, o, c, [], rfl, rfl, h3, trivial⟩ (out_busy h3) rfl (hk _ rfl)
theorem st_begins {y : Int} (hc : X.cts[ci]? = some cBegins) (ha : β.map (Bnd.den env) = crewL M a o ++ [.i x, .i y]) (hx : x = ((c : Nat) : Int)) (h3 : c < 3) (hb : busyE (o c) = false) (I : crewInv M a o n)
    (hk : ∀ a1 o1, crewInv M a1 o1 n → ∀ env', env ++ crewL M a1 o1 = env' → k.sat X R env') : (Tree.call ci β k).sat X R env := by
  subst hx
  exact st_call hc ha ⟨⟨M, a, o, c, [.i y], rfl, rfl, h3, busy_none hb⟩, y, rfl⟩ (out_begins h3) rfl (hk _ _ (begin_step I h3 (busy_none hb)) _ rfl)
theorem st_steps (hc : X.cts[ci]? = some cSteps) (ha : β.map (Bnd.den env) = crewL M a o ++ [.i x]) (hx : x = ((c : Nat) : Int)) (h3 : c < 3) (I : crewInv M a o n) (hn : n + 1 ≤ 500)
    (hk1 : ∀ M1 a1 o1, crewInv M1 a1 o1 (n + 1) → M1.ep = M.ep + 1 → M.ep = a c → ∀ env', env ++ (crewL M1 a1 o1 ++ [.b true, .b true]) = env' → k.sat X R env')
    (hk0 : ∀ M1 a1 o1, crewInv M1 a1 o1 (n + 1) → M1.ep = M.ep → ∀ env', env ++ (crewL M1 a1 o1 ++ [.b false, .b true]) = env' → k.sat X R env') : (Tree.call ci β k).sat X R env := by
  subst hx
  obtain ⟨I1, hf, h1, h0, _⟩ := act_step I h3 hn
  cases ho : (actO (o c) M (a c)).2.2.2.1 with
  | true => exact st_call hc ha ⟨M, a, o, c, [], rfl, rfl, h3, ok_core I h3⟩ (by rw [out_steps h3, hf, ho]) rfl (hk1 _ _ _ I1 (h1 ho).1 (h1 ho).2 _ rfl)
  | false => exact st_call hc ha ⟨M, a, o, c, [], rfl, rfl, h3, ok_core I h3⟩ (by rw [out_steps h3, hf, ho]) rfl (hk0 _ _ _ I1 (h0 ho) _ rfl)
theorem st_stepsR (hc : X.cts[ci]? = some cSteps) (ha : β.map (Bnd.den env) = crewL M a o ++ [.i x]) (hx : x = ((c : Nat) : Int)) (h3 : c < 3) (I : crewInv M a o n) (hn : n + 1 ≤ 500) (hb : busyE (o c) = true)
    (hk : ∀ M1 a1 o1 on, crewInv M1 a1 o1 (n + 1) → remE c M1.ep (o1 c) < remE c M.ep (o c) → (∀ P, o1 c ≠ .unp P) → (∀ d, d ≠ c → o1 d = o d) → ∀ env', env ++ (crewL M1 a1 o1 ++ [.b on, .b true]) = env' → k.sat X R env') : (Tree.call ci β k).sat X R env := by
  subst hx
  obtain ⟨I1, hf, _⟩ := act_step I h3 hn
  obtain ⟨r1, r2⟩ := act_rem I h3 (none_busy hb)
  exact st_call hc ha ⟨M, a, o, c, [], rfl, rfl, h3, ok_core I h3⟩ (by rw [out_steps h3, hf]) rfl (hk _ _ _ _ I1 (by rw [upd_same]; exact r1) (fun P => by rw [upd_same]; exact r2 P) (fun d h => upd_ne h) _ rfl)
theorem st_stepsI {y : CoreE} {a1 : Int} {on fine : Bool} (hc : X.cts[ci]? = some cSteps) (ha : β.map (Bnd.den env) = crewL M a o ++ [.i x]) (hx : x = ((c : Nat) : Int)) (h3 : c < 3) (ok : okE (o c)) (hr : actO (o c) M (a c) = (y, M', a1, on, fine)) (hA : upd a c a1 = a') (hO : upd o c y = o')
    (hk : ∀ env', env ++ (crewL M' a' o' ++ [.b on, .b fine]) = env' → k.sat X R env') : (Tree.call ci β k).sat X R env := by
  subst hx hA hO
  exact st_call hc ha ⟨M, a, o, c, [], rfl, rfl, h3, ok⟩ (by rw [out_steps h3, hr]) rfl (hk _ rfl)
theorem st_plays {g : Nat → Nat → Int} {kk : Nat} {cc : Int} (hc : X.cts[ci]? = some cPlays) (ha : β.map (Bnd.den env) = [.u (.mem M), .f g kk, .i kk, .i cc]) (hk3 : kk ≤ 300) (I : crewInv M (fun _ => -1) (fun _ => .none) 0)
    (hk : ∀ M1 a1 o1, crewInv M1 a1 o1 kk → ∀ env', env ++ (crewL M1 a1 o1 ++ [.b true]) = env' → k.sat X R env') : (Tree.callm ci β k).sat X R env :=
  st_callm hc ha ⟨M, g, kk, cc, rfl, hk3, I⟩ (fun out env' hm he => by
    obtain ⟨M1, a1, o1, rfl, I1⟩ := hm
    exact hk M1 a1 o1 I1 env' he)
theorem mayF {pre : List (EV U)} {n p : Nat} {e : Int} (h34 : gI pre 34 = c) (hc : c < 3) (g0 : gI pre (p + 1) = a 0) (g1 : gI pre (p + 1 + 1) = a 1) (g2 : gI pre (p + 1 + 2) = a 2) (gn : gI pre (n - 1) = e) {d : Nat} (hd : d ≤ 3) :
    (gI pre (p + 1 + (gI pre 34).toNat) = gI pre (n - 1) ∧ ∀ e : Nat, e < d → gI pre (p + 1 + e) < 0 ∨ gI pre (p + 1 + e) = gI pre (n - 1)) ↔ mayD a e c d := by
  have g : ∀ f : Nat, f < 3 → gI pre (p + 1 + f) = a f := fun f hf => by
    match f, hf with
    | 0, _ => exact g0
    | 1, _ => exact g1
    | 2, _ => exact g2
  rw [h34, gn, Int.toNat_natCast, g c hc]
  constructor
  · rintro ⟨h1, h2⟩; exact ⟨h1, fun f hf => by have := h2 f hf; rw [g f (by omega)] at this; exact this⟩
  · rintro ⟨h1, h2⟩; exact ⟨h1, fun f hf => by rw [g f (by omega)]; exact h2 f hf⟩
theorem may_inv {pre : List (EV U)} {n p : Nat} {e : Int} {m : Bool} {d : Nat} (hl : pre.length = n) (h34 : gI pre 34 = c) (hc : c < 3) (g0 : gI pre (p + 1) = a 0) (g1 : gI pre (p + 1 + 1) = a 1) (g2 : gI pre (p + 1 + 2) = a 2) (gn : gI pre (n - 1) = e) (hd : d ≤ 3) (hx : x = (d : Int))
    (hm : m = true ↔ mayD a e c d) : mayInv n p (pre ++ [.b m, .i x]) := by
  subst hx
  exact ⟨pre, m, d, rfl, hl, hd, hm.trans (mayF h34 hc g0 g1 g2 gn hd).symm⟩
theorem inv_may {pre fr : List (EV U)} {n p : Nat} {e : Int} (hl : pre.length = n) (h34 : gI pre 34 = c) (hc : c < 3) (g0 : gI pre (p + 1) = a 0) (g1 : gI pre (p + 1 + 1) = a 1) (g2 : gI pre (p + 1 + 2) = a 2) (gn : gI pre (n - 1) = e) (h : mayInv n p (pre ++ fr)) :
    ∃ m, ∃ d : Nat, fr = [.b m, .i d] ∧ d ≤ 3 ∧ (m = true ↔ mayD a e c d) := by
  obtain ⟨pre', m, d, h1, h2, h3, h4⟩ := h
  obtain ⟨rfl, rfl⟩ := List.append_inj h1 (by omega)
  exact ⟨m, d, rfl, h3, h4.trans (mayF h34 hc g0 g1 g2 gn h3)⟩
end
set_option maxHeartbeats 4000000 in
theorem bPl0 (P : Program) (hs : List (Nat × Nat × List Nat)) {M0 M : MemSt} {g : Nat → Nat → Int} {k : Nat} {cc : Int} {a : Nat → Int} {o : Nat → CoreE} {i : Int} (h1 : 0 ≤ i) (h2 : i ≤ k) (h3 : k ≤ 300) (I : crewInv M a o i) (hp : ((g i.toNat 0).emod 300).tmod 3 = 0) :
    tPlaysL0.sat { cxPl P with hints := hs } (ctrR cPlays) ([.u (.mem M0), .f g k, .i k, .i cc] ++ (crewL M a o ++ [.i i])) := by
  have hnow := now_is I
  have hE0 := I.2.1
  have hE1 : M.ep ≤ 500 := Int.le_trans I.2.2.1 I.2.2.2.1
  have hw : IntKind.i64.wrap (M.ep + 1) = M.ep + 1 := wrap_small (by omega) (by omega)
  unfold tPlaysL0 crewL
  simp only [List.cons_append, List.nil_append]
  repeat' (first
    | (first
      | (with_reducible refine st_need ?_ ?_
         focus (simp only [Bx.den, Ex.den, Bnd.den, gI, gB, gL, gF, gN, gNil, List.map_cons, List.map_nil, List.cons_append, List.nil_append, List.getElem?_cons_zero, List.getElem?_cons_succ, List.getD, Option.getD_some, cmp_eql_t, cmp_eql_f, cmp_neq_t, cmp_neq_f, cmp_lss_t, cmp_lss_f, cmp_leq_t, cmp_leq_f, cmp_gtr_t, cmp_gtr_f, cmp_geq_t, cmp_geq_f, Bool.not_eq_true', Bool.not_eq_false', Bool.and_eq_true, Bool.and_eq_false_iff, binDen, Option.some.injEq, EV.u.injEq, Nil.isNil, beq_self_eq_true, and_self, true_and, and_true, or_false, false_or, or_self, not_true_eq_false, not_false_eq_true, ne_eq, Bool.true_eq_false, Bool.false_eq_true, reduceCtorEq, hp, hnow, hw, hnow2] <;> first | omega | assumption))
      | (with_reducible refine st_and ?_ ?_)
      | (with_reducible exact st_ok)
      | (with_reducible refine st_br (fun hc => ?_) (fun hc => ?_) <;> (simp only [Bx.den, Ex.den, Bnd.den, gI, gB, gL, gF, gN, gNil, List.map_cons, List.map_nil, List.cons_append, List.nil_append, List.getElem?_cons_zero, List.getElem?_cons_succ, List.getD, Option.getD_some, cmp_eql_t, cmp_eql_f, cmp_neq_t, cmp_neq_f, cmp_lss_t, cmp_lss_f, cmp_leq_t, cmp_leq_f, cmp_gtr_t, cmp_gtr_f, cmp_geq_t, cmp_geq_f, Bool.not_eq_true', Bool.not_eq_false', Bool.and_eq_true, Bool.and_eq_false_iff, binDen, Option.some.injEq, EV.u.injEq, Nil.isNil, beq_self_eq_true, and_self, true_and, and_true, or_false, false_or, or_self, not_true_eq_false, not_false_eq_true, ne_eq, Bool.true_eq_false, Bool.false_eq_true, reduceCtorEq, hp, hnow, hw, hnow2] at hc) <;> (try (exfalso; first | contradiction | omega)))
      | (refine st_call (by rfl) (by simp only [Bx.den, Ex.den, Bnd.den, gI, gB, gL, gF, gN, gNil, List.map_cons, List.map_nil, List.cons_append, List.nil_append, List.getElem?_cons_zero, List.getElem?_cons_succ, List.getD, Option.getD_some, cmp_eql_t, cmp_eql_f, cmp_neq_t, cmp_neq_f, cmp_lss_t, cmp_lss_f, cmp_leq_t, cmp_leq_f, cmp_gtr_t, cmp_gtr_f, cmp_geq_t, cmp_geq_f, Bool.not_eq_true', Bool.not_eq_false', Bool.and_eq_true, Bool.and_eq_false_iff, binDen, Option.some.injEq, EV.u.injEq, Nil.isNil, beq_self_eq_true, and_self, true_and, and_true, or_false, false_or, or_self, not_true_eq_false, not_false_eq_true, ne_eq, Bool.true_eq_false, Bool.false_eq_true, reduceCtorEq, hp, hnow, hw, hnow2] <;> rfl) ?_ (by simp only [out_pick, out_enow, out_within, out_enewpin, out_enewadv, out_eastep, out_eaerr, out_eknown, out_ebegun] <;> rfl) (by simp only [List.cons_append, List.nil_append] <;> rfl) ?_
         focus (first | exact pre_within I2)))
    | (first
      | (with_reducible refine st_need ?_ ?_
         focus (simp only [Bx.den, Ex.den, Bnd.den, gI, gB, gL, gF, gN, gNil, List.map_cons, List.map_nil, List.cons_append, List.nil_append, List.getElem?_cons_zero, List.getElem?_cons_succ, List.getD, Option.getD_some, cmp_eql_t, cmp_eql_f, cmp_neq_t, cmp_neq_f, cmp_lss_t, cmp_lss_f, cmp_leq_t, cmp_leq_f, cmp_gtr_t, cmp_gtr_f, cmp_geq_t, cmp_geq_f, Bool.not_eq_true', Bool.not_eq_false', Bool.and_eq_true, Bool.and_eq_false_iff, binDen, Option.some.injEq, EV.u.injEq, Nil.isNil, beq_self_eq_true, and_self, true_and, and_true, or_false, false_or, or_self, not_true_eq_false, not_false_eq_true, ne_eq, Bool.true_eq_false, Bool.false_eq_true, reduceCtorEq, hp, hnow, hw] <;> first | omega | assumption))
      | (with_reducible refine st_and ?_ ?_)
      | (with_reducible exact st_ok)
      | (with_reducible refine st_br (fun hc => ?_) (fun hc => ?_) <;> (simp only [Bx.den, Ex.den, Bnd.den, gI, gB, gL, gF, gN, gNil, List.map_cons, List.map_nil, List.cons_append, List.nil_append, List.getElem?_cons_zero, List.getElem?_cons_succ, List.getD, Option.getD_some, cmp_eql_t, cmp_eql_f, cmp_neq_t, cmp_neq_f, cmp_lss_t, cmp_lss_f, cmp_leq_t, cmp_leq_f, cmp_gtr_t, cmp_gtr_f, cmp_geq_t, cmp_geq_f, Bool.not_eq_true', Bool.not_eq_false', Bool.and_eq_true, Bool.and_eq_false_iff, binDen, Option.some.injEq, EV.u.injEq, Nil.isNil, beq_self_eq_true, and_self, true_and, and_true, or_false, false_or, or_self, not_true_eq_false, not_false_eq_true, ne_eq, Bool.true_eq_false, Bool.false_eq_true, reduceCtorEq, hp, hnow, hw] at hc) <;> (try (exfalso; first | contradiction | omega)))
      | (refine st_call (by rfl) (by simp only [Bx.den, Ex.den, Bnd.den, gI, gB, gL, gF, gN, gNil, List.map_cons, List.map_nil, List.cons_append, List.nil_append, List.getElem?_cons_zero, List.getElem?_cons_succ, List.getD, Option.getD_some, cmp_eql_t, cmp_eql_f, cmp_neq_t, cmp_neq_f, cmp_lss_t, cmp_lss_f, cmp_leq_t, cmp_leq_f, cmp_gtr_t, cmp_gtr_f, cmp_geq_t, cmp_geq_f, Bool.not_eq_true', Bool.not_eq_false', Bool.and_eq_true, Bool.and_eq_false_iff, binDen, Option.some.injEq, EV.u.injEq, Nil.isNil, beq_self_eq_true, and_self, true_and, and_true, or_false, false_or, or_self, not_true_eq_false, not_false_eq_true, ne_eq, Bool.true_eq_false, Bool.false_eq_true, reduceCtorEq, hp, hnow, hw] <;> rfl) ?_ (by simp only [out_pick, out_enow, out_within, out_enewpin, out_enewadv, out_eastep, out_eaerr, out_eknown, out_ebegun] <;> rfl) (by simp only [List.cons_append, List.nil_append] <;> rfl) ?_
         focus (first | exact pre_pick (by decide) (by decide) | exact ⟨_, _, _, _, rfl⟩)))
    | (refine st_busy (c := 0) (by rfl) (by simp only [Bx.den, Ex.den, Bnd.den, gI, gB, gL, gF, gN, gNil, List.map_cons, List.map_nil, List.cons_append, List.nil_append, List.getElem?_cons_zero, List.getElem?_cons_succ, List.getD, Option.getD_some, cmp_eql_t, cmp_eql_f, cmp_neq_t, cmp_neq_f, cmp_lss_t, cmp_lss_f, cmp_leq_t, cmp_leq_f, cmp_gtr_t, cmp_gtr_f, cmp_geq_t, cmp_geq_f, Bool.not_eq_true', Bool.not_eq_false', Bool.and_eq_true, Bool.and_eq_false_iff, binDen, Option.some.injEq, EV.u.injEq, Nil.isNil, beq_self_eq_true, and_self, true_and, and_true, or_false, false_or, or_self, not_true_eq_false, not_false_eq_true, ne_eq, Bool.true_eq_false, Bool.false_eq_true, reduceCtorEq, hp, hnow, hw] <;> rfl) rfl (by decide) (fun env' he => ?_)
       simp only [List.cons_append, List.nil_append] at he
       subst he)
    | (refine st_begins (c := 0) (by rfl) (by simp only [Bx.den, Ex.den, Bnd.den, gI, gB, gL, gF, gN, gNil, List.map_cons, List.map_nil, List.cons_append, List.nil_append, List.getElem?_cons_zero, List.getElem?_cons_succ, List.getD, Option.getD_some, cmp_eql_t, cmp_eql_f, cmp_neq_t, cmp_neq_f, cmp_lss_t, cmp_lss_f, cmp_leq_t, cmp_leq_f, cmp_gtr_t, cmp_gtr_f, cmp_geq_t, cmp_geq_f, Bool.not_eq_true', Bool.not_eq_false', Bool.and_eq_true, Bool.and_eq_false_iff, binDen, Option.some.injEq, EV.u.injEq, Nil.isNil, beq_self_eq_true, and_self, true_and, and_true, or_false, false_or, or_self, not_true_eq_false, not_false_eq_true, ne_eq, Bool.true_eq_false, Bool.false_eq_true, reduceCtorEq, hp, hnow, hw] <;> rfl) rfl (by decide) (by assumption) I (fun a1 o1 I1 env' he => ?_)
       simp only [crewL, List.cons_append, List.nil_append] at he
       subst he)
    | (refine st_steps (c := 0) (by rfl) (by simp only [Bx.den, Ex.den, Bnd.den, gI, gB, gL, gF, gN, gNil, List.map_cons, List.map_nil, List.cons_append, List.nil_append, List.getElem?_cons_zero, List.getElem?_cons_succ, List.getD, Option.getD_some, cmp_eql_t, cmp_eql_f, cmp_neq_t, cmp_neq_f, cmp_lss_t, cmp_lss_f, cmp_leq_t, cmp_leq_f, cmp_gtr_t, cmp_gtr_f, cmp_geq_t, cmp_geq_f, Bool.not_eq_true', Bool.not_eq_false', Bool.and_eq_true, Bool.and_eq_false_iff, binDen, Option.some.injEq, EV.u.injEq, Nil.isNil, beq_self_eq_true, and_self, true_and, and_true, or_false, false_or, or_self, not_true_eq_false, not_false_eq_true, ne_eq, Bool.true_eq_false, Bool.false_eq_true, reduceCtorEq, hp, hnow, hw] <;> rfl) rfl (by decide) (by assumption) (by omega) (fun M2 a2 o2 I2 hep hea env' he => ?_) (fun M2 a2 o2 I2 hep env' he => ?_) <;> (have hnow2 := now_is I2; rw [hep] at hnow2; simp only [crewL, List.cons_append, List.nil_append] at he; subst he))
    | (refine st_back (by rfl) (by simp only [Bx.den, Ex.den, Bnd.den, gI, gB, gL, gF, gN, gNil, List.map_cons, List.map_nil, List.cons_append, List.nil_append, List.getElem?_cons_zero, List.getElem?_cons_succ, List.getD, Option.getD_some, cmp_eql_t, cmp_eql_f, cmp_neq_t, cmp_neq_f, cmp_lss_t, cmp_lss_f, cmp_leq_t, cmp_leq_f, cmp_gtr_t, cmp_gtr_f, cmp_geq_t, cmp_geq_f, Bool.not_eq_true', Bool.not_eq_false', Bool.and_eq_true, Bool.and_eq_false_iff, binDen, Option.some.injEq, EV.u.injEq, Nil.isNil, beq_self_eq_true, and_self, true_and, and_true, or_false, false_or, or_self, not_true_eq_false, not_false_eq_true, ne_eq, Bool.true_eq_false, Bool.false_eq_true, reduceCtorEq, hp, hnow, hw, hnow2] <;> rfl) (by simp only [List.take_succ_cons, List.take_zero] <;> rfl) (by rfl) ?_ ?_
       focus (rw [wrap_small (n := i + 1) (by omega) (by omega)]
              exact ⟨_, _, _, _, M2, a2, o2, _, rfl, by omega, by omega, h3, I2⟩)
       focus (rw [wrap_small (n := i + 1) (by omega) (by omega)]; show ((k : Int) - (i + 1)).toNat < ((k : Int) - i).toNat; omega))
    | (refine st_ret (by simp only [Bx.den, Ex.den, Bnd.den, gI, gB, gL, gF, gN, gNil, List.map_cons, List.map_nil, List.cons_append, List.nil_append, List.getElem?_cons_zero, List.getElem?_cons_succ, List.getD, Option.getD_some, cmp_eql_t, cmp_eql_f, cmp_neq_t, cmp_neq_f, cmp_lss_t, cmp_lss_f, cmp_leq_t, cmp_leq_f, cmp_gtr_t, cmp_gtr_f, cmp_geq_t, cmp_geq_f, Bool.not_eq_true', Bool.not_eq_false', Bool.and_eq_true, Bool.and_eq_false_iff, binDen, Option.some.injEq, EV.u.injEq, Nil.isNil, beq_self_eq_true, and_self, true_and, and_true, or_false, false_or, or_self, not_true_eq_false, not_false_eq_true, ne_eq, Bool.true_eq_false, Bool.false_eq_true, reduceCtorEq, hnow] <;> rfl) ?_
       focus (obtain rfl : i = k := by omega
              exact ⟨M, a, o, rfl, I⟩))
    | fail "no step")
set_option maxHeartbeats 4000000 in
theorem bPl1 (P : Program) (hs : List (Nat × Nat × List Nat)) {M0 M : MemSt} {g : Nat → Nat → Int} {k : Nat} {cc : Int} {a : Nat → Int} {o : Nat → CoreE} {i : Int} (h1 : 0 ≤ i) (h2 : i ≤ k) (h3 : k ≤ 300) (I : crewInv M a o i) (hp : ((g i.toNat 0).emod 300).tmod 3 = 1) :
    tPlaysL0.sat { cxPl P with hints := hs } (ctrR cPlays) ([.u (.mem M0), .f g k, .i k, .i cc] ++ (crewL M a o ++ [.i i])) := by
  have hnow := now_is I
  have hE0 := I.2.1
  have hE1 : M.ep ≤ 500 := Int.le_trans I.2.2.1 I.2.2.2.1
  have hw : IntKind.i64.wrap (M.ep + 1) = M.ep + 1 := wrap_small (by omega) (by omega)
  unfold tPlaysL0 crewL
  simp only [List.cons_append, List.nil_append]
  repeat' (first
    | (first
      | (with_reducible refine st_need ?_ ?_
         focus (simp only [Bx.den, Ex.den, Bnd.den, gI, gB, gL, gF, gN, gNil, List.map_cons, List.map_nil, List.cons_append, List.nil_append, List.getElem?_cons_zero, List.getElem?_cons_succ, List.getD, Option.getD_some, cmp_eql_t, cmp_eql_f, cmp_neq_t, cmp_neq_f, cmp_lss_t, cmp_lss_f, cmp_leq_t, cmp_leq_f, cmp_gtr_t, cmp_gtr_f, cmp_geq_t, cmp_geq_f, Bool.not_eq_true', Bool.not_eq_false', Bool.and_eq_true, Bool.and_eq_false_iff, binDen, Option.some.injEq, EV.u.injEq, Nil.isNil, beq_self_eq_true, and_self, true_and, and_true, or_false, false_or, or_self, not_true_eq_false, not_false_eq_true, ne_eq, Bool.true_eq_false, Bool.false_eq_true, reduceCtorEq, hp, hnow, hw, hnow2] <;> first | omega | assumption))
      | (with_reducible refine st_and ?_ ?_)
      | (with_reducible exact st_ok)
      | (with_reducible refine st_br (fun hc => ?_) (fun hc => ?_) <;> (simp only [Bx.den, Ex.den, Bnd.den, gI, gB, gL, gF, gN, gNil, List.map_cons, List.map_nil, List.cons_append, List.nil_append, List.getElem?_cons_zero, List.getElem?_cons_succ, List.getD, Option.getD_some, cmp_eql_t, cmp_eql_f, cmp_neq_t, cmp_neq_f, cmp_lss_t, cmp_lss_f, cmp_leq_t, cmp_leq_f, cmp_gtr_t, cmp_gtr_f, cmp_geq_t, cmp_geq_f, Bool.not_eq_true', Bool.not_eq_false', Bool.and_eq_true, Bool.and_eq_false_iff, binDen, Option.some.injEq, EV.u.injEq, Nil.isNil, beq_self_eq_true, and_self, true_and, and_true, or_false, false_or, or_self, not_true_eq_false, not_false_eq_true, ne_eq, Bool.true_eq_false, Bool.false_eq_true, reduceCtorEq, hp, hnow, hw, hnow2] at hc) <;> (try (exfalso; first | contradiction | omega)))
      | (refine st_call (by rfl) (by simp only [Bx.den, Ex.den, Bnd.den, gI, gB, gL, gF, gN, gNil, List.map_cons, List.map_nil, List.cons_append, List.nil_append, List.getElem?_cons_zero, List.getElem?_cons_succ, List.getD, Option.getD_some, cmp_eql_t, cmp_eql_f, cmp_neq_t, cmp_neq_f, cmp_lss_t, cmp_lss_f, cmp_leq_t, cmp_leq_f, cmp_gtr_t, cmp_gtr_f, cmp_geq_t, cmp_geq_f, Bool.not_eq_true', Bool.not_eq_false', Bool.and_eq_true, Bool.and_eq_false_iff, binDen, Option.some.injEq, EV.u.injEq, Nil.isNil, beq_self_eq_true, and_self, true_and, and_true, or_false, false_or, or_self, not_true_eq_false, not_false_eq_true, ne_eq, Bool.true_eq_false, Bool.false_eq_true, reduceCtorEq, hp, hnow, hw, hnow2] <;> rfl) ?_ (by simp only [out_pick, out_enow, out_within, out_enewpin, out_enewadv, out_eastep, out_eaerr, out_eknown, out_ebegun] <;> rfl) (by simp only [List.cons_append, List.nil_append] <;> rfl) ?_
         focus (first | exact pre_within I2)))
    | (first
      | (with_reducible refine st_need ?_ ?_
         focus (simp only [Bx.den, Ex.den, Bnd.den, gI, gB, gL, gF, gN, gNil, List.map_cons, List.map_nil, List.cons_append, List.nil_append, List.getElem?_cons_zero, List.getElem?_cons_succ, List.getD, Option.getD_some, cmp_eql_t, cmp_eql_f, cmp_neq_t, cmp_neq_f, cmp_lss_t, cmp_lss_f, cmp_leq_t, cmp_leq_f, cmp_gtr_t, cmp_gtr_f, cmp_geq_t, cmp_geq_f, Bool.not_eq_true', Bool.not_eq_false', Bool.and_eq_true, Bool.and_eq_false_iff, binDen, Option.some.injEq, EV.u.injEq, Nil.isNil, beq_self_eq_true, and_self, true_and, and_true, or_false, false_or, or_self, not_true_eq_false, not_false_eq_true, ne_eq, Bool.true_eq_false, Bool.false_eq_true, reduceCtorEq, hp, hnow, hw] <;> first | omega | assumption))
      | (with_reducible refine st_and ?_ ?_)
      | (with_reducible exact st_ok)
      | (with_reducible refine st_br (fun hc => ?_) (fun hc => ?_) <;> (simp only [Bx.den, Ex.den, Bnd.den, gI, gB, gL, gF, gN, gNil, List.map_cons, List.map_nil, List.cons_append, List.nil_append, List.getElem?_cons_zero, List.getElem?_cons_succ, List.getD, Option.getD_some, cmp_eql_t, cmp_eql_f, cmp_neq_t, cmp_neq_f, cmp_lss_t, cmp_lss_f, cmp_leq_t, cmp_leq_f, cmp_gtr_t, cmp_gtr_f, cmp_geq_t, cmp_geq_f, Bool.not_eq_true', Bool.not_eq_false', Bool.and_eq_true, Bool.and_eq_false_iff, binDen, Option.some.injEq, EV.u.injEq, Nil.isNil, beq_self_eq_true, and_self, true_and, and_true, or_false, false_or, or_self, not_true_eq_false, not_false_eq_true, ne_eq, Bool.true_eq_false, Bool.false_eq_true, reduceCtorEq, hp, hnow, hw] at hc) <;> (try (exfalso; first | contradiction | omega)))
      | (refine st_call (by rfl) (by simp only [Bx.den, Ex.den, Bnd.den, gI, gB, gL, gF, gN, gNil, List.map_cons, List.map_nil, List.cons_append, List.nil_append, List.getElem?_cons_zero, List.getElem?_cons_succ, List.getD, Option.getD_some, cmp_eql_t, cmp_eql_f, cmp_neq_t, cmp_neq_f, cmp_lss_t, cmp_lss_f, cmp_leq_t, cmp_leq_f, cmp_gtr_t, cmp_gtr_f, cmp_geq_t, cmp_geq_f, Bool.not_eq_true', Bool.not_eq_false', Bool.and_eq_true, Bool.and_eq_false_iff, binDen, Option.some.injEq, EV.u.injEq, Nil.isNil, beq_self_eq_true, and_self, true_and, and_true, or_false, false_or, or_self, not_true_eq_false, not_false_eq_true, ne_eq, Bool.true_eq_false, Bool.false_eq_true, reduceCtorEq, hp, hnow, hw] <;> rfl) ?_ (by simp only [out_pick, out_enow, out_within, out_enewpin, out_enewadv, out_eastep, out_eaerr, out_eknown, out_ebegun] <;> rfl) (by simp only [List.cons_append, List.nil_append] <;> rfl) ?_
         focus (first | exact pre_pick (by decide) (by decide) | exact ⟨_, _, _, _, rfl⟩)))
    | (refine st_busy (c := 1) (by rfl) (by simp only [Bx.den, Ex.den, Bnd.den, gI, gB, gL, gF, gN, gNil, List.map_cons, List.map_nil, List.cons_append, List.nil_append, List.getElem?_cons_zero, List.getElem?_cons_succ, List.getD, Option.getD_some, cmp_eql_t, cmp_eql_f, cmp_neq_t, cmp_neq_f, cmp_lss_t, cmp_lss_f, cmp_leq_t, cmp_leq_f, cmp_gtr_t, cmp_gtr_f, cmp_geq_t, cmp_geq_f, Bool.not_eq_true', Bool.not_eq_false', Bool.and_eq_true, Bool.and_eq_false_iff, binDen, Option.some.injEq, EV.u.injEq, Nil.isNil, beq_self_eq_true, and_self, true_and, and_true, or_false, false_or, or_self, not_true_eq_false, not_false_eq_true, ne_eq, Bool.true_eq_false, Bool.false_eq_true, reduceCtorEq, hp, hnow, hw] <;> rfl) rfl (by decide) (fun env' he => ?_)
       simp only [List.cons_append, List.nil_append] at he
       subst he)
    | (refine st_begins (c := 1) (by rfl) (by simp only [Bx.den, Ex.den, Bnd.den, gI, gB, gL, gF, gN, gNil, List.map_cons, List.map_nil, List.cons_append, List.nil_append, List.getElem?_cons_zero, List.getElem?_cons_succ, List.getD, Option.getD_some, cmp_eql_t, cmp_eql_f, cmp_neq_t, cmp_neq_f, cmp_lss_t, cmp_lss_f, cmp_leq_t, cmp_leq_f, cmp_gtr_t, cmp_gtr_f, cmp_geq_t, cmp_geq_f, Bool.not_eq_true', Bool.not_eq_false', Bool.and_eq_true, Bool.and_eq_false_iff, binDen, Option.some.injEq, EV.u.injEq, Nil.isNil, beq_self_eq_true, and_self, true_and, and_true, or_false, false_or, or_self, not_true_eq_false, not_false_eq_true, ne_eq, Bool.true_eq_false, Bool.false_eq_true, reduceCtorEq, hp, hnow, hw] <;> rfl) rfl (by decide) (by assumption) I (fun a1 o1 I1 env' he => ?_)
       simp only [crewL, List.cons_append, List.nil_append] at he
       subst he)
    | (refine st_steps (c := 1) (by rfl) (by simp only [Bx.den, Ex.den, Bnd.den, gI, gB, gL, gF, gN, gNil, List.map_cons, List.map_nil, List.cons_append, List.nil_append, List.getElem?_cons_zero, List.getElem?_cons_succ, List.getD, Option.getD_some, cmp_eql_t, cmp_eql_f, cmp_neq_t, cmp_neq_f, cmp_lss_t, cmp_lss_f, cmp_leq_t, cmp_leq_f, cmp_gtr_t, cmp_gtr_f, cmp_geq_t, cmp_geq_f, Bool.not_eq_true', Bool.not_eq_false', Bool.and_eq_true, Bool.and_eq_false_iff, binDen, Option.some.injEq, EV.u.injEq, Nil.isNil, beq_self_eq_true, and_self, true_and, and_true, or_false, false_or, or_self, not_true_eq_false, not_false_eq_true, ne_eq, Bool.true_eq_false, Bool.false_eq_true, reduceCtorEq, hp, hnow, hw] <;> rfl) rfl (by decide) (by assumption) (by omega) (fun M2 a2 o2 I2 hep hea env' he => ?_) (fun M2 a2 o2 I2 hep env' he => ?_) <;> (have hnow2 := now_is I2; rw [hep] at hnow2; simp only [crewL, List.cons_append, List.nil_append] at he; subst he))
    | (refine st_back (by rfl) (by simp only [Bx.den, Ex.den, Bnd.den, gI, gB, gL, gF, gN, gNil, List.map_cons, List.map_nil, List.cons_append, List.nil_append, List.getElem?_cons_zero, List.getElem?_cons_succ, List.getD, Option.getD_some, cmp_eql_t, cmp_eql_f, cmp_neq_t, cmp_neq_f, cmp_lss_t, cmp_lss_f, cmp_leq_t, cmp_leq_f, cmp_gtr_t, cmp_gtr_f, cmp_geq_t, cmp_geq_f, Bool.not_eq_true', Bool.not_eq_false', Bool.and_eq_true, Bool.and_eq_false_iff, binDen, Option.some.injEq, EV.u.injEq, Nil.isNil, beq_self_eq_true, and_self, true_and, and_true, or_false, false_or, or_self, not_true_eq_false, not_false_eq_true, ne_eq, Bool.true_eq_false, Bool.false_eq_true, reduceCtorEq, hp, hnow, hw, hnow2] <;> rfl) (by simp only [List.take_succ_cons, List.take_zero] <;> rfl) (by rfl) ?_ ?_
       focus (rw [wrap_small (n := i + 1) (by omega) (by omega)]
              exact ⟨_, _, _, _, M2, a2, o2, _, rfl, by omega, by omega, h3, I2⟩)
       focus (rw [wrap_small (n := i + 1) (by omega) (by omega)]; show ((k : Int) - (i + 1)).toNat < ((k : Int) - i).toNat; omega))
    | (refine st_ret (by simp only [Bx.den, Ex.den, Bnd.den, gI, gB, gL, gF, gN, gNil, List.map_cons, List.map_nil, List.cons_append, List.nil_append, List.getElem?_cons_zero, List.getElem?_cons_succ, List.getD, Option.getD_some, cmp_eql_t, cmp_eql_f, cmp_neq_t, cmp_neq_f, cmp_lss_t, cmp_lss_f, cmp_leq_t, cmp_leq_f, cmp_gtr_t, cmp_gtr_f, cmp_geq_t, cmp_geq_f, Bool.not_eq_true', Bool.not_eq_false', Bool.and_eq_true, Bool.and_eq_false_iff, binDen, Option.some.injEq, EV.u.injEq, Nil.isNil, beq_self_eq_true, and_self, true_and, and_true, or_false, false_or, or_self, not_true_eq_false, not_false_eq_true, ne_eq, Bool.true_eq_false, Bool.false_eq_true, reduceCtorEq, hnow] <;> rfl) ?_
       focus (obtain rfl : i = k := by omega
              exact ⟨M, a, o, rfl, I⟩))
    | fail "no step")
set_option maxHeartbeats 4000000 in
theorem bPl2 (P : Program) (hs : List (Nat × Nat × List Nat)) {M0 M : MemSt} {g : Nat → Nat → Int} {k : Nat} {cc : Int} {a : Nat → Int} {o : Nat → CoreE} {i : Int} (h1 : 0 ≤ i) (h2 : i ≤ k) (h3 : k ≤ 300) (I : crewInv M a o i) (hp : ((g i.toNat 0).emod 300).tmod 3 = 2) :
    tPlaysL0.sat { cxPl P with hints := hs } (ctrR cPlays) ([.u (.mem M0), .f g k, .i k, .i cc] ++ (crewL M a o ++ [.i i])) := by
  have hnow := now_is I
  have hE0 := I.2.1
  have hE1 : M.ep ≤ 500 := Int.le_trans I.2.2.1 I.2.2.2.1
  have hw : IntKind.i64.wrap (M.ep + 1) = M.ep + 1 := wrap_small (by omega) (by omega)
  unfold tPlaysL0 crewL
  simp only [List.cons_append, List.nil_append]
  repeat' (first
    | (first
      | (with_reducible refine st_need ?_ ?_
         focus (simp only [Bx.den, Ex.den, Bnd.den, gI, gB, gL, gF, gN, gNil, List.map_cons, List.map_nil, List.cons_append, List.nil_append, List.getElem?_cons_zero, List.getElem?_cons_succ, List.getD, Option.getD_some, cmp_eql_t, cmp_eql_f, cmp_neq_t, cmp_neq_f, cmp_lss_t, cmp_lss_f, cmp_leq_t, cmp_leq_f, cmp_gtr_t, cmp_gtr_f, cmp_geq_t, cmp_geq_f, Bool.not_eq_true', Bool.not_eq_false', Bool.and_eq_true, Bool.and_eq_false_iff, binDen, Option.some.injEq, EV.u.injEq, Nil.isNil, beq_self_eq_true, and_self, true_and, and_true, or_false, false_or, or_self, not_true_eq_false, not_false_eq_true, ne_eq, Bool.true_eq_false, Bool.false_eq_true, reduceCtorEq, hp, hnow, hw, hnow2] <;> first | omega | assumption))
      | (with_reducible refine st_and ?_ ?_)
      | (with_reducible exact st_ok)
      | (with_reducible refine st_br (fun hc => ?_) (fun hc => ?_) <;> (simp only [Bx.den, Ex.den, Bnd.den, gI, gB, gL, gF, gN, gNil, List.map_cons, List.map_nil, List.cons_append, List.nil_append, List.getElem?_cons_zero, List.getElem?_cons_succ, List.getD, Option.getD_some, cmp_eql_t, cmp_eql_f, cmp_neq_t, cmp_neq_f, cmp_lss_t, cmp_lss_f, cmp_leq_t, cmp_leq_f, cmp_gtr_t, cmp_gtr_f, cmp_geq_t, cmp_geq_f, Bool.not_eq_true', Bool.not_eq_false', Bool.and_eq_true, Bool.and_eq_false_iff, binDen, Option.some.injEq, EV.u.injEq, Nil.isNil, beq_self_eq_true, and_self, true_and, and_true, or_false, false_or, or_self, not_true_eq_false, not_false_eq_true, ne_eq, Bool.true_eq_false, Bool.false_eq_true, reduceCtorEq, hp, hnow, hw, hnow2] at hc) <;> (try (exfalso; first | contradiction | omega)))
      | (refine st_call (by rfl) (by simp only [Bx.den, Ex.den, Bnd.den, gI, gB, gL, gF, gN, gNil, List.map_cons, List.map_nil, List.cons_append, List.nil_append, List.getElem?_cons_zero, List.getElem?_cons_succ, List.getD, Option.getD_some, cmp_eql_t, cmp_eql_f, cmp_neq_t, cmp_neq_f, cmp_lss_t, cmp_lss_f, cmp_leq_t, cmp_leq_f, cmp_gtr_t, cmp_gtr_f, cmp_geq_t, cmp_geq_f, Bool.not_eq_true', Bool.not_eq_false', Bool.and_eq_true, Bool.and_eq_false_iff, binDen, Option.some.injEq, EV.u.injEq, Nil.isNil, beq_self_eq_true, and_self, true_and, and_true, or_false, false_or, or_self, not_true_eq_false, not_false_eq_true, ne_eq, Bool.true_eq_false, Bool.false_eq_true, reduceCtorEq, hp, hnow, hw, hnow2] <;> rfl) ?_ (by simp only [out_pick, out_enow, out_within, out_enewpin, out_enewadv, out_eastep, out_eaerr, out_eknown, out_ebegun] <;> rfl) (by simp only [List.cons_append, List.nil_append] <;> rfl) ?_
         focus (first | exact pre_within I2)))
    | (first
      | (with_reducible refine st_need ?_ ?_
         focus (simp only [Bx.den, Ex.den, Bnd.den, gI, gB, gL, gF, gN, gNil, List.map_cons, List.map_nil, List.cons_append, List.nil_append, List.getElem?_cons_zero, List.getElem?_cons_succ, List.getD, Option.getD_some, cmp_eql_t, cmp_eql_f, cmp_neq_t, cmp_neq_f, cmp_lss_t, cmp_lss_f, cmp_leq_t, cmp_leq_f, cmp_gtr_t, cmp_gtr_f, cmp_geq_t, cmp_geq_f, Bool.not_eq_true', Bool.not_eq_false', Bool.and_eq_true, Bool.and_eq_false_iff, binDen, Option.some.injEq, EV.u.injEq, Nil.isNil, beq_self_eq_true, and_self, true_and, and_true, or_false, false_or, or_self, not_true_eq_false, not_false_eq_true, ne_eq, Bool.true_eq_false, Bool.false_eq_true, reduceCtorEq, hp, hnow, hw] <;> first | omega | assumption))
      | (with_reducible refine st_and ?_ ?_)
      | (with_reducible exact st_ok)
      | (with_reducible refine st_br (fun hc => ?_) (fun hc => ?_) <;> (simp only [Bx.den, Ex.den, Bnd.den, gI, gB, gL, gF, gN, gNil, List.map_cons, List.map_nil, List.cons_append, List.nil_append, List.getElem?_cons_zero, List.getElem?_cons_succ, List.getD, Option.getD_some, cmp_eql_t, cmp_eql_f, cmp_neq_t, cmp_neq_f, cmp_lss_t, cmp_lss_f, cmp_leq_t, cmp_leq_f, cmp_gtr_t, cmp_gtr_f, cmp_geq_t, cmp_geq_f, Bool.not_eq_true', Bool.not_eq_false', Bool.and_eq_true, Bool.and_eq_false_iff, binDen, Option.some.injEq, EV.u.injEq, Nil.isNil, beq_self_eq_true, and_self, true_and, and_true, or_false, false_or, or_self, not_true_eq_false, not_false_eq_true, ne_eq, Bool.true_eq_false, Bool.false_eq_true, reduceCtorEq, hp, hnow, hw] at hc) <;> (try (exfalso; first | contradiction | omega)))
      | (refine st_call (by rfl) (by simp only [Bx.den, Ex.den, Bnd.den, gI, gB, gL, gF, gN, gNil, List.map_cons, List.map_nil, List.cons_append, List.nil_append, List.getElem?_cons_zero, List.getElem?_cons_succ, List.getD, Option.getD_some, cmp_eql_t, cmp_eql_f, cmp_neq_t, cmp_neq_f, cmp_lss_t, cmp_lss_f, cmp_leq_t, cmp_leq_f, cmp_gtr_t, cmp_gtr_f, cmp_geq_t, cmp_geq_f, Bool.not_eq_true', Bool.not_eq_false', Bool.and_eq_true, Bool.and_eq_false_iff, binDen, Option.some.injEq, EV.u.injEq, Nil.isNil, beq_self_eq_true, and_self, true_and, and_true, or_false, false_or, or_self, not_true_eq_false, not_false_eq_true, ne_eq, Bool.true_eq_false, Bool.false_eq_true, reduceCtorEq, hp, hnow, hw] <;> rfl) ?_ (by simp only [out_pick, out_enow, out_within, out_enewpin, out_enewadv, out_eastep, out_eaerr, out_eknown, out_ebegun] <;> rfl) (by simp only [List.cons_append, List.nil_append] <;> rfl) ?_
         focus (first | exact pre_pick (by decide) (by decide) | exact ⟨_, _, _, _, rfl⟩)))
    | (refine st_busy (c := 2) (by rfl) (by simp only [Bx.den, Ex.den, Bnd.den, gI, gB, gL, gF, gN, gNil, List.map_cons, List.map_nil, List.cons_append, List.nil_append, List.getElem?_cons_zero, List.getElem?_cons_succ, List.getD, Option.getD_some, cmp_eql_t, cmp_eql_f, cmp_neq_t, cmp_neq_f, cmp_lss_t, cmp_lss_f, cmp_leq_t, cmp_leq_f, cmp_gtr_t, cmp_gtr_f, cmp_geq_t, cmp_geq_f, Bool.not_eq_true', Bool.not_eq_false', Bool.and_eq_true, Bool.and_eq_false_iff, binDen, Option.some.injEq, EV.u.injEq, Nil.isNil, beq_self_eq_true, and_self, true_and, and_true, or_false, false_or, or_self, not_true_eq_false, not_false_eq_true, ne_eq, Bool.true_eq_false, Bool.false_eq_true, reduceCtorEq, hp, hnow, hw] <;> rfl) rfl (by decide) (fun env' he => ?_)
       simp only [List.cons_append, List.nil_append] at he
       subst he)
    | (refine st_begins (c := 2) (by rfl) (by simp only [Bx.den, Ex.den, Bnd.den, gI, gB, gL, gF, gN, gNil, List.map_cons, List.map_nil, List.cons_append, List.nil_append, List.getElem?_cons_zero, List.getElem?_cons_succ, List.getD, Option.getD_some, cmp_eql_t, cmp_eql_f, cmp_neq_t, cmp_neq_f, cmp_lss_t, cmp_lss_f, cmp_leq_t, cmp_leq_f, cmp_gtr_t, cmp_gtr_f, cmp_geq_t, cmp_geq_f, Bool.not_eq_true', Bool.not_eq_false', Bool.and_eq_true, Bool.and_eq_false_iff, binDen, Option.some.injEq, EV.u.injEq, Nil.isNil, beq_self_eq_true, and_self, true_and, and_true, or_false, false_or, or_self, not_true_eq_false, not_false_eq_true, ne_eq, Bool.true_eq_false, Bool.false_eq_true, reduceCtorEq, hp, hnow, hw] <;> rfl) rfl (by decide) (by assumption) I (fun a1 o1 I1 env' he => ?_)
       simp only [crewL, List.cons_append, List.nil_append] at he
       subst he)
    | (refine st_steps (c := 2) (by rfl) (by simp only [Bx.den, Ex.den, Bnd.den, gI, gB, gL, gF, gN, gNil, List.map_cons, List.map_nil, List.cons_append, List.nil_append, List.getElem?_cons_zero, List.getElem?_cons_succ, List.getD, Option.getD_some, cmp_eql_t, cmp_eql_f, cmp_neq_t, cmp_neq_f, cmp_lss_t, cmp_lss_f, cmp_leq_t, cmp_leq_f, cmp_gtr_t, cmp_gtr_f, cmp_geq_t, cmp_geq_f, Bool.not_eq_true', Bool.not_eq_false', Bool.and_eq_true, Bool.and_eq_false_iff, binDen, Option.some.injEq, EV.u.injEq, Nil.isNil, beq_self_eq_true, and_self, true_and, and_true, or_false, false_or, or_self, not_true_eq_false, not_false_eq_true, ne_eq, Bool.true_eq_false, Bool.false_eq_true, reduceCtorEq, hp, hnow, hw] <;> rfl) rfl (by decide) (by assumption) (by omega) (fun M2 a2 o2 I2 hep hea env' he => ?_) (fun M2 a2 o2 I2 hep env' he => ?_) <;> (have hnow2 := now_is I2; rw [hep] at hnow2; simp only [crewL, List.cons_append, List.nil_append] at he; subst he))
    | (refine st_back (by rfl) (by simp only [Bx.den, Ex.den, Bnd.den, gI, gB, gL, gF, gN, gNil, List.map_cons, List.map_nil, List.cons_append, List.nil_append, List.getElem?_cons_zero, List.getElem?_cons_succ, List.getD, Option.getD_some, cmp_eql_t, cmp_eql_f, cmp_neq_t, cmp_neq_f, cmp_lss_t, cmp_lss_f, cmp_leq_t, cmp_leq_f, cmp_gtr_t, cmp_gtr_f, cmp_geq_t, cmp_geq_f, Bool.not_eq_true', Bool.not_eq_false', Bool.and_eq_true, Bool.and_eq_false_iff, binDen, Option.some.injEq, EV.u.injEq, Nil.isNil, beq_self_eq_true, and_self, true_and, and_true, or_false, false_or, or_self, not_true_eq_false, not_false_eq_true, ne_eq, Bool.true_eq_false, Bool.false_eq_true, reduceCtorEq, hp, hnow, hw, hnow2] <;> rfl) (by simp only [List.take_succ_cons, List.take_zero] <;> rfl) (by rfl) ?_ ?_
       focus (rw [wrap_small (n := i + 1) (by omega) (by omega)]
              exact ⟨_, _, _, _, M2, a2, o2, _, rfl, by omega, by omega, h3, I2⟩)
       focus (rw [wrap_small (n := i + 1) (by omega) (by omega)]; show ((k : Int) - (i + 1)).toNat < ((k : Int) - i).toNat; omega))
    | (refine st_ret (by simp only [Bx.den, Ex.den, Bnd.den, gI, gB, gL, gF, gN, gNil, List.map_cons, List.map_nil, List.cons_append, List.nil_append, List.getElem?_cons_zero, List.getElem?_cons_succ, List.getD, Option.getD_some, cmp_eql_t, cmp_eql_f, cmp_neq_t, cmp_neq_f, cmp_lss_t, cmp_lss_f, cmp_leq_t, cmp_leq_f, cmp_gtr_t, cmp_gtr_f, cmp_geq_t, cmp_geq_f, Bool.not_eq_true', Bool.not_eq_false', Bool.and_eq_true, Bool.and_eq_false_iff, binDen, Option.some.injEq, EV.u.injEq, Nil.isNil, beq_self_eq_true, and_self, true_and, and_true, or_false, false_or, or_self, not_true_eq_false, not_false_eq_true, ne_eq, Bool.true_eq_false, Bool.false_eq_true, reduceCtorEq, hnow] <;> rfl) ?_
       focus (obtain rfl : i = k := by omega
              exact ⟨M, a, o, rfl, I⟩))
    | fail "no step")
theorem tmod3' {x : Int} : (x.emod 300).tmod 3 = 0 ∨ (x.emod 300).tmod 3 = 1 ∨ (x.emod 300).tmod 3 = 2 := by
  have h1 : 0 ≤ x.emod 300 := Int.emod_nonneg x (by decide)
  rw [Int.tmod_eq_emod_of_nonneg h1]
  omega
theorem bPl (P : Program) (hs : List (Nat × Nat × List Nat)) : ∀ env, plInv env → tPlaysL0.sat { cxPl P with hints := hs } (ctrR cPlays) env := by
  rintro env ⟨M0, g, k, cc, M, a, o, i, rfl, h1, h2, h3, I⟩
  rcases tmod3' (x := g i.toNat 0) with hp | hp | hp
  · exact bPl0 P hs h1 h2 h3 I hp
  · exact bPl1 P hs h1 h2 h3 I hp
  · exact bPl2 P hs h1 h2 h3 I hp
theorem hctsEPl : ∀ (ci : Nat) (c : Ctr U), ctsEPl[ci]? = some c → c.Holds objs Try.prog := ctsApp hctsEA (by
  intro ci c h
  match ci, h with
  | 0, h => cases h; exact hENow
  | 1, h => cases h; exact hWithin
  | 2, h => cases h; exact hBusy
  | 3, h => cases h; exact hBegins
  | 4, h => cases h; exact hSteps
  | n + 5, h => cases h)
end Go.Proofs.Ytjohihkbampbgaa
