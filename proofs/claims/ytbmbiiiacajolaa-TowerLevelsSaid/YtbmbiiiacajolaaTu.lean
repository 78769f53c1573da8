/- What is linked on a level is told: the law holds. -/
import Derived.Test.YtbmbiiiacajolaaTqT
import Derived.Test.YtbmbiiiacajolaaTv
import Derived.Test.YtbmbiiiacajolaaTk
import Derived.Test.YtbmbiiiacajolaaSw
namespace Go.Proofs.Ytbmbiiiacajolaa
set_option linter.unusedVariables false
set_option linter.unusedSimpArgs false
set_option linter.unusedSectionVars false
open Go Go.RowKit

set_option maxHeartbeats 1000000 in
theorem vSameInts (P : Program) (hs : List (Nat × Nat × List Nat)) : ∀ ins, ins.length = cSameInts.nin → cSameInts.pre ins → tSameInts.sat { cxTi P with hints := hs } (ctrR cSameInts) ins := by
  rintro ins _ ⟨xs, ys, a, b, c, d, rfl, p1, p2, p3, p4, h1⟩
  simp only [Tree.sat, Bx.den, Ex.den, Bnd.den, gI, gB, gL, gF, gN, gNil, List.map_cons, List.map_nil, List.cons_append, List.nil_append, List.getElem?_cons_zero, List.getElem?_cons_succ, List.getD, Option.getD_some, cmp_eql_t, cmp_eql_f, cmp_neq_t, cmp_neq_f, cmp_lss_t, cmp_lss_f, cmp_leq_t, cmp_leq_f, cmp_gtr_t, cmp_gtr_f, cmp_geq_t, cmp_geq_f, Bool.not_eq_true', Bool.not_eq_false', Bool.and_eq_true, Bool.and_eq_false_iff, binDen, ctrR, Ctr.may, List.take_succ_cons, List.take_zero, Option.some.injEq, EV.u.injEq, tSameInts, tSameIntsL0, cxTi, cx, objs, lSameInts, cSameInts, cmpDen_eql]
  refine ⟨by omega, by omega, ⟨0, _, rfl, by omega, by omega, ?_, ?_⟩, ?_⟩
  · simp
  · simp
    intro h e
    have := congrArg List.length e
    simp only [List.length_take] at this
    omega
  rintro fr hfr ⟨k, b', hk, h4, h5, h6, h7⟩
  simp only [List.drop_succ_cons, List.drop_zero] at hk
  subst hk
  simp only [Tree.sat, Bx.den, Ex.den, Bnd.den, gI, gB, gL, gF, gN, gNil, List.map_cons, List.map_nil, List.cons_append, List.nil_append, List.getElem?_cons_zero, List.getElem?_cons_succ, List.getD, Option.getD_some, cmp_eql_t, cmp_eql_f, cmp_neq_t, cmp_neq_f, cmp_lss_t, cmp_lss_f, cmp_leq_t, cmp_leq_f, cmp_gtr_t, cmp_gtr_f, cmp_geq_t, cmp_geq_f, Bool.not_eq_true', Bool.not_eq_false', Bool.and_eq_true, Bool.and_eq_false_iff, binDen, ctrR, Ctr.may, List.take_succ_cons, List.take_zero, Option.some.injEq, EV.u.injEq, lSameInts, cSameInts, cmpDen_eql]
  refine ⟨fun hb => ?_, fun hb => ?_⟩
  · obtain ⟨h8, h9⟩ := h6 hb
    refine ⟨by omega, fun g => ?_, fun g => ?_⟩
    · repeat (refine ⟨by omega, ?_⟩)
      refine ⟨?_, ?_⟩
      · rw [wrap_small (by omega) (by omega)]
        have hs := take_eq_step h9 (by omega) (by omega)
        refine ⟨k + 1, _, rfl, by omega, by omega, fun e => ⟨h8, ?_⟩, fun e h => ?_⟩
        · rw [show (k + 1).toNat = k.toNat + 1 by omega, hs]; simpa using e
        · have h10 := congrArg (List.take (k.toNat + 1)) h
          rw [List.take_take, List.take_take, Nat.min_eq_left (by omega), Nat.min_eq_left (by omega), hs] at h10
          simp at e; exact e h10
      · rw [wrap_small (by omega) (by omega), hb]
        simp only [if_pos]
        split <;> omega
    · subst hb
      have hk' : k = a := by omega
      subst hk'
      rw [← h8]
      simp [h9]
  · have h8 := h7 hb
    subst hb
    simp [h8]
theorem hSameInts : cSameInts.Holds objs Try.prog := runCtr_holds (X := { cxTi Try.prog with hints := hsSameInts }) (fuel := 20) (opens := []) (folds := []) objsOk mixed noCts (callable _ Try.func45 (by kernel_rfl) (by kernel_rfl)) (by rintro ins _ ⟨xs, ys, a, b, c, d, rfl, _⟩; rfl) (by rw [rSameInts]; exact vSameInts _ _)
theorem hctsTq : ∀ (ci : Nat) (c : Ctr U), ctsTq[ci]? = some c → c.Holds objs Try.prog := by
  intro ci c h
  by_cases hlt : ci < 6
  · exact hctsT0 ci c (by rw [← h, ctsTq, List.getElem?_append_left (by exact hlt)])
  · rw [ctsTq, List.getElem?_append_right (by show 6 ≤ ci; omega)] at h
    match e : ci - ctsT0.length, h with
    | 0, h => cases h; exact hSameInts
    | 1, h => cases h; exact hPick
    | 2, h => cases h; exact hFillC
    | 3, h => cases h; exact hNext
    | 4, h => cases h; exact hLevel
    | 5, h => cases h; exact hLive
    | 6, h => cases h; exact hAmong
    | 7, h => cases h; exact hlTk
    | n + 8, h => cases h
theorem out_fillC (ins : List (EV U)) : cTFillC.out ins = [.u (.mem fillC)] := rfl
theorem out_litB (n : Nat) : (lit (lB n)).out [] = [.b true] := rfl
theorem fillC_l : fillC.W.length = 34 := by kernel_rfl
theorem out_among (R cc : List Int) (c n : Int) : cAmongT.out [.l (R ++ cc), .i R.length, .i c, .i n] = [.b (decide (n ∈ R))] := by
  show [EV.b (decide (n ∈ (R ++ cc).take ((R.length : Int).toNat)))] = _
  rw [Int.toNat_natCast, List.take_left']; rfl
theorem pre_among {R cc : List Int} {c n : Int} (h : R.length ≤ 3) : cAmongT.pre [.l (R ++ cc), .i R.length, .i c, .i n] := ⟨_, _, _, _, rfl, by omega, by rw [List.length_append]; omega, by omega⟩
section
variable {X : Cx U} {Q : List (EV U) → List (EV U) → Prop}
theorem st_row {i : Nat} {e x : Ex} {k : Tree} {env : List (EV U)} {V vc : List Int} {y : Int} (hl : gL env i = V ++ vc) (hn : e.den env = (V.length : Int)) (hx : x.den env = y)
    (hk : ∀ (r : List Int) (env' : List (EV U)), env ++ [.l ((V ++ [y]) ++ r), .i (((V ++ [y]).length + r.length : Nat) : Int)] = env' → k.sat X Q env') : (Tree.app (some i) e x k).sat X Q env := by
  refine st_appT hl hn hx (fun r env' he => hk r env' ?_)
  rw [← he]
  rw [Int.toNat_natCast, List.take_left' rfl, List.length_append, List.append_assoc]
  rfl
theorem st_level {ci : Nat} {β : List Bnd} {k : Tree} {env : List (EV U)} {M : MemSt} {l : Int} {L : List Int} (hc : X.cts[ci]? = some cLevelT) (ha : β.map (Bnd.den env) = [.u (.mem M), .i l]) (hl : M.W.length = 34) (h0 : 0 ≤ l) (h1 : l ≤ 1) (hL : levelL M.W l = L)
    (hk : ∀ (c : List Int) (env' : List (EV U)), env ++ [.u (.mem M), .l (L ++ c), .i L.length, .i ((L.length + c.length : Nat) : Int)] = env' → k.sat X Q env') : (Tree.callm ci β k).sat X Q env :=
  st_callm hc ha ⟨_, _, rfl, hl, h0, h1⟩ (fun o env' ho he => by obtain ⟨c, rfl⟩ := ho; subst hL; exact hk c env' he)
theorem st_live {ci : Nat} {β : List Bnd} {k : Tree} {env : List (EV U)} {M : MemSt} {L : List Int} (hc : X.cts[ci]? = some cLiveT) (ha : β.map (Bnd.den env) = [.u (.mem M)]) (hl : M.W.length = 34) (hL : liveL M.W = L)
    (hk : ∀ (c : List Int) (env' : List (EV U)), env ++ [.u (.mem M), .l (L ++ c), .i L.length, .i ((L.length + c.length : Nat) : Int)] = env' → k.sat X Q env') : (Tree.callm ci β k).sat X Q env :=
  st_callm hc ha ⟨_, rfl, hl⟩ (fun o env' ho he => by obtain ⟨c, rfl⟩ := ho; subst hL; exact hk c env' he)
end
theorem pre_ints {R c d : List Int} {x y : Int} (h : R.length ≤ 3) : cSameInts.pre [.l (R ++ c), .l (R ++ d), .i R.length, .i x, .i R.length, .i y] :=
  ⟨_, _, _, _, _, _, rfl, by omega, by rw [List.length_append]; omega, by omega, by rw [List.length_append]; omega, by omega⟩
theorem out_ints {R c d : List Int} {x y : EV U} : cSameInts.out [.l (R ++ c), .l (R ++ d), .i R.length, x, .i R.length, y] = [.b true] := by
  show [EV.b (decide (List.take ((R.length : Int)).toNat (R ++ c) = List.take ((R.length : Int)).toNat (R ++ d)))] = _
  rw [Int.toNat_natCast, List.take_left' rfl, List.take_left' rfl]; simp
set_option maxRecDepth 10000 in
set_option maxHeartbeats 8000000 in
theorem bTv0 (P : Program) (hx : List (Nat × Nat × List Nat)) : ∀ env, tv2Inv env → tTLevelsL0.sat { cxTv P with hints := hx } (ctrR cTLevels) env := by
  rintro env ⟨g, n, c, lv0, mk, x6, x7, x8, R, cc, x12, lv, M, at_, b, V, vc, k, rfl, z1, z2, ⟨hn, hr⟩, l0, l1, hW, hab, hV⟩
  have hl : M.W.length = 34 := by rw [hW, len_link, fillC_l]
  have hR := row_len hn hr
  have hVl : V.length ≤ 3 := by rw [hV]; have := len_live R (bitsL mk) (min k.toNat R.length); omega
  have hk1 : IntKind.i64.wrap (k + 1) = k + 1 := wrap_small (by omega) (by omega)
  have hk5 : IntKind.i64.wrap (5 + k) = 5 + k := wrap_small (by omega) (by omega)
  by_cases hlt : k < R.length
  · obtain ⟨ha, hb⟩ := hab (by omega)
    have hget : (R ++ cc)[k.toNat]?.getD 0 = R[k.toNat]?.getD 0 := by rw [List.getElem?_append_left (by omega)]
    have hrr := row_rng hr (k := k.toNat) (by omega)
    have hp := prev_rng hr (k := k.toNat) (by omega)
    rw [← ha] at hp
    have hs := link_step hl hr z1 hlt l0 l1 hW ha hb
    have hlv : liveR R (bitsL mk) (min (k + 1).toNat R.length) = match mkB mk k with | true => V | false => V ++ [R[k.toNat]?.getD 0] := by
      rw [show min (k + 1).toNat R.length = k.toNat + 1 by omega, liveR, bits_get z1 (by omega), hV, show min k.toNat R.length = k.toNat by omega]
      cases mkB mk k <;> rfl
    have hmk : mkE (bitsL mk) (k + 1).toNat = mkB mk k := by rw [show (k + 1).toNat = k.toNat + 1 by omega]; exact bits_get z1 (by omega)
    have hpv : R[k.toNat]?.getD 0 = prevE R (k + 1).toNat := by rw [show (k + 1).toNat = k.toNat + 1 by omega]; rfl
    have hvl : IntKind.i64.wrap ((V.length : Int) + 1) = ((V ++ [R[k.toNat]?.getD 0]).length : Int) := by rw [wrap_small (by omega) (by omega), List.length_append]; rfl
    cases hm : mkB mk k
    all_goals
      rw [hm] at hlv hmk
      simp only at hlv
      have hm2 := hm
      unfold mkB at hm2
      simp only [binDen, cmp_eql_t, cmp_eql_f] at hm2
      cases b
    all_goals
      unfold tTLevelsL0
      repeat' (first
        | (first
          | (with_reducible refine st_need ?_ ?_
             focus (simp only [Bx.den, Ex.den, Bnd.den, gI, gB, gL, gF, gN, gNil, List.map_cons, List.map_nil, List.cons_append, List.nil_append, List.getElem?_cons_zero, List.getElem?_cons_succ, List.getD, Option.getD_some, cmp_eql_t, cmp_eql_f, cmp_neq_t, cmp_neq_f, cmp_lss_t, cmp_lss_f, cmp_leq_t, cmp_leq_f, cmp_gtr_t, cmp_gtr_f, cmp_geq_t, cmp_geq_f, Bool.not_eq_true', Bool.not_eq_false', Bool.and_eq_true, Bool.and_eq_false_iff, binDen, Option.some.injEq, EV.u.injEq, Nil.isNil, beq_self_eq_true, and_self, true_and, and_true, or_false, false_or, or_self, not_true_eq_false, not_false_eq_true, ne_eq, Bool.true_eq_false, Bool.false_eq_true, reduceCtorEq, hk1, hk5, hget, hm2, List.length_append] <;> first | omega | assumption))
          | (with_reducible refine st_and ?_ ?_)
          | (with_reducible exact st_ok)
          | (with_reducible refine st_br (fun hc => ?_) (fun hc => ?_) <;> (simp only [Bx.den, Ex.den, Bnd.den, gI, gB, gL, gF, gN, gNil, List.map_cons, List.map_nil, List.cons_append, List.nil_append, List.getElem?_cons_zero, List.getElem?_cons_succ, List.getD, Option.getD_some, cmp_eql_t, cmp_eql_f, cmp_neq_t, cmp_neq_f, cmp_lss_t, cmp_lss_f, cmp_leq_t, cmp_leq_f, cmp_gtr_t, cmp_gtr_f, cmp_geq_t, cmp_geq_f, Bool.not_eq_true', Bool.not_eq_false', Bool.and_eq_true, Bool.and_eq_false_iff, binDen, Option.some.injEq, EV.u.injEq, Nil.isNil, beq_self_eq_true, and_self, true_and, and_true, or_false, false_or, or_self, not_true_eq_false, not_false_eq_true, ne_eq, Bool.true_eq_false, Bool.false_eq_true, reduceCtorEq, hk1, hk5, hget, hm2, List.length_append] at hc) <;> (try (exfalso; first | contradiction | omega)))
          | (refine st_call (by rfl) (by simp only [Bx.den, Ex.den, Bnd.den, gI, gB, gL, gF, gN, gNil, List.map_cons, List.map_nil, List.cons_append, List.nil_append, List.getElem?_cons_zero, List.getElem?_cons_succ, List.getD, Option.getD_some, cmp_eql_t, cmp_eql_f, cmp_neq_t, cmp_neq_f, cmp_lss_t, cmp_lss_f, cmp_leq_t, cmp_leq_f, cmp_gtr_t, cmp_gtr_f, cmp_geq_t, cmp_geq_f, Bool.not_eq_true', Bool.not_eq_false', Bool.and_eq_true, Bool.and_eq_false_iff, binDen, Option.some.injEq, EV.u.injEq, Nil.isNil, beq_self_eq_true, and_self, true_and, and_true, or_false, false_or, or_self, not_true_eq_false, not_false_eq_true, ne_eq, Bool.true_eq_false, Bool.false_eq_true, reduceCtorEq, hk1, hk5, hget, hm2, List.length_append] <;> rfl) ?_ (by simp only [out_next, out_store] <;> rfl) (by simp only [List.cons_append, List.nil_append] <;> rfl) ?_
             focus (first | exact ⟨_, _, rfl, by omega, by omega, l0, l1⟩ | exact ⟨_, _, _, rfl⟩))
          | (with_reducible refine st_ret (by simp only [Bx.den, Ex.den, Bnd.den, gI, gB, gL, gF, gN, gNil, List.map_cons, List.map_nil, List.cons_append, List.nil_append, List.getElem?_cons_zero, List.getElem?_cons_succ, List.getD, Option.getD_some, cmp_eql_t, cmp_eql_f, cmp_neq_t, cmp_neq_f, cmp_lss_t, cmp_lss_f, cmp_leq_t, cmp_leq_f, cmp_gtr_t, cmp_gtr_f, cmp_geq_t, cmp_geq_f, Bool.not_eq_true', Bool.not_eq_false', Bool.and_eq_true, Bool.and_eq_false_iff, binDen, Option.some.injEq, EV.u.injEq, Nil.isNil, beq_self_eq_true, and_self, true_and, and_true, or_false, false_or, or_self, not_true_eq_false, not_false_eq_true, ne_eq, Bool.true_eq_false, Bool.false_eq_true, reduceCtorEq, hk1, hk5, hget, hm2, List.length_append] <;> rfl) ?_
             (first | rfl | exact ⟨_, rfl⟩)))
        | (refine st_row (V := V) (by rfl) (by rfl) (by simp only [Bx.den, Ex.den, Bnd.den, gI, gB, gL, gF, gN, gNil, List.map_cons, List.map_nil, List.cons_append, List.nil_append, List.getElem?_cons_zero, List.getElem?_cons_succ, List.getD, Option.getD_some, cmp_eql_t, cmp_eql_f, cmp_neq_t, cmp_neq_f, cmp_lss_t, cmp_lss_f, cmp_leq_t, cmp_leq_f, cmp_gtr_t, cmp_gtr_f, cmp_geq_t, cmp_geq_f, Bool.not_eq_true', Bool.not_eq_false', Bool.and_eq_true, Bool.and_eq_false_iff, binDen, Option.some.injEq, EV.u.injEq, Nil.isNil, beq_self_eq_true, and_self, true_and, and_true, or_false, false_or, or_self, not_true_eq_false, not_false_eq_true, ne_eq, Bool.true_eq_false, Bool.false_eq_true, reduceCtorEq, hget] <;> rfl) (fun rr env' he => ?_)
           simp only [List.cons_append, List.nil_append] at he
           subst he)
        | (refine st_back (by rfl) (by simp only [Bx.den, Ex.den, Bnd.den, gI, gB, gL, gF, gN, gNil, List.map_cons, List.map_nil, List.cons_append, List.nil_append, List.getElem?_cons_zero, List.getElem?_cons_succ, List.getD, Option.getD_some, cmp_eql_t, cmp_eql_f, cmp_neq_t, cmp_neq_f, cmp_lss_t, cmp_lss_f, cmp_leq_t, cmp_leq_f, cmp_gtr_t, cmp_gtr_f, cmp_geq_t, cmp_geq_f, Bool.not_eq_true', Bool.not_eq_false', Bool.and_eq_true, Bool.and_eq_false_iff, binDen, Option.some.injEq, EV.u.injEq, Nil.isNil, beq_self_eq_true, and_self, true_and, and_true, or_false, false_or, or_self, not_true_eq_false, not_false_eq_true, ne_eq, Bool.true_eq_false, Bool.false_eq_true, reduceCtorEq, hk1, hget, hvl] <;> rfl) (by simp only [List.take_succ_cons, List.take_zero] <;> rfl) (by rfl) ?_ ?_
           focus first
             | (exact ⟨_, _, _, _, _, _, _, _, _, _, _, _, _, _, _, V, _, _, rfl, by omega, by omega, ⟨hn, hr⟩, l0, l1, hs, fun _ => ⟨hpv, (show mkB mk k = _ from hm).trans hmk.symm⟩, hlv.symm⟩)
             | (exact ⟨_, _, _, _, _, _, _, _, _, _, _, _, _, _, _, V ++ [R[k.toNat]?.getD 0], _, _, rfl, by omega, by omega, ⟨hn, hr⟩, l0, l1, hs, fun _ => ⟨hpv, (show mkB mk k = _ from hm).trans hmk.symm⟩, hlv.symm⟩)
           focus (show ((R.length : Int) + 1 - (k + 1)).toNat < ((R.length : Int) + 1 - k).toNat; omega))
        | fail "no step")
  · by_cases hend : k = R.length
    · obtain ⟨ha, hb⟩ := hab (by omega)
      have hp := prev_rng hr (k := k.toNat) (by omega)
      rw [← ha] at hp
      have hs := link_last hl hr hend l0 l1 hW ha hb
      have hV2 : V = liveR R (bitsL mk) (min (k + 1).toNat R.length) := by rw [hV]; congr 1; omega
      cases b
      all_goals
        unfold tTLevelsL0
        repeat' (first
          | (first
            | (with_reducible refine st_need ?_ ?_
               focus (simp only [Bx.den, Ex.den, Bnd.den, gI, gB, gL, gF, gN, gNil, List.map_cons, List.map_nil, List.cons_append, List.nil_append, List.getElem?_cons_zero, List.getElem?_cons_succ, List.getD, Option.getD_some, cmp_eql_t, cmp_eql_f, cmp_neq_t, cmp_neq_f, cmp_lss_t, cmp_lss_f, cmp_leq_t, cmp_leq_f, cmp_gtr_t, cmp_gtr_f, cmp_geq_t, cmp_geq_f, Bool.not_eq_true', Bool.not_eq_false', Bool.and_eq_true, Bool.and_eq_false_iff, binDen, Option.some.injEq, EV.u.injEq, Nil.isNil, beq_self_eq_true, and_self, true_and, and_true, or_false, false_or, or_self, not_true_eq_false, not_false_eq_true, ne_eq, Bool.true_eq_false, Bool.false_eq_true, reduceCtorEq, hk1, hk5] <;> first | omega | assumption))
            | (with_reducible refine st_and ?_ ?_)
            | (with_reducible exact st_ok)
            | (with_reducible refine st_br (fun hc => ?_) (fun hc => ?_) <;> (simp only [Bx.den, Ex.den, Bnd.den, gI, gB, gL, gF, gN, gNil, List.map_cons, List.map_nil, List.cons_append, List.nil_append, List.getElem?_cons_zero, List.getElem?_cons_succ, List.getD, Option.getD_some, cmp_eql_t, cmp_eql_f, cmp_neq_t, cmp_neq_f, cmp_lss_t, cmp_lss_f, cmp_leq_t, cmp_leq_f, cmp_gtr_t, cmp_gtr_f, cmp_geq_t, cmp_geq_f, Bool.not_eq_true', Bool.not_eq_false', Bool.and_eq_true, Bool.and_eq_false_iff, binDen, Option.some.injEq, EV.u.injEq, Nil.isNil, beq_self_eq_true, and_self, true_and, and_true, or_false, false_or, or_self, not_true_eq_false, not_false_eq_true, ne_eq, Bool.true_eq_false, Bool.false_eq_true, reduceCtorEq, hk1, hk5] at hc) <;> (try (exfalso; first | contradiction | omega)))
            | (refine st_call (by rfl) (by simp only [Bx.den, Ex.den, Bnd.den, gI, gB, gL, gF, gN, gNil, List.map_cons, List.map_nil, List.cons_append, List.nil_append, List.getElem?_cons_zero, List.getElem?_cons_succ, List.getD, Option.getD_some, cmp_eql_t, cmp_eql_f, cmp_neq_t, cmp_neq_f, cmp_lss_t, cmp_lss_f, cmp_leq_t, cmp_leq_f, cmp_gtr_t, cmp_gtr_f, cmp_geq_t, cmp_geq_f, Bool.not_eq_true', Bool.not_eq_false', Bool.and_eq_true, Bool.and_eq_false_iff, binDen, Option.some.injEq, EV.u.injEq, Nil.isNil, beq_self_eq_true, and_self, true_and, and_true, or_false, false_or, or_self, not_true_eq_false, not_false_eq_true, ne_eq, Bool.true_eq_false, Bool.false_eq_true, reduceCtorEq, hk1, hk5] <;> rfl) ?_ (by simp only [out_next, out_store] <;> rfl) (by simp only [List.cons_append, List.nil_append] <;> rfl) ?_
               focus (first | exact ⟨_, _, rfl, by omega, by omega, l0, l1⟩ | exact ⟨_, _, _, rfl⟩))
            | (with_reducible refine st_ret (by simp only [Bx.den, Ex.den, Bnd.den, gI, gB, gL, gF, gN, gNil, List.map_cons, List.map_nil, List.cons_append, List.nil_append, List.getElem?_cons_zero, List.getElem?_cons_succ, List.getD, Option.getD_some, cmp_eql_t, cmp_eql_f, cmp_neq_t, cmp_neq_f, cmp_lss_t, cmp_lss_f, cmp_leq_t, cmp_leq_f, cmp_gtr_t, cmp_gtr_f, cmp_geq_t, cmp_geq_f, Bool.not_eq_true', Bool.not_eq_false', Bool.and_eq_true, Bool.and_eq_false_iff, binDen, Option.some.injEq, EV.u.injEq, Nil.isNil, beq_self_eq_true, and_self, true_and, and_true, or_false, false_or, or_self, not_true_eq_false, not_false_eq_true, ne_eq, Bool.true_eq_false, Bool.false_eq_true, reduceCtorEq, hk1, hk5] <;> rfl) ?_
               (first | rfl | exact ⟨_, rfl⟩)))
          | (refine st_back (by rfl) (by simp only [Bx.den, Ex.den, Bnd.den, gI, gB, gL, gF, gN, gNil, List.map_cons, List.map_nil, List.cons_append, List.nil_append, List.getElem?_cons_zero, List.getElem?_cons_succ, List.getD, Option.getD_some, cmp_eql_t, cmp_eql_f, cmp_neq_t, cmp_neq_f, cmp_lss_t, cmp_lss_f, cmp_leq_t, cmp_leq_f, cmp_gtr_t, cmp_gtr_f, cmp_geq_t, cmp_geq_f, Bool.not_eq_true', Bool.not_eq_false', Bool.and_eq_true, Bool.and_eq_false_iff, binDen, Option.some.injEq, EV.u.injEq, Nil.isNil, beq_self_eq_true, and_self, true_and, and_true, or_false, false_or, or_self, not_true_eq_false, not_false_eq_true, ne_eq, Bool.true_eq_false, Bool.false_eq_true, reduceCtorEq, hk1] <;> rfl) (by simp only [List.take_succ_cons, List.take_zero] <;> rfl) (by rfl) ?_ ?_
             focus (exact ⟨_, _, _, _, _, _, _, _, _, _, _, _, _, _, _, V, _, _, rfl, by omega, by omega, ⟨hn, hr⟩, l0, l1, hs, fun _ => by omega, hV2⟩)
             focus (show ((R.length : Int) + 1 - (k + 1)).toNat < ((R.length : Int) + 1 - k).toNat; omega))
          | fail "no step")
    · have e : k.toNat = R.length + 1 := by omega
      obtain ⟨a1, a2, a3, a4, a5⟩ := chk_is hn hr mk
      have hV3 : V = liveR R (bitsL mk) R.length := by rw [hV]; congr 1; omega
      rw [e] at hW
      have hv : lv = 0 ∨ lv = 1 := by omega
      rcases hv with rfl | rfl
      all_goals
        unfold tTLevelsL0
        repeat' (first
          | (first
            | (with_reducible refine st_need ?_ ?_
               focus (simp only [Bx.den, Ex.den, Bnd.den, gI, gB, gL, gF, gN, gNil, List.map_cons, List.map_nil, List.cons_append, List.nil_append, List.getElem?_cons_zero, List.getElem?_cons_succ, List.getD, Option.getD_some, cmp_eql_t, cmp_eql_f, cmp_neq_t, cmp_neq_f, cmp_lss_t, cmp_lss_f, cmp_leq_t, cmp_leq_f, cmp_gtr_t, cmp_gtr_f, cmp_geq_t, cmp_geq_f, Bool.not_eq_true', Bool.not_eq_false', Bool.and_eq_true, Bool.and_eq_false_iff, binDen, Option.some.injEq, EV.u.injEq, Nil.isNil, beq_self_eq_true, and_self, true_and, and_true, or_false, false_or, or_self, not_true_eq_false, not_false_eq_true, ne_eq, Bool.true_eq_false, Bool.false_eq_true, reduceCtorEq, hk1, hk5] <;> first | omega | assumption))
            | (with_reducible refine st_and ?_ ?_)
            | (with_reducible exact st_ok)
            | (with_reducible refine st_br (fun hc => ?_) (fun hc => ?_) <;> (simp only [Bx.den, Ex.den, Bnd.den, gI, gB, gL, gF, gN, gNil, List.map_cons, List.map_nil, List.cons_append, List.nil_append, List.getElem?_cons_zero, List.getElem?_cons_succ, List.getD, Option.getD_some, cmp_eql_t, cmp_eql_f, cmp_neq_t, cmp_neq_f, cmp_lss_t, cmp_lss_f, cmp_leq_t, cmp_leq_f, cmp_gtr_t, cmp_gtr_f, cmp_geq_t, cmp_geq_f, Bool.not_eq_true', Bool.not_eq_false', Bool.and_eq_true, Bool.and_eq_false_iff, binDen, Option.some.injEq, EV.u.injEq, Nil.isNil, beq_self_eq_true, and_self, true_and, and_true, or_false, false_or, or_self, not_true_eq_false, not_false_eq_true, ne_eq, Bool.true_eq_false, Bool.false_eq_true, reduceCtorEq, hk1, hk5] at hc) <;> (try (exfalso; first | contradiction | omega)))
            | (refine st_call (by rfl) (by simp only [Bx.den, Ex.den, Bnd.den, gI, gB, gL, gF, gN, gNil, List.map_cons, List.map_nil, List.cons_append, List.nil_append, List.getElem?_cons_zero, List.getElem?_cons_succ, List.getD, Option.getD_some, cmp_eql_t, cmp_eql_f, cmp_neq_t, cmp_neq_f, cmp_lss_t, cmp_lss_f, cmp_leq_t, cmp_leq_f, cmp_gtr_t, cmp_gtr_f, cmp_geq_t, cmp_geq_f, Bool.not_eq_true', Bool.not_eq_false', Bool.and_eq_true, Bool.and_eq_false_iff, binDen, Option.some.injEq, EV.u.injEq, Nil.isNil, beq_self_eq_true, and_self, true_and, and_true, or_false, false_or, or_self, not_true_eq_false, not_false_eq_true, ne_eq, Bool.true_eq_false, Bool.false_eq_true, reduceCtorEq, hk1, hk5] <;> rfl) ?_ (by simp only [out_ints] <;> rfl) (by simp only [List.cons_append, List.nil_append] <;> rfl) ?_
               focus (first | exact pre_ints hR | exact pre_ints hVl))
            | (with_reducible refine st_ret (by simp only [Bx.den, Ex.den, Bnd.den, gI, gB, gL, gF, gN, gNil, List.map_cons, List.map_nil, List.cons_append, List.nil_append, List.getElem?_cons_zero, List.getElem?_cons_succ, List.getD, Option.getD_some, cmp_eql_t, cmp_eql_f, cmp_neq_t, cmp_neq_f, cmp_lss_t, cmp_lss_f, cmp_leq_t, cmp_leq_f, cmp_gtr_t, cmp_gtr_f, cmp_geq_t, cmp_geq_f, Bool.not_eq_true', Bool.not_eq_false', Bool.and_eq_true, Bool.and_eq_false_iff, binDen, Option.some.injEq, EV.u.injEq, Nil.isNil, beq_self_eq_true, and_self, true_and, and_true, or_false, false_or, or_self, not_true_eq_false, not_false_eq_true, ne_eq, Bool.true_eq_false, Bool.false_eq_true, reduceCtorEq, hk1, hk5] <;> rfl) ?_
               (first | rfl | exact ⟨_, rfl⟩)))
          | (refine st_level (L := R) (by rfl) (by simp only [Bx.den, Ex.den, Bnd.den, gI, gB, gL, gF, gN, gNil, List.map_cons, List.map_nil, List.cons_append, List.nil_append, List.getElem?_cons_zero, List.getElem?_cons_succ, List.getD, Option.getD_some, cmp_eql_t, cmp_eql_f, cmp_neq_t, cmp_neq_f, cmp_lss_t, cmp_lss_f, cmp_leq_t, cmp_leq_f, cmp_gtr_t, cmp_gtr_f, cmp_geq_t, cmp_geq_f, Bool.not_eq_true', Bool.not_eq_false', Bool.and_eq_true, Bool.and_eq_false_iff, binDen, Option.some.injEq, EV.u.injEq, Nil.isNil, beq_self_eq_true, and_self, true_and, and_true, or_false, false_or, or_self, not_true_eq_false, not_false_eq_true, ne_eq, Bool.true_eq_false, Bool.false_eq_true, reduceCtorEq, hk1] <;> rfl) hl (by decide) (by decide) (by rw [hW]; first | exact a1 | exact a2) (fun dd env' he => ?_)
             simp only [List.cons_append, List.nil_append] at he
             subst he)
          | (refine st_level (L := []) (by rfl) (by simp only [Bx.den, Ex.den, Bnd.den, gI, gB, gL, gF, gN, gNil, List.map_cons, List.map_nil, List.cons_append, List.nil_append, List.getElem?_cons_zero, List.getElem?_cons_succ, List.getD, Option.getD_some, cmp_eql_t, cmp_eql_f, cmp_neq_t, cmp_neq_f, cmp_lss_t, cmp_lss_f, cmp_leq_t, cmp_leq_f, cmp_gtr_t, cmp_gtr_f, cmp_geq_t, cmp_geq_f, Bool.not_eq_true', Bool.not_eq_false', Bool.and_eq_true, Bool.and_eq_false_iff, binDen, Option.some.injEq, EV.u.injEq, Nil.isNil, beq_self_eq_true, and_self, true_and, and_true, or_false, false_or, or_self, not_true_eq_false, not_false_eq_true, ne_eq, Bool.true_eq_false, Bool.false_eq_true, reduceCtorEq, hk1] <;> rfl) hl (by decide) (by decide) (by rw [hW]; exact a3) (fun dd env' he => ?_)
             simp only [List.cons_append, List.nil_append, List.length_nil, Int.natCast_zero] at he
             subst he)
          | (refine st_live (L := V) (by rfl) (by simp only [Bx.den, Ex.den, Bnd.den, gI, gB, gL, gF, gN, gNil, List.map_cons, List.map_nil, List.cons_append, List.nil_append, List.getElem?_cons_zero, List.getElem?_cons_succ, List.getD, Option.getD_some, cmp_eql_t, cmp_eql_f, cmp_neq_t, cmp_neq_f, cmp_lss_t, cmp_lss_f, cmp_leq_t, cmp_leq_f, cmp_gtr_t, cmp_gtr_f, cmp_geq_t, cmp_geq_f, Bool.not_eq_true', Bool.not_eq_false', Bool.and_eq_true, Bool.and_eq_false_iff, binDen, Option.some.injEq, EV.u.injEq, Nil.isNil, beq_self_eq_true, and_self, true_and, and_true, or_false, false_or, or_self, not_true_eq_false, not_false_eq_true, ne_eq, Bool.true_eq_false, Bool.false_eq_true, reduceCtorEq, hk1] <;> rfl) hl (by rw [hW, hV3]; exact a5) (fun dd env' he => ?_)
             simp only [List.cons_append, List.nil_append] at he
             subst he)
          | (refine st_live (L := []) (by rfl) (by simp only [Bx.den, Ex.den, Bnd.den, gI, gB, gL, gF, gN, gNil, List.map_cons, List.map_nil, List.cons_append, List.nil_append, List.getElem?_cons_zero, List.getElem?_cons_succ, List.getD, Option.getD_some, cmp_eql_t, cmp_eql_f, cmp_neq_t, cmp_neq_f, cmp_lss_t, cmp_lss_f, cmp_leq_t, cmp_leq_f, cmp_gtr_t, cmp_gtr_f, cmp_geq_t, cmp_geq_f, Bool.not_eq_true', Bool.not_eq_false', Bool.and_eq_true, Bool.and_eq_false_iff, binDen, Option.some.injEq, EV.u.injEq, Nil.isNil, beq_self_eq_true, and_self, true_and, and_true, or_false, false_or, or_self, not_true_eq_false, not_false_eq_true, ne_eq, Bool.true_eq_false, Bool.false_eq_true, reduceCtorEq, hk1] <;> rfl) hl (by rw [hW]; exact a4) (fun dd env' he => ?_)
             simp only [List.cons_append, List.nil_append, List.length_nil, Int.natCast_zero] at he
             subst he)
          | fail "no step")
set_option maxRecDepth 10000 in
set_option maxHeartbeats 8000000 in
theorem bTv1 (P : Program) (hx : List (Nat × Nat × List Nat)) : ∀ env, tv1Inv env → tTLevelsL1.sat { cxTv P with hints := hx } (ctrR cTLevels) env := by
  rintro env ⟨g, n, c, lv, mk, x6, x7, R, cc, k, rfl, z1, z2, z3, hn, hr⟩
  have hR := row_len hn hr
  have hk1 : IntKind.i64.wrap (k + 1) = k + 1 := wrap_small (by omega) (by omega)
  have m1 : 0 ≤ (g k.toNat 0).emod 3 := Int.emod_nonneg _ (by decide)
  have m2 : (g k.toNat 0).emod 3 < 3 := Int.emod_lt_of_pos _ (by decide)
  generalize hg : (g k.toNat 0).emod 3 = y at m1 m2
  have e1 : 0 ≤ lv.emod 2 := Int.emod_nonneg _ (by decide)
  have e2 : lv.emod 2 < 2 := Int.emod_lt_of_pos _ (by decide)
  have hvl : IntKind.i64.wrap ((R.length : Int) + 1) = ((R ++ [y]).length : Int) := by rw [wrap_small (by omega) (by omega), List.length_append]; rfl
  unfold tTLevelsL1
  repeat' (first
    | (first
      | (with_reducible refine st_need ?_ ?_
         focus (simp only [Bx.den, Ex.den, Bnd.den, gI, gB, gL, gF, gN, gNil, List.map_cons, List.map_nil, List.cons_append, List.nil_append, List.getElem?_cons_zero, List.getElem?_cons_succ, List.getD, Option.getD_some, cmp_eql_t, cmp_eql_f, cmp_neq_t, cmp_neq_f, cmp_lss_t, cmp_lss_f, cmp_leq_t, cmp_leq_f, cmp_gtr_t, cmp_gtr_f, cmp_geq_t, cmp_geq_f, Bool.not_eq_true', Bool.not_eq_false', Bool.and_eq_true, Bool.and_eq_false_iff, binDen, Option.some.injEq, EV.u.injEq, Nil.isNil, beq_self_eq_true, and_self, true_and, and_true, or_false, false_or, or_self, not_true_eq_false, not_false_eq_true, ne_eq, Bool.true_eq_false, Bool.false_eq_true, reduceCtorEq, hk1, hg, List.length_append, decide_eq_true_eq, decide_eq_false_iff_not] <;> first | omega | assumption))
      | (with_reducible refine st_and ?_ ?_)
      | (with_reducible exact st_ok)
      | (with_reducible refine st_br (fun hc => ?_) (fun hc => ?_) <;> (simp only [Bx.den, Ex.den, Bnd.den, gI, gB, gL, gF, gN, gNil, List.map_cons, List.map_nil, List.cons_append, List.nil_append, List.getElem?_cons_zero, List.getElem?_cons_succ, List.getD, Option.getD_some, cmp_eql_t, cmp_eql_f, cmp_neq_t, cmp_neq_f, cmp_lss_t, cmp_lss_f, cmp_leq_t, cmp_leq_f, cmp_gtr_t, cmp_gtr_f, cmp_geq_t, cmp_geq_f, Bool.not_eq_true', Bool.not_eq_false', Bool.and_eq_true, Bool.and_eq_false_iff, binDen, Option.some.injEq, EV.u.injEq, Nil.isNil, beq_self_eq_true, and_self, true_and, and_true, or_false, false_or, or_self, not_true_eq_false, not_false_eq_true, ne_eq, Bool.true_eq_false, Bool.false_eq_true, reduceCtorEq, hk1, hg, List.length_append, decide_eq_true_eq, decide_eq_false_iff_not] at hc) <;> (try (exfalso; first | contradiction | omega)))
      | (refine st_call (by rfl) (by simp only [Bx.den, Ex.den, Bnd.den, gI, gB, gL, gF, gN, gNil, List.map_cons, List.map_nil, List.cons_append, List.nil_append, List.getElem?_cons_zero, List.getElem?_cons_succ, List.getD, Option.getD_some, cmp_eql_t, cmp_eql_f, cmp_neq_t, cmp_neq_f, cmp_lss_t, cmp_lss_f, cmp_leq_t, cmp_leq_f, cmp_gtr_t, cmp_gtr_f, cmp_geq_t, cmp_geq_f, Bool.not_eq_true', Bool.not_eq_false', Bool.and_eq_true, Bool.and_eq_false_iff, binDen, Option.some.injEq, EV.u.injEq, Nil.isNil, beq_self_eq_true, and_self, true_and, and_true, or_false, false_or, or_self, not_true_eq_false, not_false_eq_true, ne_eq, Bool.true_eq_false, Bool.false_eq_true, reduceCtorEq, hk1, hg, List.length_append, decide_eq_true_eq, decide_eq_false_iff_not] <;> rfl) ?_ (by simp only [out_pick, hg, out_among] <;> rfl) (by simp only [List.cons_append, List.nil_append] <;> rfl) ?_
         focus (first | exact pre_pick (by decide) (by decide) | exact pre_among hR))
      | (with_reducible refine st_ret (by simp only [Bx.den, Ex.den, Bnd.den, gI, gB, gL, gF, gN, gNil, List.map_cons, List.map_nil, List.cons_append, List.nil_append, List.getElem?_cons_zero, List.getElem?_cons_succ, List.getD, Option.getD_some, cmp_eql_t, cmp_eql_f, cmp_neq_t, cmp_neq_f, cmp_lss_t, cmp_lss_f, cmp_leq_t, cmp_leq_f, cmp_gtr_t, cmp_gtr_f, cmp_geq_t, cmp_geq_f, Bool.not_eq_true', Bool.not_eq_false', Bool.and_eq_true, Bool.and_eq_false_iff, binDen, Option.some.injEq, EV.u.injEq, Nil.isNil, beq_self_eq_true, and_self, true_and, and_true, or_false, false_or, or_self, not_true_eq_false, not_false_eq_true, ne_eq, Bool.true_eq_false, Bool.false_eq_true, reduceCtorEq, hk1, hg, List.length_append, decide_eq_true_eq, decide_eq_false_iff_not] <;> rfl) ?_
         (first | rfl | exact ⟨_, rfl⟩)))
    | (refine st_row (V := R) (by rfl) (by rfl) (by simp only [Bx.den, Ex.den, Bnd.den, gI, gB, gL, gF, gN, gNil, List.map_cons, List.map_nil, List.cons_append, List.nil_append, List.getElem?_cons_zero, List.getElem?_cons_succ, List.getD, Option.getD_some, cmp_eql_t, cmp_eql_f, cmp_neq_t, cmp_neq_f, cmp_lss_t, cmp_lss_f, cmp_leq_t, cmp_leq_f, cmp_gtr_t, cmp_gtr_f, cmp_geq_t, cmp_geq_f, Bool.not_eq_true', Bool.not_eq_false', Bool.and_eq_true, Bool.and_eq_false_iff, binDen, Option.some.injEq, EV.u.injEq, Nil.isNil, beq_self_eq_true, and_self, true_and, and_true, or_false, false_or, or_self, not_true_eq_false, not_false_eq_true, ne_eq, Bool.true_eq_false, Bool.false_eq_true, reduceCtorEq, hg] <;> rfl) (fun rr env' he => ?_)
       simp only [List.cons_append, List.nil_append] at he
       subst he)
    | (refine st_lst (by simp only [List.map_cons, List.map_nil, List.cons_append, List.nil_append] <;> rfl) ?_)
    | (refine st_back (by rfl) (by simp only [Bx.den, Ex.den, Bnd.den, gI, gB, gL, gF, gN, gNil, List.map_cons, List.map_nil, List.cons_append, List.nil_append, List.getElem?_cons_zero, List.getElem?_cons_succ, List.getD, Option.getD_some, cmp_eql_t, cmp_eql_f, cmp_neq_t, cmp_neq_f, cmp_lss_t, cmp_lss_f, cmp_leq_t, cmp_leq_f, cmp_gtr_t, cmp_gtr_f, cmp_geq_t, cmp_geq_f, Bool.not_eq_true', Bool.not_eq_false', Bool.and_eq_true, Bool.and_eq_false_iff, binDen, Option.some.injEq, EV.u.injEq, Nil.isNil, beq_self_eq_true, and_self, true_and, and_true, or_false, false_or, or_self, not_true_eq_false, not_false_eq_true, ne_eq, Bool.true_eq_false, Bool.false_eq_true, reduceCtorEq, hk1, hvl] <;> rfl) (by simp only [List.take_succ_cons, List.take_zero] <;> rfl) (by rfl) ?_ ?_
       focus first
         | exact ⟨_, _, _, _, _, _, _, R, _, _, rfl, by omega, by omega, by omega, hn, hr⟩
         | exact ⟨_, _, _, _, _, _, _, R ++ [y], _, _, rfl, by omega, by omega, by omega, List.nodup_append.2 ⟨hn, by simp, fun a ha b hb => by rw [List.mem_singleton] at hb; subst hb; exact fun e => absurd (e ▸ ha) (by assumption)⟩, fun x hx => by rcases List.mem_append.1 hx with h | h; exact hr x h; rw [List.mem_singleton] at h; omega⟩
       focus (show ((n : Int) - (k + 1)).toNat < ((n : Int) - k).toNat; omega))
    | (refine st_loop (by rfl) (by simp only [Bx.den, Ex.den, Bnd.den, gI, gB, gL, gF, gN, gNil, List.map_cons, List.map_nil, List.cons_append, List.nil_append, List.getElem?_cons_zero, List.getElem?_cons_succ, List.getD, Option.getD_some, cmp_eql_t, cmp_eql_f, cmp_neq_t, cmp_neq_f, cmp_lss_t, cmp_lss_f, cmp_leq_t, cmp_leq_f, cmp_gtr_t, cmp_gtr_f, cmp_geq_t, cmp_geq_f, Bool.not_eq_true', Bool.not_eq_false', Bool.and_eq_true, Bool.and_eq_false_iff, binDen, Option.some.injEq, EV.u.injEq, Nil.isNil, beq_self_eq_true, and_self, true_and, and_true, or_false, false_or, or_self, not_true_eq_false, not_false_eq_true, ne_eq, Bool.true_eq_false, Bool.false_eq_true, reduceCtorEq, hk1] <;> rfl) (by simp only [List.take_succ_cons, List.take_zero] <;> rfl) ?_ (fun env' h => bTv0 P hx env' h)
       exact ⟨_, _, _, _, _, _, _, _, R, cc, _, _, _, _, _, [], [], _, rfl, by omega, by omega, ⟨hn, hr⟩, e1, by omega, rfl, fun _ => ⟨rfl, rfl⟩, by simp [liveR]⟩)
    | fail "no step")
set_option maxRecDepth 10000 in
set_option maxHeartbeats 8000000 in
theorem vTLevels (P : Program) (hx : List (Nat × Nat × List Nat)) : ∀ ins, ins.length = cTLevels.nin → cTLevels.pre ins → tTLevels.sat { cxTv P with hints := hx } (ctrR cTLevels) ins := by
  rintro ins _ ⟨g, n, c, lv, mk, rfl⟩
  have h0 : True := trivial
  unfold tTLevels
  repeat' (first
    | (first
      | (with_reducible refine st_need ?_ ?_
         focus (simp only [Bx.den, Ex.den, Bnd.den, gI, gB, gL, gF, gN, gNil, List.map_cons, List.map_nil, List.cons_append, List.nil_append, List.getElem?_cons_zero, List.getElem?_cons_succ, List.getD, Option.getD_some, cmp_eql_t, cmp_eql_f, cmp_neq_t, cmp_neq_f, cmp_lss_t, cmp_lss_f, cmp_leq_t, cmp_leq_f, cmp_gtr_t, cmp_gtr_f, cmp_geq_t, cmp_geq_f, Bool.not_eq_true', Bool.not_eq_false', Bool.and_eq_true, Bool.and_eq_false_iff, binDen, Option.some.injEq, EV.u.injEq, Nil.isNil, beq_self_eq_true, and_self, true_and, and_true, or_false, false_or, or_self, not_true_eq_false, not_false_eq_true, ne_eq, Bool.true_eq_false, Bool.false_eq_true, reduceCtorEq, Nil.isNil] <;> first | omega | assumption))
      | (with_reducible refine st_and ?_ ?_)
      | (with_reducible exact st_ok)
      | (with_reducible refine st_br (fun hc => ?_) (fun hc => ?_) <;> (simp only [Bx.den, Ex.den, Bnd.den, gI, gB, gL, gF, gN, gNil, List.map_cons, List.map_nil, List.cons_append, List.nil_append, List.getElem?_cons_zero, List.getElem?_cons_succ, List.getD, Option.getD_some, cmp_eql_t, cmp_eql_f, cmp_neq_t, cmp_neq_f, cmp_lss_t, cmp_lss_f, cmp_leq_t, cmp_leq_f, cmp_gtr_t, cmp_gtr_f, cmp_geq_t, cmp_geq_f, Bool.not_eq_true', Bool.not_eq_false', Bool.and_eq_true, Bool.and_eq_false_iff, binDen, Option.some.injEq, EV.u.injEq, Nil.isNil, beq_self_eq_true, and_self, true_and, and_true, or_false, false_or, or_self, not_true_eq_false, not_false_eq_true, ne_eq, Bool.true_eq_false, Bool.false_eq_true, reduceCtorEq, Nil.isNil] at hc) <;> (try (exfalso; first | contradiction | omega)))
      | (refine st_call (by rfl) (by simp only [Bx.den, Ex.den, Bnd.den, gI, gB, gL, gF, gN, gNil, List.map_cons, List.map_nil, List.cons_append, List.nil_append, List.getElem?_cons_zero, List.getElem?_cons_succ, List.getD, Option.getD_some, cmp_eql_t, cmp_eql_f, cmp_neq_t, cmp_neq_f, cmp_lss_t, cmp_lss_f, cmp_leq_t, cmp_leq_f, cmp_gtr_t, cmp_gtr_f, cmp_geq_t, cmp_geq_f, Bool.not_eq_true', Bool.not_eq_false', Bool.and_eq_true, Bool.and_eq_false_iff, binDen, Option.some.injEq, EV.u.injEq, Nil.isNil, beq_self_eq_true, and_self, true_and, and_true, or_false, false_or, or_self, not_true_eq_false, not_false_eq_true, ne_eq, Bool.true_eq_false, Bool.false_eq_true, reduceCtorEq, Nil.isNil] <;> rfl) ?_ (by simp only [out_new (show (1:Int) ≤ 34 by decide) (show (34:Int) ≤ 4096 by decide), out_fillC, out_litB] <;> rfl) (by simp only [List.cons_append, List.nil_append] <;> rfl) ?_
         focus (first | exact ⟨_, rfl⟩ | rfl))
      | (with_reducible refine st_ret (by simp only [Bx.den, Ex.den, Bnd.den, gI, gB, gL, gF, gN, gNil, List.map_cons, List.map_nil, List.cons_append, List.nil_append, List.getElem?_cons_zero, List.getElem?_cons_succ, List.getD, Option.getD_some, cmp_eql_t, cmp_eql_f, cmp_neq_t, cmp_neq_f, cmp_lss_t, cmp_lss_f, cmp_leq_t, cmp_leq_f, cmp_gtr_t, cmp_gtr_f, cmp_geq_t, cmp_geq_f, Bool.not_eq_true', Bool.not_eq_false', Bool.and_eq_true, Bool.and_eq_false_iff, binDen, Option.some.injEq, EV.u.injEq, Nil.isNil, beq_self_eq_true, and_self, true_and, and_true, or_false, false_or, or_self, not_true_eq_false, not_false_eq_true, ne_eq, Bool.true_eq_false, Bool.false_eq_true, reduceCtorEq, Nil.isNil] <;> rfl) ?_
         (first | rfl | exact ⟨_, rfl⟩)))
    | (refine st_lst (by simp only [List.map_cons, List.map_nil, List.cons_append, List.nil_append] <;> rfl) ?_)
    | (refine st_loop (by rfl) (by simp only [Bx.den, Ex.den, Bnd.den, gI, gB, gL, gF, gN, gNil, List.map_cons, List.map_nil, List.cons_append, List.nil_append, List.getElem?_cons_zero, List.getElem?_cons_succ, List.getD, Option.getD_some, cmp_eql_t, cmp_eql_f, cmp_neq_t, cmp_neq_f, cmp_lss_t, cmp_lss_f, cmp_leq_t, cmp_leq_f, cmp_gtr_t, cmp_gtr_f, cmp_geq_t, cmp_geq_f, Bool.not_eq_true', Bool.not_eq_false', Bool.and_eq_true, Bool.and_eq_false_iff, binDen, Option.some.injEq, EV.u.injEq, Nil.isNil, beq_self_eq_true, and_self, true_and, and_true, or_false, false_or, or_self, not_true_eq_false, not_false_eq_true, ne_eq, Bool.true_eq_false, Bool.false_eq_true, reduceCtorEq, h0] <;> rfl) (by simp only [List.take_succ_cons, List.take_zero] <;> rfl) ?_ (fun env' h => bTv1 P hx env' h)
       exact ⟨_, _, _, _, _, _, _, [], [], _, rfl, by omega, by omega, by omega, List.nodup_nil, fun x h => by cases h⟩)
    | fail "no step")
theorem hTLevels : cTLevels.Holds objs Try.prog := runCtr_holds (X := { cxTv Try.prog with hints := hsTLevels }) (fuel := 40) (opens := []) (folds := []) objsOk mixed hctsTq (callable _ Try.func10 (by kernel_rfl) (by kernel_rfl)) (by rintro ins _ ⟨_, _, _, _, _, rfl⟩; rfl) (by rw [rTLevels]; exact vTLevels _ _)
theorem towerLevels_walk {v0 : Value} {n0 c0 : Nat} {g0 : Nat → Nat → Int} (lv mk : Int) (W : World) (h0 : SliceAt W [some .i64] v0 n0 c0 g0) : Calls Try.prog 10 #[v0, .int .i64 lv, .int .i64 mk] W fun e W' => e = .returned (.bool true) ∧ Below W.heap.size W W' :=
  hTLevels.law rfl (ins := [.f g0 n0, .i n0, .i c0, .i lv, .i mk]) (ρ := [ptrOf v0]) (vals := [v0, .int .i64 lv, .int .i64 mk]) rfl ⟨_, _, _, _, _, rfl⟩ rfl
    (DenL.cons (h0.den rfl (by simp) rfl rfl) (DenL.cons ⟨fun _ _ => rfl, trivial⟩ (DenL.cons ⟨fun _ _ => rfl, trivial⟩ DenL.nil)))
    (Sat.inputs rfl (by intro m e hm; match m, hm with | 0, hm => cases hm; exact .inl ⟨_, _, rfl, h0.ro rfl⟩ | m + 1, hm => cases hm))
end Go.Proofs.Ytbmbiiiacajolaa
