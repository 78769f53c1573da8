/- Texts of this proof. -/
import Derived.Test.YtbmbiiiacajolaaB6K
namespace Go.Proofs.Ytbmbiiiacajolaa
set_option linter.unusedVariables false
set_option linter.unusedSimpArgs false
set_option linter.unusedSectionVars false
open Go Go.RowKit
set_option maxHeartbeats 1000000 in
theorem vSameInts (P : Program) (hs : List (Nat × Nat × List Nat)) : ∀ ins, ins.length = cSameInts.nin → cSameInts.pre ins → tSameInts.sat { cxQw P with hints := hs } (ctrR cSameInts) ins := by
 rintro ins _ ⟨xs, ys, a, b, c, d, rfl, p1, p2, p3, p4, h1⟩
 simp only [Tree.sat, Bx.den, Ex.den, Bnd.den, gI, gB, gL, gF, gN, gNil, List.map_cons, List.map_nil, List.cons_append, List.nil_append, List.getElem?_cons_zero, List.getElem?_cons_succ, List.getD, Option.getD_some, cmp_eql_t, cmp_eql_f, cmp_neq_t, cmp_neq_f, cmp_lss_t, cmp_lss_f, cmp_leq_t, cmp_leq_f, cmp_gtr_t, cmp_gtr_f, cmp_geq_t, cmp_geq_f, Bool.not_eq_true', Bool.not_eq_false', Bool.and_eq_true, Bool.and_eq_false_iff, binDen, ctrR, Ctr.may, List.take_succ_cons, List.take_zero, Option.some.injEq, EV.u.injEq, tSameInts, cxQw, cx, objs, lSameInts, lSameWords, cSameInts, cmpDen_eql]
 refine ⟨by omega, by omega, ⟨0, _, rfl, by omega, by omega, ?_, ?_⟩, ?_⟩
 · simp
 · simp
   intro h e
   have := congrArg List.length e
   simp only [List.length_take] at this
   omega
 rintro fr hfr ⟨k, b', hk, h4, h5, h6, h7⟩
 simp only [List.drop_succ_cons, List.drop_zero] at hk
 subst hk
 simp only [Tree.sat, Bx.den, Ex.den, Bnd.den, gI, gB, gL, gF, gN, gNil, List.map_cons, List.map_nil, List.cons_append, List.nil_append, List.getElem?_cons_zero, List.getElem?_cons_succ, List.getD, Option.getD_some, cmp_eql_t, cmp_eql_f, cmp_neq_t, cmp_neq_f, cmp_lss_t, cmp_lss_f, cmp_leq_t, cmp_leq_f, cmp_gtr_t, cmp_gtr_f, cmp_geq_t, cmp_geq_f, Bool.not_eq_true', Bool.not_eq_false', Bool.and_eq_true, Bool.and_eq_false_iff, binDen, ctrR, Ctr.may, List.take_succ_cons, List.take_zero, Option.some.injEq, EV.u.injEq, tSameIntsL0, lSameInts, lSameWords, cSameInts, cmpDen_eql]
 refine ⟨fun hb => ?_, fun hb => ?_⟩
 · obtain ⟨h8, h9⟩ := h6 hb
   refine ⟨by omega, fun g => ?_, fun g => ?_⟩
   · repeat (refine ⟨by omega, ?_⟩)
     refine ⟨?_, ?_⟩
     · rw [wrap_small (by omega) (by omega)]
       have hs := take_eq_step h9 (by omega) (by omega)
       refine ⟨k + 1, _, rfl, by omega, by omega, fun e => ⟨h8, ?_⟩, fun e h => ?_⟩
       · rw [show (k + 1).toNat = k.toNat + 1 by omega, hs]; simpa using e
       · have h10 := congrArg (List.take (k.toNat + 1)) h
         rw [List.take_take, List.take_take, Nat.min_eq_left (by omega), Nat.min_eq_left (by omega), hs] at h10
         simp at e; exact e h10
     · rw [wrap_small (by omega) (by omega), hb]
       simp only [if_pos]
       split <;> omega
   · subst hb
     have hk' : k = a := by omega
     subst hk'
     rw [← h8]
     simp [h9]
 · have h8 := h7 hb
   subst hb
   simp [h8]
theorem hSameInts : cSameInts.Holds objs Try.prog := runCtr_holds (X := { cxQw Try.prog with hints := hsSameInts }) objsOk mixed noCts (callable _ Try.func45 (by kernel_rfl) (by kernel_rfl)) (by rintro ins _ ⟨_, _, _, _, _, _, rfl, _⟩; rfl) (by rw [rSameInts]; exact vSameInts _ _)
section
variable {k : Tree} {env : List (EV U)} {X : Cx U} {R : List (EV U) → List (EV U) → Prop}
theorem st_rowN {x : Ex} {y : Int} (hx : x.den env = y) (hk : ∀ (W r : List Int) (m : Int) (env' : List (EV U)), W = [y] ++ r → m = ((1 + r.length : Nat) : Int) → m = 1 + r.length → (W.length : Int) = 1 + r.length → env ++ [.l W, .i m] = env' → k.sat X R env') : (Tree.app none (.lit 0) x k).sat X R env := by
 intro r
 subst hx
 exact hk _ r _ _ rfl rfl rfl (by simp only [List.length_append, List.length_cons, List.length_take, List.length_nil]; omega) rfl
theorem st_rowS {i : Nat} {n : Int} {x : Ex} {W0 V vc : List Int} {y : Int} (hl : gL env i = W0) (hW : W0 = V ++ vc) (hn : n = (V.length : Int)) (hx : x.den env = y)
 (hk : ∀ (W r : List Int) (m : Int) (env' : List (EV U)), W = (V ++ [y]) ++ r → m = (((V ++ [y]).length + r.length : Nat) : Int) → m = n + 1 + r.length → (W.length : Int) = n + 1 + r.length → env ++ [.l W, .i m] = env' → k.sat X R env') : (Tree.app (some i) (.lit n) x k).sat X R env := by
 intro r
 have e : (Ex.lit n).den env = (V.length : Int) := hn
 refine hk _ r _ _ ?_ ?_ ?_ ?_ rfl
 · simp only
   subst hx hl
   rw [hW, e, Int.toNat_natCast, List.take_left' rfl, List.append_assoc]
   rfl
 · rw [e, Int.toNat_natCast, List.length_append]
   rfl
 · rw [e, Int.toNat_natCast, hn]
   omega
 · subst hl
   simp only
   rw [hW, e, Int.toNat_natCast, List.take_left' rfl, hn]
   simp only [List.length_append, List.length_cons]
   omega
end
theorem row_no {g : FindSt → List Int} {F : FindSt} (h : ¬ F.line = 9) : [EV.u (.find F), .l [], .i 0, .i 0] = rowF g [] [.u (.find F)] := by
 show _ = rowOut _ (F.told (g F)) []
 rw [FindSt.told, if_neg h]; rfl
set_option maxRecDepth 10000 in
set_option maxHeartbeats 8000000 in
theorem vFPreds (P : Program) (hs : List (Nat × Nat × List Nat)) : ∀ ins, ins.length = cFPreds.nin → cFPreds.pre ins → tFPreds.sat { cxQi P with hints := hs } (ctrR cFPreds) ins := by
 rintro ins _ ⟨F, rfl⟩
 unfold tFPreds
 refine st_and (st_opn (T := find10) (by rfl) ?_) (st_and (st_opn (T := find20) (by rfl) ?_) (st_and (st_opn (T := find21) (by rfl) ?_) (st_and (st_opn (T := find30) (by rfl) ?_) (st_and (st_opn (T := find31) (by rfl) ?_) (st_and (st_opn (T := find32) (by rfl) ?_) (st_and (st_opn (T := find40) (by rfl) ?_) (st_and (st_opn (T := find41) (by rfl) ?_) (st_and (st_opn (T := find42) (by rfl) ?_) (st_and (st_opn (T := find43) (by rfl) ?_) (nomore_find))))))))))
 (rintro ps hl ⟨a0, a1, a3, a4, a5, a6, a7, a8, a9, a10, a11, a12, key, line, pred, ref, cur, w, r, v0, p0, k0, s0, rfl, hn, hc1, hc2⟩ he
  simp only [List.getElem?_cons_zero, find10, find10Obj, Option.some.injEq, EV.u.injEq, U.find.injEq] at he
  subst he
  simp only [List.cons_append, List.nil_append])
 rotate_left
 (rintro ps hl ⟨a0, a1, a3, a4, a5, a6, a7, a8, a9, a10, a11, a12, key, line, pred, ref, cur, w, r, v0, p0, k0, s0, v1, p1, k1, s1, rfl, hn, hc1, hc2⟩ he
  simp only [List.getElem?_cons_zero, find20, find20Obj, Option.some.injEq, EV.u.injEq, U.find.injEq] at he
  subst he
  simp only [List.cons_append, List.nil_append])
 rotate_left
 (rintro ps hl ⟨a0, a1, a3, a4, a5, a6, a7, a8, a9, a10, a11, a12, key, line, pred, ref, cur, w, r, v0, p0, k0, s0, v1, p1, k1, s1, rfl, hn, hc1, hc2⟩ he
  simp only [List.getElem?_cons_zero, find21, find21Obj, Option.some.injEq, EV.u.injEq, U.find.injEq] at he
  subst he
  simp only [List.cons_append, List.nil_append])
 rotate_left
 (rintro ps hl ⟨a0, a1, a3, a4, a5, a6, a7, a8, a9, a10, a11, a12, key, line, pred, ref, cur, w, r, v0, p0, k0, s0, v1, p1, k1, s1, v2, p2, k2, s2, rfl, hn, hc1, hc2⟩ he
  simp only [List.getElem?_cons_zero, find30, find30Obj, Option.some.injEq, EV.u.injEq, U.find.injEq] at he
  subst he
  simp only [List.cons_append, List.nil_append])
 rotate_left
 (rintro ps hl ⟨a0, a1, a3, a4, a5, a6, a7, a8, a9, a10, a11, a12, key, line, pred, ref, cur, w, r, v0, p0, k0, s0, v1, p1, k1, s1, v2, p2, k2, s2, rfl, hn, hc1, hc2⟩ he
  simp only [List.getElem?_cons_zero, find31, find31Obj, Option.some.injEq, EV.u.injEq, U.find.injEq] at he
  subst he
  simp only [List.cons_append, List.nil_append])
 rotate_left
 (rintro ps hl ⟨a0, a1, a3, a4, a5, a6, a7, a8, a9, a10, a11, a12, key, line, pred, ref, cur, w, r, v0, p0, k0, s0, v1, p1, k1, s1, v2, p2, k2, s2, rfl, hn, hc1, hc2⟩ he
  simp only [List.getElem?_cons_zero, find32, find32Obj, Option.some.injEq, EV.u.injEq, U.find.injEq] at he
  subst he
  simp only [List.cons_append, List.nil_append])
 rotate_left
 (rintro ps hl ⟨a0, a1, a3, a4, a5, a6, a7, a8, a9, a10, a11, a12, key, line, pred, ref, cur, w, r, v0, p0, k0, s0, v1, p1, k1, s1, v2, p2, k2, s2, v3, p3, k3, s3, rfl, hn, hc1, hc2⟩ he
  simp only [List.getElem?_cons_zero, find40, find40Obj, Option.some.injEq, EV.u.injEq, U.find.injEq] at he
  subst he
  simp only [List.cons_append, List.nil_append])
 rotate_left
 (rintro ps hl ⟨a0, a1, a3, a4, a5, a6, a7, a8, a9, a10, a11, a12, key, line, pred, ref, cur, w, r, v0, p0, k0, s0, v1, p1, k1, s1, v2, p2, k2, s2, v3, p3, k3, s3, rfl, hn, hc1, hc2⟩ he
  simp only [List.getElem?_cons_zero, find41, find41Obj, Option.some.injEq, EV.u.injEq, U.find.injEq] at he
  subst he
  simp only [List.cons_append, List.nil_append])
 rotate_left
 (rintro ps hl ⟨a0, a1, a3, a4, a5, a6, a7, a8, a9, a10, a11, a12, key, line, pred, ref, cur, w, r, v0, p0, k0, s0, v1, p1, k1, s1, v2, p2, k2, s2, v3, p3, k3, s3, rfl, hn, hc1, hc2⟩ he
  simp only [List.getElem?_cons_zero, find42, find42Obj, Option.some.injEq, EV.u.injEq, U.find.injEq] at he
  subst he
  simp only [List.cons_append, List.nil_append])
 rotate_left
 (rintro ps hl ⟨a0, a1, a3, a4, a5, a6, a7, a8, a9, a10, a11, a12, key, line, pred, ref, cur, w, r, v0, p0, k0, s0, v1, p1, k1, s1, v2, p2, k2, s2, v3, p3, k3, s3, rfl, hn, hc1, hc2⟩ he
  simp only [List.getElem?_cons_zero, find43, find43Obj, Option.some.injEq, EV.u.injEq, U.find.injEq] at he
  subst he
  simp only [List.cons_append, List.nil_append])
 rotate_left
 all_goals
  repeat' (first
   | (first
     | (with_reducible refine st_need ?_ ?_
        focus (simp only [dn, reduceCtorEq, hn, va_map] <;> first | omega | assumption))
     | (with_reducible refine st_and ?_ ?_)
     | (with_reducible exact st_ok)
     | (with_reducible refine st_br (fun hc => ?_) (fun hc => ?_) <;> (simp only [dn, reduceCtorEq, hn, va_map] at hc) <;> (try (exfalso; first | contradiction | omega)))
     | (refine st_call (by rfl) (by simp only [dn, reduceCtorEq, hn, va_map] <;> rfl) ?_ (by rfl <;> rfl) (by simp only [dn] <;> rfl) ?_
        focus (first | rfl)))
   | (refine st_rowN (by simp only [dn, reduceCtorEq, hn] <;> rfl) (fun W r m env' hW hm hmi hlW he => ?_)
      simp only [List.cons_append, List.nil_append] at he
      subst he)
   | (refine st_rowS (by simp only [dn, reduceCtorEq, hn] <;> rfl) (by assumption) (by rfl) (by simp only [dn, reduceCtorEq, hn] <;> rfl) (fun W r m env' hW hm hmi hlW he => ?_)
      simp only [List.cons_append, List.nil_append] at he
      subst he)
   | (refine st_lst (by simp only [dn] <;> rfl) ?_)
   | (refine st_mk (by rfl) (by simp only [dn, reduceCtorEq, va_map] <;> rfl) ?_ (by simp only [dn] <;> rfl) ?_
      focus first | exact ⟨_, _, _, _, _, _, _, _, _, _, _, _, _, _, _, _, _, _, _, _, _, _, _, rfl, hn, hc1, hc2⟩ | exact ⟨_, _, _, _, _, _, _, _, _, _, _, _, _, _, _, _, _, _, _, _, _, _, _, _, _, _, _, rfl, hn, hc1, hc2⟩ | exact ⟨_, _, _, _, _, _, _, _, _, _, _, _, _, _, _, _, _, _, _, _, _, _, _, _, _, _, _, _, _, _, _, rfl, hn, hc1, hc2⟩ | exact ⟨_, _, _, _, _, _, _, _, _, _, _, _, _, _, _, _, _, _, _, _, _, _, _, _, _, _, _, _, _, _, _, _, _, _, _, rfl, hn, hc1, hc2⟩)
   | (refine st_ret (by simp only [dn, reduceCtorEq, va_map] <;> rfl) ?_
      first
       | exact ⟨[], row_no (by assumption)⟩
       | (subst_vars; exact ⟨_, rfl⟩))
   | fail "no step")
theorem hFPreds : cFPreds.Holds objs Try.prog := runCtr_holdsm (X := { cxQi Try.prog with hints := hsFPreds }) objsOk mixed noCts (callable _ Try.func34 (by kernel_rfl) (by kernel_rfl)) (by rintro ins outs _ ⟨F, rfl⟩ ⟨c, rfl⟩; rfl) (by rw [rFPreds]; exact vFPreds _ _)
set_option maxRecDepth 10000 in
set_option maxHeartbeats 8000000 in
theorem vFSuccs (P : Program) (hs : List (Nat × Nat × List Nat)) : ∀ ins, ins.length = cFSuccs.nin → cFSuccs.pre ins → tFSuccs.sat { cxQi P with hints := hs } (ctrR cFSuccs) ins := by
 rintro ins _ ⟨F, rfl⟩
 unfold tFSuccs
 refine st_and (st_opn (T := find10) (by rfl) ?_) (st_and (st_opn (T := find20) (by rfl) ?_) (st_and (st_opn (T := find21) (by rfl) ?_) (st_and (st_opn (T := find30) (by rfl) ?_) (st_and (st_opn (T := find31) (by rfl) ?_) (st_and (st_opn (T := find32) (by rfl) ?_) (st_and (st_opn (T := find40) (by rfl) ?_) (st_and (st_opn (T := find41) (by rfl) ?_) (st_and (st_opn (T := find42) (by rfl) ?_) (st_and (st_opn (T := find43) (by rfl) ?_) (nomore_find))))))))))
 (rintro ps hl ⟨a0, a1, a3, a4, a5, a6, a7, a8, a9, a10, a11, a12, key, line, pred, ref, cur, w, r, v0, p0, k0, s0, rfl, hn, hc1, hc2⟩ he
  simp only [List.getElem?_cons_zero, find10, find10Obj, Option.some.injEq, EV.u.injEq, U.find.injEq] at he
  subst he
  simp only [List.cons_append, List.nil_append])
 rotate_left
 (rintro ps hl ⟨a0, a1, a3, a4, a5, a6, a7, a8, a9, a10, a11, a12, key, line, pred, ref, cur, w, r, v0, p0, k0, s0, v1, p1, k1, s1, rfl, hn, hc1, hc2⟩ he
  simp only [List.getElem?_cons_zero, find20, find20Obj, Option.some.injEq, EV.u.injEq, U.find.injEq] at he
  subst he
  simp only [List.cons_append, List.nil_append])
 rotate_left
 (rintro ps hl ⟨a0, a1, a3, a4, a5, a6, a7, a8, a9, a10, a11, a12, key, line, pred, ref, cur, w, r, v0, p0, k0, s0, v1, p1, k1, s1, rfl, hn, hc1, hc2⟩ he
  simp only [List.getElem?_cons_zero, find21, find21Obj, Option.some.injEq, EV.u.injEq, U.find.injEq] at he
  subst he
  simp only [List.cons_append, List.nil_append])
 rotate_left
 (rintro ps hl ⟨a0, a1, a3, a4, a5, a6, a7, a8, a9, a10, a11, a12, key, line, pred, ref, cur, w, r, v0, p0, k0, s0, v1, p1, k1, s1, v2, p2, k2, s2, rfl, hn, hc1, hc2⟩ he
  simp only [List.getElem?_cons_zero, find30, find30Obj, Option.some.injEq, EV.u.injEq, U.find.injEq] at he
  subst he
  simp only [List.cons_append, List.nil_append])
 rotate_left
 (rintro ps hl ⟨a0, a1, a3, a4, a5, a6, a7, a8, a9, a10, a11, a12, key, line, pred, ref, cur, w, r, v0, p0, k0, s0, v1, p1, k1, s1, v2, p2, k2, s2, rfl, hn, hc1, hc2⟩ he
  simp only [List.getElem?_cons_zero, find31, find31Obj, Option.some.injEq, EV.u.injEq, U.find.injEq] at he
  subst he
  simp only [List.cons_append, List.nil_append])
 rotate_left
 (rintro ps hl ⟨a0, a1, a3, a4, a5, a6, a7, a8, a9, a10, a11, a12, key, line, pred, ref, cur, w, r, v0, p0, k0, s0, v1, p1, k1, s1, v2, p2, k2, s2, rfl, hn, hc1, hc2⟩ he
  simp only [List.getElem?_cons_zero, find32, find32Obj, Option.some.injEq, EV.u.injEq, U.find.injEq] at he
  subst he
  simp only [List.cons_append, List.nil_append])
 rotate_left
 (rintro ps hl ⟨a0, a1, a3, a4, a5, a6, a7, a8, a9, a10, a11, a12, key, line, pred, ref, cur, w, r, v0, p0, k0, s0, v1, p1, k1, s1, v2, p2, k2, s2, v3, p3, k3, s3, rfl, hn, hc1, hc2⟩ he
  simp only [List.getElem?_cons_zero, find40, find40Obj, Option.some.injEq, EV.u.injEq, U.find.injEq] at he
  subst he
  simp only [List.cons_append, List.nil_append])
 rotate_left
 (rintro ps hl ⟨a0, a1, a3, a4, a5, a6, a7, a8, a9, a10, a11, a12, key, line, pred, ref, cur, w, r, v0, p0, k0, s0, v1, p1, k1, s1, v2, p2, k2, s2, v3, p3, k3, s3, rfl, hn, hc1, hc2⟩ he
  simp only [List.getElem?_cons_zero, find41, find41Obj, Option.some.injEq, EV.u.injEq, U.find.injEq] at he
  subst he
  simp only [List.cons_append, List.nil_append])
 rotate_left
 (rintro ps hl ⟨a0, a1, a3, a4, a5, a6, a7, a8, a9, a10, a11, a12, key, line, pred, ref, cur, w, r, v0, p0, k0, s0, v1, p1, k1, s1, v2, p2, k2, s2, v3, p3, k3, s3, rfl, hn, hc1, hc2⟩ he
  simp only [List.getElem?_cons_zero, find42, find42Obj, Option.some.injEq, EV.u.injEq, U.find.injEq] at he
  subst he
  simp only [List.cons_append, List.nil_append])
 rotate_left
 (rintro ps hl ⟨a0, a1, a3, a4, a5, a6, a7, a8, a9, a10, a11, a12, key, line, pred, ref, cur, w, r, v0, p0, k0, s0, v1, p1, k1, s1, v2, p2, k2, s2, v3, p3, k3, s3, rfl, hn, hc1, hc2⟩ he
  simp only [List.getElem?_cons_zero, find43, find43Obj, Option.some.injEq, EV.u.injEq, U.find.injEq] at he
  subst he
  simp only [List.cons_append, List.nil_append])
 rotate_left
 all_goals
  repeat' (first
   | (first
     | (with_reducible refine st_need ?_ ?_
        focus (simp only [dn, reduceCtorEq, hn, va_map] <;> first | omega | assumption))
     | (with_reducible refine st_and ?_ ?_)
     | (with_reducible exact st_ok)
     | (with_reducible refine st_br (fun hc => ?_) (fun hc => ?_) <;> (simp only [dn, reduceCtorEq, hn, va_map] at hc) <;> (try (exfalso; first | contradiction | omega)))
     | (refine st_call (by rfl) (by simp only [dn, reduceCtorEq, hn, va_map] <;> rfl) ?_ (by rfl <;> rfl) (by simp only [dn] <;> rfl) ?_
        focus (first | rfl)))
   | (refine st_rowN (by simp only [dn, reduceCtorEq, hn] <;> rfl) (fun W r m env' hW hm hmi hlW he => ?_)
      simp only [List.cons_append, List.nil_append] at he
      subst he)
   | (refine st_rowS (by simp only [dn, reduceCtorEq, hn] <;> rfl) (by assumption) (by rfl) (by simp only [dn, reduceCtorEq, hn] <;> rfl) (fun W r m env' hW hm hmi hlW he => ?_)
      simp only [List.cons_append, List.nil_append] at he
      subst he)
   | (refine st_lst (by simp only [dn] <;> rfl) ?_)
   | (refine st_mk (by rfl) (by simp only [dn, reduceCtorEq, va_map] <;> rfl) ?_ (by simp only [dn] <;> rfl) ?_
      focus first | exact ⟨_, _, _, _, _, _, _, _, _, _, _, _, _, _, _, _, _, _, _, _, _, _, _, rfl, hn, hc1, hc2⟩ | exact ⟨_, _, _, _, _, _, _, _, _, _, _, _, _, _, _, _, _, _, _, _, _, _, _, _, _, _, _, rfl, hn, hc1, hc2⟩ | exact ⟨_, _, _, _, _, _, _, _, _, _, _, _, _, _, _, _, _, _, _, _, _, _, _, _, _, _, _, _, _, _, _, rfl, hn, hc1, hc2⟩ | exact ⟨_, _, _, _, _, _, _, _, _, _, _, _, _, _, _, _, _, _, _, _, _, _, _, _, _, _, _, _, _, _, _, _, _, _, _, rfl, hn, hc1, hc2⟩)
   | (refine st_ret (by simp only [dn, reduceCtorEq, va_map] <;> rfl) ?_
      first
       | exact ⟨[], row_no (by assumption)⟩
       | (subst_vars; exact ⟨_, rfl⟩))
   | fail "no step")
theorem hFSuccs : cFSuccs.Holds objs Try.prog := runCtr_holdsm (X := { cxQi Try.prog with hints := hsFSuccs }) objsOk mixed noCts (callable _ Try.func35 (by kernel_rfl) (by kernel_rfl)) (by rintro ins outs _ ⟨F, rfl⟩ ⟨c, rfl⟩; rfl) (by rw [rFSuccs]; exact vFSuccs _ _)
set_option maxRecDepth 10000 in
set_option maxHeartbeats 8000000 in
theorem vFKnown (P : Program) (hs : List (Nat × Nat × List Nat)) : ∀ ins, ins.length = cFKnown.nin → cFKnown.pre ins → tFKnown.sat { cxQi P with hints := hs } (ctrR cFKnown) ins := by
 rintro ins _ ⟨F, rfl⟩
 unfold tFKnown
 refine st_and (st_opn (T := find10) (by rfl) ?_) (st_and (st_opn (T := find20) (by rfl) ?_) (st_and (st_opn (T := find21) (by rfl) ?_) (st_and (st_opn (T := find30) (by rfl) ?_) (st_and (st_opn (T := find31) (by rfl) ?_) (st_and (st_opn (T := find32) (by rfl) ?_) (st_and (st_opn (T := find40) (by rfl) ?_) (st_and (st_opn (T := find41) (by rfl) ?_) (st_and (st_opn (T := find42) (by rfl) ?_) (st_and (st_opn (T := find43) (by rfl) ?_) (nomore_find))))))))))
 (rintro ps hl ⟨a0, a1, a3, a4, a5, a6, a7, a8, a9, a10, a11, a12, key, line, pred, ref, cur, w, r, v0, p0, k0, s0, rfl, hn, hc1, hc2⟩ he
  simp only [List.getElem?_cons_zero, find10, find10Obj, Option.some.injEq, EV.u.injEq, U.find.injEq] at he
  subst he
  simp only [List.cons_append, List.nil_append])
 rotate_left
 (rintro ps hl ⟨a0, a1, a3, a4, a5, a6, a7, a8, a9, a10, a11, a12, key, line, pred, ref, cur, w, r, v0, p0, k0, s0, v1, p1, k1, s1, rfl, hn, hc1, hc2⟩ he
  simp only [List.getElem?_cons_zero, find20, find20Obj, Option.some.injEq, EV.u.injEq, U.find.injEq] at he
  subst he
  simp only [List.cons_append, List.nil_append])
 rotate_left
 (rintro ps hl ⟨a0, a1, a3, a4, a5, a6, a7, a8, a9, a10, a11, a12, key, line, pred, ref, cur, w, r, v0, p0, k0, s0, v1, p1, k1, s1, rfl, hn, hc1, hc2⟩ he
  simp only [List.getElem?_cons_zero, find21, find21Obj, Option.some.injEq, EV.u.injEq, U.find.injEq] at he
  subst he
  simp only [List.cons_append, List.nil_append])
 rotate_left
 (rintro ps hl ⟨a0, a1, a3, a4, a5, a6, a7, a8, a9, a10, a11, a12, key, line, pred, ref, cur, w, r, v0, p0, k0, s0, v1, p1, k1, s1, v2, p2, k2, s2, rfl, hn, hc1, hc2⟩ he
  simp only [List.getElem?_cons_zero, find30, find30Obj, Option.some.injEq, EV.u.injEq, U.find.injEq] at he
  subst he
  simp only [List.cons_append, List.nil_append])
 rotate_left
 (rintro ps hl ⟨a0, a1, a3, a4, a5, a6, a7, a8, a9, a10, a11, a12, key, line, pred, ref, cur, w, r, v0, p0, k0, s0, v1, p1, k1, s1, v2, p2, k2, s2, rfl, hn, hc1, hc2⟩ he
  simp only [List.getElem?_cons_zero, find31, find31Obj, Option.some.injEq, EV.u.injEq, U.find.injEq] at he
  subst he
  simp only [List.cons_append, List.nil_append])
 rotate_left
 (rintro ps hl ⟨a0, a1, a3, a4, a5, a6, a7, a8, a9, a10, a11, a12, key, line, pred, ref, cur, w, r, v0, p0, k0, s0, v1, p1, k1, s1, v2, p2, k2, s2, rfl, hn, hc1, hc2⟩ he
  simp only [List.getElem?_cons_zero, find32, find32Obj, Option.some.injEq, EV.u.injEq, U.find.injEq] at he
  subst he
  simp only [List.cons_append, List.nil_append])
 rotate_left
 (rintro ps hl ⟨a0, a1, a3, a4, a5, a6, a7, a8, a9, a10, a11, a12, key, line, pred, ref, cur, w, r, v0, p0, k0, s0, v1, p1, k1, s1, v2, p2, k2, s2, v3, p3, k3, s3, rfl, hn, hc1, hc2⟩ he
  simp only [List.getElem?_cons_zero, find40, find40Obj, Option.some.injEq, EV.u.injEq, U.find.injEq] at he
  subst he
  simp only [List.cons_append, List.nil_append])
 rotate_left
 (rintro ps hl ⟨a0, a1, a3, a4, a5, a6, a7, a8, a9, a10, a11, a12, key, line, pred, ref, cur, w, r, v0, p0, k0, s0, v1, p1, k1, s1, v2, p2, k2, s2, v3, p3, k3, s3, rfl, hn, hc1, hc2⟩ he
  simp only [List.getElem?_cons_zero, find41, find41Obj, Option.some.injEq, EV.u.injEq, U.find.injEq] at he
  subst he
  simp only [List.cons_append, List.nil_append])
 rotate_left
 (rintro ps hl ⟨a0, a1, a3, a4, a5, a6, a7, a8, a9, a10, a11, a12, key, line, pred, ref, cur, w, r, v0, p0, k0, s0, v1, p1, k1, s1, v2, p2, k2, s2, v3, p3, k3, s3, rfl, hn, hc1, hc2⟩ he
  simp only [List.getElem?_cons_zero, find42, find42Obj, Option.some.injEq, EV.u.injEq, U.find.injEq] at he
  subst he
  simp only [List.cons_append, List.nil_append])
 rotate_left
 (rintro ps hl ⟨a0, a1, a3, a4, a5, a6, a7, a8, a9, a10, a11, a12, key, line, pred, ref, cur, w, r, v0, p0, k0, s0, v1, p1, k1, s1, v2, p2, k2, s2, v3, p3, k3, s3, rfl, hn, hc1, hc2⟩ he
  simp only [List.getElem?_cons_zero, find43, find43Obj, Option.some.injEq, EV.u.injEq, U.find.injEq] at he
  subst he
  simp only [List.cons_append, List.nil_append])
 rotate_left
 all_goals
  repeat' (first
   | (first
     | (with_reducible refine st_need ?_ ?_
        focus (simp only [dn, reduceCtorEq, hn, va_map] <;> first | omega | assumption))
     | (with_reducible refine st_and ?_ ?_)
     | (with_reducible exact st_ok)
     | (with_reducible refine st_br (fun hc => ?_) (fun hc => ?_) <;> (simp only [dn, reduceCtorEq, hn, va_map] at hc) <;> (try (exfalso; first | contradiction | omega)))
     | (refine st_call (by rfl) (by simp only [dn, reduceCtorEq, hn, va_map] <;> rfl) ?_ (by rfl <;> rfl) (by simp only [dn] <;> rfl) ?_
        focus (first | rfl)))
   | (refine st_rowN (by simp only [dn, reduceCtorEq, hn] <;> rfl) (fun W r m env' hW hm hmi hlW he => ?_)
      simp only [List.cons_append, List.nil_append] at he
      subst he)
   | (refine st_rowS (by simp only [dn, reduceCtorEq, hn] <;> rfl) (by assumption) (by rfl) (by simp only [dn, reduceCtorEq, hn] <;> rfl) (fun W r m env' hW hm hmi hlW he => ?_)
      simp only [List.cons_append, List.nil_append] at he
      subst he)
   | (refine st_lst (by simp only [dn] <;> rfl) ?_)
   | (refine st_mk (by rfl) (by simp only [dn, reduceCtorEq, va_map] <;> rfl) ?_ (by simp only [dn] <;> rfl) ?_
      focus first | exact ⟨_, _, _, _, _, _, _, _, _, _, _, _, _, _, _, _, _, _, _, _, _, _, _, rfl, hn, hc1, hc2⟩ | exact ⟨_, _, _, _, _, _, _, _, _, _, _, _, _, _, _, _, _, _, _, _, _, _, _, _, _, _, _, rfl, hn, hc1, hc2⟩ | exact ⟨_, _, _, _, _, _, _, _, _, _, _, _, _, _, _, _, _, _, _, _, _, _, _, _, _, _, _, _, _, _, _, rfl, hn, hc1, hc2⟩ | exact ⟨_, _, _, _, _, _, _, _, _, _, _, _, _, _, _, _, _, _, _, _, _, _, _, _, _, _, _, _, _, _, _, _, _, _, _, rfl, hn, hc1, hc2⟩)
   | (refine st_ret (by simp only [dn, reduceCtorEq, va_map] <;> rfl) ?_
      first
       | exact ⟨[], row_no (by assumption)⟩
       | (subst_vars; exact ⟨_, rfl⟩))
   | fail "no step")
theorem hFKnown : cFKnown.Holds objs Try.prog := runCtr_holdsm (X := { cxQi Try.prog with hints := hsFKnown }) objsOk mixed noCts (callable _ Try.func36 (by kernel_rfl) (by kernel_rfl)) (by rintro ins outs _ ⟨F, rfl⟩ ⟨c, rfl⟩; rfl) (by rw [rFKnown]; exact vFKnown _ _)
theorem err_yes {F : FindSt} (h : F.line = 9) : [EV.u (U.find F), .i 0] = cFErr.out [.u (U.find F)] := by show _ = [EV.u (U.find F), .i (errF F)]; rw [errF, if_pos h]
theorem err_no {F : FindSt} (h : ¬ F.line = 9) : [EV.u (U.find F), .i 14] = cFErr.out [.u (U.find F)] := by show _ = [EV.u (U.find F), .i (errF F)]; rw [errF, if_neg h]
set_option maxRecDepth 10000 in
set_option maxHeartbeats 8000000 in
theorem vFBy (P : Program) (hs : List (Nat × Nat × List Nat)) : ∀ ins, ins.length = cFBy.nin → cFBy.pre ins → tFBy.sat { cxQi P with hints := hs } (ctrR cFBy) ins := by
 rintro ins _ ⟨F, rfl⟩
 unfold tFBy
 refine st_and (st_opn (T := find10) (by rfl) ?_) (st_and (st_opn (T := find20) (by rfl) ?_) (st_and (st_opn (T := find21) (by rfl) ?_) (st_and (st_opn (T := find30) (by rfl) ?_) (st_and (st_opn (T := find31) (by rfl) ?_) (st_and (st_opn (T := find32) (by rfl) ?_) (st_and (st_opn (T := find40) (by rfl) ?_) (st_and (st_opn (T := find41) (by rfl) ?_) (st_and (st_opn (T := find42) (by rfl) ?_) (st_and (st_opn (T := find43) (by rfl) ?_) (nomore_find))))))))))
 (rintro ps hl ⟨a0, a1, a3, a4, a5, a6, a7, a8, a9, a10, a11, a12, key, line, pred, ref, cur, w, r, v0, p0, k0, s0, rfl, hn, hc1, hc2⟩ he
  simp only [List.getElem?_cons_zero, find10, find10Obj, Option.some.injEq, EV.u.injEq, U.find.injEq] at he
  subst he
  simp only [List.cons_append, List.nil_append])
 rotate_left
 (rintro ps hl ⟨a0, a1, a3, a4, a5, a6, a7, a8, a9, a10, a11, a12, key, line, pred, ref, cur, w, r, v0, p0, k0, s0, v1, p1, k1, s1, rfl, hn, hc1, hc2⟩ he
  simp only [List.getElem?_cons_zero, find20, find20Obj, Option.some.injEq, EV.u.injEq, U.find.injEq] at he
  subst he
  simp only [List.cons_append, List.nil_append])
 rotate_left
 (rintro ps hl ⟨a0, a1, a3, a4, a5, a6, a7, a8, a9, a10, a11, a12, key, line, pred, ref, cur, w, r, v0, p0, k0, s0, v1, p1, k1, s1, rfl, hn, hc1, hc2⟩ he
  simp only [List.getElem?_cons_zero, find21, find21Obj, Option.some.injEq, EV.u.injEq, U.find.injEq] at he
  subst he
  simp only [List.cons_append, List.nil_append])
 rotate_left
 (rintro ps hl ⟨a0, a1, a3, a4, a5, a6, a7, a8, a9, a10, a11, a12, key, line, pred, ref, cur, w, r, v0, p0, k0, s0, v1, p1, k1, s1, v2, p2, k2, s2, rfl, hn, hc1, hc2⟩ he
  simp only [List.getElem?_cons_zero, find30, find30Obj, Option.some.injEq, EV.u.injEq, U.find.injEq] at he
  subst he
  simp only [List.cons_append, List.nil_append])
 rotate_left
 (rintro ps hl ⟨a0, a1, a3, a4, a5, a6, a7, a8, a9, a10, a11, a12, key, line, pred, ref, cur, w, r, v0, p0, k0, s0, v1, p1, k1, s1, v2, p2, k2, s2, rfl, hn, hc1, hc2⟩ he
  simp only [List.getElem?_cons_zero, find31, find31Obj, Option.some.injEq, EV.u.injEq, U.find.injEq] at he
  subst he
  simp only [List.cons_append, List.nil_append])
 rotate_left
 (rintro ps hl ⟨a0, a1, a3, a4, a5, a6, a7, a8, a9, a10, a11, a12, key, line, pred, ref, cur, w, r, v0, p0, k0, s0, v1, p1, k1, s1, v2, p2, k2, s2, rfl, hn, hc1, hc2⟩ he
  simp only [List.getElem?_cons_zero, find32, find32Obj, Option.some.injEq, EV.u.injEq, U.find.injEq] at he
  subst he
  simp only [List.cons_append, List.nil_append])
 rotate_left
 (rintro ps hl ⟨a0, a1, a3, a4, a5, a6, a7, a8, a9, a10, a11, a12, key, line, pred, ref, cur, w, r, v0, p0, k0, s0, v1, p1, k1, s1, v2, p2, k2, s2, v3, p3, k3, s3, rfl, hn, hc1, hc2⟩ he
  simp only [List.getElem?_cons_zero, find40, find40Obj, Option.some.injEq, EV.u.injEq, U.find.injEq] at he
  subst he
  simp only [List.cons_append, List.nil_append])
 rotate_left
 (rintro ps hl ⟨a0, a1, a3, a4, a5, a6, a7, a8, a9, a10, a11, a12, key, line, pred, ref, cur, w, r, v0, p0, k0, s0, v1, p1, k1, s1, v2, p2, k2, s2, v3, p3, k3, s3, rfl, hn, hc1, hc2⟩ he
  simp only [List.getElem?_cons_zero, find41, find41Obj, Option.some.injEq, EV.u.injEq, U.find.injEq] at he
  subst he
  simp only [List.cons_append, List.nil_append])
 rotate_left
 (rintro ps hl ⟨a0, a1, a3, a4, a5, a6, a7, a8, a9, a10, a11, a12, key, line, pred, ref, cur, w, r, v0, p0, k0, s0, v1, p1, k1, s1, v2, p2, k2, s2, v3, p3, k3, s3, rfl, hn, hc1, hc2⟩ he
  simp only [List.getElem?_cons_zero, find42, find42Obj, Option.some.injEq, EV.u.injEq, U.find.injEq] at he
  subst he
  simp only [List.cons_append, List.nil_append])
 rotate_left
 (rintro ps hl ⟨a0, a1, a3, a4, a5, a6, a7, a8, a9, a10, a11, a12, key, line, pred, ref, cur, w, r, v0, p0, k0, s0, v1, p1, k1, s1, v2, p2, k2, s2, v3, p3, k3, s3, rfl, hn, hc1, hc2⟩ he
  simp only [List.getElem?_cons_zero, find43, find43Obj, Option.some.injEq, EV.u.injEq, U.find.injEq] at he
  subst he
  simp only [List.cons_append, List.nil_append])
 rotate_left
 all_goals
  repeat' (first
   | (first
     | (with_reducible refine st_need ?_ ?_
        focus (simp only [dn, reduceCtorEq, hn, va_map] <;> first | omega | assumption))
     | (with_reducible refine st_and ?_ ?_)
     | (with_reducible exact st_ok)
     | (with_reducible refine st_br (fun hc => ?_) (fun hc => ?_) <;> (simp only [dn, reduceCtorEq, hn, va_map] at hc) <;> (try (exfalso; first | contradiction | omega)))
     | (refine st_call (by rfl) (by simp only [dn, reduceCtorEq, hn, va_map] <;> rfl) ?_ (by rfl <;> rfl) (by simp only [dn] <;> rfl) ?_
        focus (first | rfl)))
   | (refine st_mk (by rfl) (by simp only [dn, reduceCtorEq, va_map] <;> rfl) ?_ (by simp only [dn] <;> rfl) ?_
      focus first | exact ⟨_, _, _, _, _, _, _, _, _, _, _, _, _, _, _, _, _, _, _, _, _, _, _, rfl, hn, hc1, hc2⟩ | exact ⟨_, _, _, _, _, _, _, _, _, _, _, _, _, _, _, _, _, _, _, _, _, _, _, _, _, _, _, rfl, hn, hc1, hc2⟩ | exact ⟨_, _, _, _, _, _, _, _, _, _, _, _, _, _, _, _, _, _, _, _, _, _, _, _, _, _, _, _, _, _, _, rfl, hn, hc1, hc2⟩ | exact ⟨_, _, _, _, _, _, _, _, _, _, _, _, _, _, _, _, _, _, _, _, _, _, _, _, _, _, _, _, _, _, _, _, _, _, _, rfl, hn, hc1, hc2⟩)
   | (refine st_ret (by simp only [dn, reduceCtorEq, va_map] <;> rfl) ?_
      first
       | exact err_yes (by assumption)
       | exact err_no (by assumption)
       | rfl)
   | fail "no step")
theorem hFBy : cFBy.Holds objs Try.prog := runCtr_holds (X := { cxQi Try.prog with hints := hsFBy }) objsOk mixed noCts (callable _ Try.func37 (by kernel_rfl) (by kernel_rfl)) (by rintro ins _ ⟨_, rfl⟩; rfl) (by rw [rFBy]; exact vFBy _ _)
set_option maxRecDepth 10000 in
set_option maxHeartbeats 8000000 in
theorem vFErr (P : Program) (hs : List (Nat × Nat × List Nat)) : ∀ ins, ins.length = cFErr.nin → cFErr.pre ins → tFErr.sat { cxQi P with hints := hs } (ctrR cFErr) ins := by
 rintro ins _ ⟨F, rfl⟩
 unfold tFErr
 refine st_and (st_opn (T := find10) (by rfl) ?_) (st_and (st_opn (T := find20) (by rfl) ?_) (st_and (st_opn (T := find21) (by rfl) ?_) (st_and (st_opn (T := find30) (by rfl) ?_) (st_and (st_opn (T := find31) (by rfl) ?_) (st_and (st_opn (T := find32) (by rfl) ?_) (st_and (st_opn (T := find40) (by rfl) ?_) (st_and (st_opn (T := find41) (by rfl) ?_) (st_and (st_opn (T := find42) (by rfl) ?_) (st_and (st_opn (T := find43) (by rfl) ?_) (nomore_find))))))))))
 (rintro ps hl ⟨a0, a1, a3, a4, a5, a6, a7, a8, a9, a10, a11, a12, key, line, pred, ref, cur, w, r, v0, p0, k0, s0, rfl, hn, hc1, hc2⟩ he
  simp only [List.getElem?_cons_zero, find10, find10Obj, Option.some.injEq, EV.u.injEq, U.find.injEq] at he
  subst he
  simp only [List.cons_append, List.nil_append])
 rotate_left
 (rintro ps hl ⟨a0, a1, a3, a4, a5, a6, a7, a8, a9, a10, a11, a12, key, line, pred, ref, cur, w, r, v0, p0, k0, s0, v1, p1, k1, s1, rfl, hn, hc1, hc2⟩ he
  simp only [List.getElem?_cons_zero, find20, find20Obj, Option.some.injEq, EV.u.injEq, U.find.injEq] at he
  subst he
  simp only [List.cons_append, List.nil_append])
 rotate_left
 (rintro ps hl ⟨a0, a1, a3, a4, a5, a6, a7, a8, a9, a10, a11, a12, key, line, pred, ref, cur, w, r, v0, p0, k0, s0, v1, p1, k1, s1, rfl, hn, hc1, hc2⟩ he
  simp only [List.getElem?_cons_zero, find21, find21Obj, Option.some.injEq, EV.u.injEq, U.find.injEq] at he
  subst he
  simp only [List.cons_append, List.nil_append])
 rotate_left
 (rintro ps hl ⟨a0, a1, a3, a4, a5, a6, a7, a8, a9, a10, a11, a12, key, line, pred, ref, cur, w, r, v0, p0, k0, s0, v1, p1, k1, s1, v2, p2, k2, s2, rfl, hn, hc1, hc2⟩ he
  simp only [List.getElem?_cons_zero, find30, find30Obj, Option.some.injEq, EV.u.injEq, U.find.injEq] at he
  subst he
  simp only [List.cons_append, List.nil_append])
 rotate_left
 (rintro ps hl ⟨a0, a1, a3, a4, a5, a6, a7, a8, a9, a10, a11, a12, key, line, pred, ref, cur, w, r, v0, p0, k0, s0, v1, p1, k1, s1, v2, p2, k2, s2, rfl, hn, hc1, hc2⟩ he
  simp only [List.getElem?_cons_zero, find31, find31Obj, Option.some.injEq, EV.u.injEq, U.find.injEq] at he
  subst he
  simp only [List.cons_append, List.nil_append])
 rotate_left
 (rintro ps hl ⟨a0, a1, a3, a4, a5, a6, a7, a8, a9, a10, a11, a12, key, line, pred, ref, cur, w, r, v0, p0, k0, s0, v1, p1, k1, s1, v2, p2, k2, s2, rfl, hn, hc1, hc2⟩ he
  simp only [List.getElem?_cons_zero, find32, find32Obj, Option.some.injEq, EV.u.injEq, U.find.injEq] at he
  subst he
  simp only [List.cons_append, List.nil_append])
 rotate_left
 (rintro ps hl ⟨a0, a1, a3, a4, a5, a6, a7, a8, a9, a10, a11, a12, key, line, pred, ref, cur, w, r, v0, p0, k0, s0, v1, p1, k1, s1, v2, p2, k2, s2, v3, p3, k3, s3, rfl, hn, hc1, hc2⟩ he
  simp only [List.getElem?_cons_zero, find40, find40Obj, Option.some.injEq, EV.u.injEq, U.find.injEq] at he
  subst he
  simp only [List.cons_append, List.nil_append])
 rotate_left
 (rintro ps hl ⟨a0, a1, a3, a4, a5, a6, a7, a8, a9, a10, a11, a12, key, line, pred, ref, cur, w, r, v0, p0, k0, s0, v1, p1, k1, s1, v2, p2, k2, s2, v3, p3, k3, s3, rfl, hn, hc1, hc2⟩ he
  simp only [List.getElem?_cons_zero, find41, find41Obj, Option.some.injEq, EV.u.injEq, U.find.injEq] at he
  subst he
  simp only [List.cons_append, List.nil_append])
 rotate_left
 (rintro ps hl ⟨a0, a1, a3, a4, a5, a6, a7, a8, a9, a10, a11, a12, key, line, pred, ref, cur, w, r, v0, p0, k0, s0, v1, p1, k1, s1, v2, p2, k2, s2, v3, p3, k3, s3, rfl, hn, hc1, hc2⟩ he
  simp only [List.getElem?_cons_zero, find42, find42Obj, Option.some.injEq, EV.u.injEq, U.find.injEq] at he
  subst he
  simp only [List.cons_append, List.nil_append])
 rotate_left
 (rintro ps hl ⟨a0, a1, a3, a4, a5, a6, a7, a8, a9, a10, a11, a12, key, line, pred, ref, cur, w, r, v0, p0, k0, s0, v1, p1, k1, s1, v2, p2, k2, s2, v3, p3, k3, s3, rfl, hn, hc1, hc2⟩ he
  simp only [List.getElem?_cons_zero, find43, find43Obj, Option.some.injEq, EV.u.injEq, U.find.injEq] at he
  subst he
  simp only [List.cons_append, List.nil_append])
 rotate_left
 all_goals
  repeat' (first
   | (first
     | (with_reducible refine st_need ?_ ?_
        focus (simp only [dn, reduceCtorEq, hn, va_map] <;> first | omega | assumption))
     | (with_reducible refine st_and ?_ ?_)
     | (with_reducible exact st_ok)
     | (with_reducible refine st_br (fun hc => ?_) (fun hc => ?_) <;> (simp only [dn, reduceCtorEq, hn, va_map] at hc) <;> (try (exfalso; first | contradiction | omega)))
     | (refine st_call (by rfl) (by simp only [dn, reduceCtorEq, hn, va_map] <;> rfl) ?_ (by rfl <;> rfl) (by simp only [dn] <;> rfl) ?_
        focus (first | rfl)))
   | (refine st_mk (by rfl) (by simp only [dn, reduceCtorEq, va_map] <;> rfl) ?_ (by simp only [dn] <;> rfl) ?_
      focus first | exact ⟨_, _, _, _, _, _, _, _, _, _, _, _, _, _, _, _, _, _, _, _, _, _, _, rfl, hn, hc1, hc2⟩ | exact ⟨_, _, _, _, _, _, _, _, _, _, _, _, _, _, _, _, _, _, _, _, _, _, _, _, _, _, _, rfl, hn, hc1, hc2⟩ | exact ⟨_, _, _, _, _, _, _, _, _, _, _, _, _, _, _, _, _, _, _, _, _, _, _, _, _, _, _, _, _, _, _, rfl, hn, hc1, hc2⟩ | exact ⟨_, _, _, _, _, _, _, _, _, _, _, _, _, _, _, _, _, _, _, _, _, _, _, _, _, _, _, _, _, _, _, _, _, _, _, rfl, hn, hc1, hc2⟩)
   | (refine st_ret (by simp only [dn, reduceCtorEq, va_map] <;> rfl) ?_
      first
       | exact err_yes (by assumption)
       | exact err_no (by assumption)
       | rfl)
   | fail "no step")
theorem hFErr : cFErr.Holds objs Try.prog := runCtr_holds (X := { cxQi Try.prog with hints := hsFErr }) objsOk mixed noCts (callable _ Try.func33 (by kernel_rfl) (by kernel_rfl)) (by rintro ins _ ⟨_, rfl⟩; rfl) (by rw [rFErr]; exact vFErr _ _)
theorem rowF_e (g : FindSt → List Int) (c : List Int) (F : FindSt) : rowF g c [.u (.find F)] = [.u (.find F), .l (F.told (g F) ++ c), .i (F.told (g F)).length, .i (((F.told (g F)).length + c.length : Nat) : Int)] := rfl
theorem out_sI (L c c' : List Int) (a b : Int) : cSameInts.out [.l (L ++ c), .l (L ++ c'), .i L.length, .i a, .i L.length, .i b] = [.b true] := by
 show [EV.b (decide ((L ++ c).take (L.length : Int).toNat = (L ++ c').take (L.length : Int).toNat))] = _
 rw [Int.toNat_natCast, List.take_left' rfl, List.take_left' rfl, decide_eq_true rfl]
theorem out_fby (F : FindSt) : cFBy.out [.u (.find F)] = [.u (.find F), .i F.r] := rfl
theorem out_ferr (F : FindSt) : cFErr.out [.u (.find F)] = [.u (.find F), .i (errF F)] := rfl
theorem hFNew : cFNew.Holds objs Try.prog := by
 refine ⟨hFNew1.1, ?_, ?_⟩
 · rintro ins outs _ ⟨_, _, _, _, _, _, _, _, _, _, _, _, _, _, rfl, _⟩ h3
   have h3' : outs = _ := h3
   rw [h3']; rfl
 · rintro ins ρ w vals F hl ⟨a0, a1, a2, a3, a4, a5, a6, a7, a8, a9, a10, a11, a12, key, rfl, ht⟩ ha hs
   obtain ⟨h1, h2, _⟩ := okT_facts ht
   have hh : a2 = 1 ∨ a2 = 2 ∨ a2 = 3 ∨ a2 = 4 := by omega
   rcases hh with rfl | rfl | rfl | rfl
   · exact hFNew1.2.2 _ ρ w vals F hl ⟨_, _, _, _, _, _, _, _, _, _, _, _, _, _, rfl, rfl, ht⟩ ha hs
   · exact hFNew2.2.2 _ ρ w vals F hl ⟨_, _, _, _, _, _, _, _, _, _, _, _, _, _, rfl, rfl, ht⟩ ha hs
   · exact hFNew3.2.2 _ ρ w vals F hl ⟨_, _, _, _, _, _, _, _, _, _, _, _, _, _, rfl, rfl, ht⟩ ha hs
   · exact hFNew4.2.2 _ ρ w vals F hl ⟨_, _, _, _, _, _, _, _, _, _, _, _, _, _, rfl, rfl, ht⟩ ha hs
end Go.Proofs.Ytbmbiiiacajolaa
