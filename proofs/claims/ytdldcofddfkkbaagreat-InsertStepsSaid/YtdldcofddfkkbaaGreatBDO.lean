/- Texts of this proof. -/
import Derived.Test.YtdldcofddfkkbaaGreatB8O
namespace Go.Proofs.YtdldcofddfkkbaaGreat
set_option linter.unusedVariables false
set_option linter.unusedSimpArgs false
set_option linter.unusedSectionVars false
open Go Go.RowKit
theorem vCopyI (P : Program) (hs : List (Nat × Nat × List Nat)) : ∀ ins, ins.length = cCopyI.nin → cCopyI.pre ins → tCopyI.sat { cxQi P with hints := hs } (ctrR cCopyI) ins := by
 rintro ins _ ⟨xs, a, c, rfl, h0, h1, h2⟩
 unfold tCopyI
 refine st_need (by simp only [dn, reduceCtorEq, h0] <;> omega) (st_need (by simp only [dn, reduceCtorEq, h0] <;> omega) (st_need (by simp only [dn, reduceCtorEq, h0] <;> omega) (st_br (fun hc => ?_) (fun hc => ?_))))
 · simp only [dn, reduceCtorEq, h0] at hc
   subst hc
   exact st_lst rfl (st_ret rfl ⟨[], rfl⟩)
 · intro c
   refine st_ret rfl ⟨List.replicate c 0, ?_⟩
   show [EV.l (xs.take a.toNat ++ List.replicate c 0), EV.i a, EV.i ((a.toNat + c : Nat) : Int)] = _
   show _ = [EV.l (xs.take a.toNat ++ List.replicate c 0), EV.i a, EV.i ((a.toNat + (List.replicate c (0 : Int)).length : Nat) : Int)]
   rw [List.length_replicate]
theorem hCopyI : cCopyI.Holds objs Tryz.prog := runCtr_holdsm (X := { cxQi Tryz.prog with hints := hsCopyI }) objsOk mixed noCts (callable _ Tryz.func232 (by kernel_rfl) (by kernel_rfl)) (by rintro ins outs _ ⟨_, _, _, rfl, _⟩ ⟨c, rfl⟩; rfl) (by rw [rCopyI]; exact vCopyI _ _)
theorem vCopyW (P : Program) (hs : List (Nat × Nat × List Nat)) : ∀ ins, ins.length = cCopyW.nin → cCopyW.pre ins → tCopyW.sat { cxQi P with hints := hs } (ctrR cCopyW) ins := by
 rintro ins _ ⟨xs, a, c, rfl, h0, h1, h2⟩
 unfold tCopyW
 refine st_need (by simp only [dn, reduceCtorEq, h0] <;> omega) (st_need (by simp only [dn, reduceCtorEq, h0] <;> omega) (st_need (by simp only [dn, reduceCtorEq, h0] <;> omega) (st_br (fun hc => ?_) (fun hc => ?_))))
 · simp only [dn, reduceCtorEq, h0] at hc
   subst hc
   exact st_lst rfl (st_ret rfl ⟨[], rfl⟩)
 · intro c
   refine st_ret rfl ⟨List.replicate c 0, ?_⟩
   show [EV.l (xs.take a.toNat ++ List.replicate c 0), EV.i a, EV.i ((a.toNat + c : Nat) : Int)] = _
   show _ = [EV.l (xs.take a.toNat ++ List.replicate c 0), EV.i a, EV.i ((a.toNat + (List.replicate c (0 : Int)).length : Nat) : Int)]
   rw [List.length_replicate]
theorem hCopyW : cCopyW.Holds objs Tryz.prog := runCtr_holdsm (X := { cxQi Tryz.prog with hints := hsCopyW }) objsOk mixed noCts (callable _ Tryz.func103 (by kernel_rfl) (by kernel_rfl)) (by rintro ins outs _ ⟨_, _, _, rfl, _⟩ ⟨c, rfl⟩; rfl) (by rw [rCopyW]; exact vCopyW _ _)
section
variable {k : Tree} {env : List (EV U)} {X : Cx U} {R : List (EV U) → List (EV U) → Prop}
theorem st_rowN {x : Ex} {y : Int} (hx : x.den env = y) (hk : ∀ (W r : List Int) (m : Int) (env' : List (EV U)), W = [y] ++ r → m = ((1 + r.length : Nat) : Int) → m = 1 + r.length → (W.length : Int) = 1 + r.length → env ++ [.l W, .i m] = env' → k.sat X R env') : (Tree.app none (.lit 0) x k).sat X R env := by
 intro r
 subst hx
 exact hk _ r _ _ rfl rfl rfl (by simp only [List.length_append, List.length_cons, List.length_take, List.length_nil]; omega) rfl
theorem st_rowS {i : Nat} {n : Int} {x : Ex} {W0 V vc : List Int} {y : Int} (hl : gL env i = W0) (hW : W0 = V ++ vc) (hn : n = (V.length : Int)) (hx : x.den env = y)
 (hk : ∀ (W r : List Int) (m : Int) (env' : List (EV U)), W = (V ++ [y]) ++ r → m = (((V ++ [y]).length + r.length : Nat) : Int) → m = n + 1 + r.length → (W.length : Int) = n + 1 + r.length → env ++ [.l W, .i m] = env' → k.sat X R env') : (Tree.app (some i) (.lit n) x k).sat X R env := by
 intro r
 have e : (Ex.lit n).den env = (V.length : Int) := hn
 refine hk _ r _ _ ?_ ?_ ?_ ?_ rfl
 · simp only
   subst hx hl
   rw [hW, e, Int.toNat_natCast, List.take_left' rfl, List.append_assoc]
   rfl
 · rw [e, Int.toNat_natCast, List.length_append]
   rfl
 · rw [e, Int.toNat_natCast, hn]
   omega
 · subst hl
   simp only
   rw [hW, e, Int.toNat_natCast, List.take_left' rfl, hn]
   simp only [List.length_append, List.length_cons]
   omega
end
theorem row_no {g : FindSt → List Int} {F : FindSt} (h : ¬ F.line = 9) : [EV.u (.find F), .l [], .i 0, .i 0] = rowF g [] [.u (.find F)] := by
 show _ = rowOut _ (F.told (g F)) []
 rw [FindSt.told, if_neg h]; rfl
theorem rowQ_no {g : FindSt → List Int} {F : FindSt} (h : ¬ F.line = 9) : [EV.u (.rfind F), .l [], .i 0, .i 0] = rowQ g [] [.u (.rfind F)] := by
 show _ = rowOut _ (F.told (g F)) []
 rw [FindSt.told, if_neg h]; rfl
set_option maxRecDepth 10000 in
set_option maxHeartbeats 8000000 in
theorem vFPreds (P : Program) (hs : List (Nat × Nat × List Nat)) : ∀ ins, ins.length = cFPreds.nin → cFPreds.pre ins → tFPreds.sat { cxQi P with hints := hs } (ctrR cFPreds) ins := by
 rintro ins _ ⟨F, rfl⟩
 unfold tFPreds
 refine st_and (st_opn (T := find10) (by rfl) ?_) (st_and (st_opn (T := find20) (by rfl) ?_) (st_and (st_opn (T := find21) (by rfl) ?_) (st_and (st_opn (T := find30) (by rfl) ?_) (st_and (st_opn (T := find31) (by rfl) ?_) (st_and (st_opn (T := find32) (by rfl) ?_) (st_and (st_opn (T := find40) (by rfl) ?_) (st_and (st_opn (T := find41) (by rfl) ?_) (st_and (st_opn (T := find42) (by rfl) ?_) (st_and (st_opn (T := find43) (by rfl) ?_) (nomore_find))))))))))
 (rintro ps hl ⟨a0, a1, a3, a4, a5, a6, a7, a8, a9, a10, a11, a12, key, line, pred, ref, cur, w, r, v0, p0, k0, s0, rfl, hn, hc1, hc2⟩ he
  simp only [List.getElem?_cons_zero, find10, find10Obj, Option.some.injEq, EV.u.injEq, U.find.injEq] at he
  subst he
  simp only [List.cons_append, List.nil_append])
 rotate_left
 (rintro ps hl ⟨a0, a1, a3, a4, a5, a6, a7, a8, a9, a10, a11, a12, key, line, pred, ref, cur, w, r, v0, p0, k0, s0, v1, p1, k1, s1, rfl, hn, hc1, hc2⟩ he
  simp only [List.getElem?_cons_zero, find20, find20Obj, Option.some.injEq, EV.u.injEq, U.find.injEq] at he
  subst he
  simp only [List.cons_append, List.nil_append])
 rotate_left
 (rintro ps hl ⟨a0, a1, a3, a4, a5, a6, a7, a8, a9, a10, a11, a12, key, line, pred, ref, cur, w, r, v0, p0, k0, s0, v1, p1, k1, s1, rfl, hn, hc1, hc2⟩ he
  simp only [List.getElem?_cons_zero, find21, find21Obj, Option.some.injEq, EV.u.injEq, U.find.injEq] at he
  subst he
  simp only [List.cons_append, List.nil_append])
 rotate_left
 (rintro ps hl ⟨a0, a1, a3, a4, a5, a6, a7, a8, a9, a10, a11, a12, key, line, pred, ref, cur, w, r, v0, p0, k0, s0, v1, p1, k1, s1, v2, p2, k2, s2, rfl, hn, hc1, hc2⟩ he
  simp only [List.getElem?_cons_zero, find30, find30Obj, Option.some.injEq, EV.u.injEq, U.find.injEq] at he
  subst he
  simp only [List.cons_append, List.nil_append])
 rotate_left
 (rintro ps hl ⟨a0, a1, a3, a4, a5, a6, a7, a8, a9, a10, a11, a12, key, line, pred, ref, cur, w, r, v0, p0, k0, s0, v1, p1, k1, s1, v2, p2, k2, s2, rfl, hn, hc1, hc2⟩ he
  simp only [List.getElem?_cons_zero, find31, find31Obj, Option.some.injEq, EV.u.injEq, U.find.injEq] at he
  subst he
  simp only [List.cons_append, List.nil_append])
 rotate_left
 (rintro ps hl ⟨a0, a1, a3, a4, a5, a6, a7, a8, a9, a10, a11, a12, key, line, pred, ref, cur, w, r, v0, p0, k0, s0, v1, p1, k1, s1, v2, p2, k2, s2, rfl, hn, hc1, hc2⟩ he
  simp only [List.getElem?_cons_zero, find32, find32Obj, Option.some.injEq, EV.u.injEq, U.find.injEq] at he
  subst he
  simp only [List.cons_append, List.nil_append])
 rotate_left
 (rintro ps hl ⟨a0, a1, a3, a4, a5, a6, a7, a8, a9, a10, a11, a12, key, line, pred, ref, cur, w, r, v0, p0, k0, s0, v1, p1, k1, s1, v2, p2, k2, s2, v3, p3, k3, s3, rfl, hn, hc1, hc2⟩ he
  simp only [List.getElem?_cons_zero, find40, find40Obj, Option.some.injEq, EV.u.injEq, U.find.injEq] at he
  subst he
  simp only [List.cons_append, List.nil_append])
 rotate_left
 (rintro ps hl ⟨a0, a1, a3, a4, a5, a6, a7, a8, a9, a10, a11, a12, key, line, pred, ref, cur, w, r, v0, p0, k0, s0, v1, p1, k1, s1, v2, p2, k2, s2, v3, p3, k3, s3, rfl, hn, hc1, hc2⟩ he
  simp only [List.getElem?_cons_zero, find41, find41Obj, Option.some.injEq, EV.u.injEq, U.find.injEq] at he
  subst he
  simp only [List.cons_append, List.nil_append])
 rotate_left
 (rintro ps hl ⟨a0, a1, a3, a4, a5, a6, a7, a8, a9, a10, a11, a12, key, line, pred, ref, cur, w, r, v0, p0, k0, s0, v1, p1, k1, s1, v2, p2, k2, s2, v3, p3, k3, s3, rfl, hn, hc1, hc2⟩ he
  simp only [List.getElem?_cons_zero, find42, find42Obj, Option.some.injEq, EV.u.injEq, U.find.injEq] at he
  subst he
  simp only [List.cons_append, List.nil_append])
 rotate_left
 (rintro ps hl ⟨a0, a1, a3, a4, a5, a6, a7, a8, a9, a10, a11, a12, key, line, pred, ref, cur, w, r, v0, p0, k0, s0, v1, p1, k1, s1, v2, p2, k2, s2, v3, p3, k3, s3, rfl, hn, hc1, hc2⟩ he
  simp only [List.getElem?_cons_zero, find43, find43Obj, Option.some.injEq, EV.u.injEq, U.find.injEq] at he
  subst he
  simp only [List.cons_append, List.nil_append])
 rotate_left
 all_goals
  repeat' (first
   | (first
     | (with_reducible refine st_need ?_ ?_
        focus (simp only [dn, reduceCtorEq, hn, va_map] <;> first | omega | assumption))
     | (with_reducible refine st_and ?_ ?_)
     | (with_reducible exact st_ok)
     | (with_reducible refine st_br (fun hc => ?_) (fun hc => ?_) <;> (simp only [dn, reduceCtorEq, hn, va_map] at hc) <;> (try (exfalso; first | contradiction | omega)))
     | (refine st_call (by rfl) (by simp only [dn, reduceCtorEq, hn, va_map] <;> rfl) ?_ (by rfl <;> rfl) (by simp only [dn] <;> rfl) ?_
        focus (first | rfl)))
   | (refine st_rowN (by simp only [dn, reduceCtorEq, hn] <;> rfl) (fun W r m env' hW hm hmi hlW he => ?_)
      simp only [List.cons_append, List.nil_append] at he
      subst he)
   | (refine st_rowS (by simp only [dn, reduceCtorEq, hn] <;> rfl) (by assumption) (by rfl) (by simp only [dn, reduceCtorEq, hn] <;> rfl) (fun W r m env' hW hm hmi hlW he => ?_)
      simp only [List.cons_append, List.nil_append] at he
      subst he)
   | (refine st_lst (by simp only [dn] <;> rfl) ?_)
   | (refine st_mk (by rfl) (by simp only [dn, reduceCtorEq, va_map] <;> rfl) ?_ (by simp only [dn] <;> rfl) ?_
      focus first | exact ⟨_, _, _, _, _, _, _, _, _, _, _, _, _, _, _, _, _, _, _, _, _, _, _, rfl, hn, hc1, hc2⟩ | exact ⟨_, _, _, _, _, _, _, _, _, _, _, _, _, _, _, _, _, _, _, _, _, _, _, _, _, _, _, rfl, hn, hc1, hc2⟩ | exact ⟨_, _, _, _, _, _, _, _, _, _, _, _, _, _, _, _, _, _, _, _, _, _, _, _, _, _, _, _, _, _, _, rfl, hn, hc1, hc2⟩ | exact ⟨_, _, _, _, _, _, _, _, _, _, _, _, _, _, _, _, _, _, _, _, _, _, _, _, _, _, _, _, _, _, _, _, _, _, _, rfl, hn, hc1, hc2⟩)
   | (refine st_ret (by simp only [dn, reduceCtorEq, va_map] <;> rfl) ?_
      first
       | exact ⟨[], row_no (by assumption)⟩
       | (subst_vars; exact ⟨_, rfl⟩))
   | fail "no step")
theorem hFPreds : cFPreds.Holds objs Tryz.prog := runCtr_holdsm (X := { cxQi Tryz.prog with hints := hsFPreds }) objsOk mixed noCts (callable _ Tryz.func308 (by kernel_rfl) (by kernel_rfl)) (by rintro ins outs _ ⟨F, rfl⟩ ⟨c, rfl⟩; rfl) (by rw [rFPreds]; exact vFPreds _ _)
set_option maxRecDepth 10000 in
set_option maxHeartbeats 8000000 in
theorem vFSuccs (P : Program) (hs : List (Nat × Nat × List Nat)) : ∀ ins, ins.length = cFSuccs.nin → cFSuccs.pre ins → tFSuccs.sat { cxQi P with hints := hs } (ctrR cFSuccs) ins := by
 rintro ins _ ⟨F, rfl⟩
 unfold tFSuccs
 refine st_and (st_opn (T := find10) (by rfl) ?_) (st_and (st_opn (T := find20) (by rfl) ?_) (st_and (st_opn (T := find21) (by rfl) ?_) (st_and (st_opn (T := find30) (by rfl) ?_) (st_and (st_opn (T := find31) (by rfl) ?_) (st_and (st_opn (T := find32) (by rfl) ?_) (st_and (st_opn (T := find40) (by rfl) ?_) (st_and (st_opn (T := find41) (by rfl) ?_) (st_and (st_opn (T := find42) (by rfl) ?_) (st_and (st_opn (T := find43) (by rfl) ?_) (nomore_find))))))))))
 (rintro ps hl ⟨a0, a1, a3, a4, a5, a6, a7, a8, a9, a10, a11, a12, key, line, pred, ref, cur, w, r, v0, p0, k0, s0, rfl, hn, hc1, hc2⟩ he
  simp only [List.getElem?_cons_zero, find10, find10Obj, Option.some.injEq, EV.u.injEq, U.find.injEq] at he
  subst he
  simp only [List.cons_append, List.nil_append])
 rotate_left
 (rintro ps hl ⟨a0, a1, a3, a4, a5, a6, a7, a8, a9, a10, a11, a12, key, line, pred, ref, cur, w, r, v0, p0, k0, s0, v1, p1, k1, s1, rfl, hn, hc1, hc2⟩ he
  simp only [List.getElem?_cons_zero, find20, find20Obj, Option.some.injEq, EV.u.injEq, U.find.injEq] at he
  subst he
  simp only [List.cons_append, List.nil_append])
 rotate_left
 (rintro ps hl ⟨a0, a1, a3, a4, a5, a6, a7, a8, a9, a10, a11, a12, key, line, pred, ref, cur, w, r, v0, p0, k0, s0, v1, p1, k1, s1, rfl, hn, hc1, hc2⟩ he
  simp only [List.getElem?_cons_zero, find21, find21Obj, Option.some.injEq, EV.u.injEq, U.find.injEq] at he
  subst he
  simp only [List.cons_append, List.nil_append])
 rotate_left
 (rintro ps hl ⟨a0, a1, a3, a4, a5, a6, a7, a8, a9, a10, a11, a12, key, line, pred, ref, cur, w, r, v0, p0, k0, s0, v1, p1, k1, s1, v2, p2, k2, s2, rfl, hn, hc1, hc2⟩ he
  simp only [List.getElem?_cons_zero, find30, find30Obj, Option.some.injEq, EV.u.injEq, U.find.injEq] at he
  subst he
  simp only [List.cons_append, List.nil_append])
 rotate_left
 (rintro ps hl ⟨a0, a1, a3, a4, a5, a6, a7, a8, a9, a10, a11, a12, key, line, pred, ref, cur, w, r, v0, p0, k0, s0, v1, p1, k1, s1, v2, p2, k2, s2, rfl, hn, hc1, hc2⟩ he
  simp only [List.getElem?_cons_zero, find31, find31Obj, Option.some.injEq, EV.u.injEq, U.find.injEq] at he
  subst he
  simp only [List.cons_append, List.nil_append])
 rotate_left
 (rintro ps hl ⟨a0, a1, a3, a4, a5, a6, a7, a8, a9, a10, a11, a12, key, line, pred, ref, cur, w, r, v0, p0, k0, s0, v1, p1, k1, s1, v2, p2, k2, s2, rfl, hn, hc1, hc2⟩ he
  simp only [List.getElem?_cons_zero, find32, find32Obj, Option.some.injEq, EV.u.injEq, U.find.injEq] at he
  subst he
  simp only [List.cons_append, List.nil_append])
 rotate_left
 (rintro ps hl ⟨a0, a1, a3, a4, a5, a6, a7, a8, a9, a10, a11, a12, key, line, pred, ref, cur, w, r, v0, p0, k0, s0, v1, p1, k1, s1, v2, p2, k2, s2, v3, p3, k3, s3, rfl, hn, hc1, hc2⟩ he
  simp only [List.getElem?_cons_zero, find40, find40Obj, Option.some.injEq, EV.u.injEq, U.find.injEq] at he
  subst he
  simp only [List.cons_append, List.nil_append])
 rotate_left
 (rintro ps hl ⟨a0, a1, a3, a4, a5, a6, a7, a8, a9, a10, a11, a12, key, line, pred, ref, cur, w, r, v0, p0, k0, s0, v1, p1, k1, s1, v2, p2, k2, s2, v3, p3, k3, s3, rfl, hn, hc1, hc2⟩ he
  simp only [List.getElem?_cons_zero, find41, find41Obj, Option.some.injEq, EV.u.injEq, U.find.injEq] at he
  subst he
  simp only [List.cons_append, List.nil_append])
 rotate_left
 (rintro ps hl ⟨a0, a1, a3, a4, a5, a6, a7, a8, a9, a10, a11, a12, key, line, pred, ref, cur, w, r, v0, p0, k0, s0, v1, p1, k1, s1, v2, p2, k2, s2, v3, p3, k3, s3, rfl, hn, hc1, hc2⟩ he
  simp only [List.getElem?_cons_zero, find42, find42Obj, Option.some.injEq, EV.u.injEq, U.find.injEq] at he
  subst he
  simp only [List.cons_append, List.nil_append])
 rotate_left
 (rintro ps hl ⟨a0, a1, a3, a4, a5, a6, a7, a8, a9, a10, a11, a12, key, line, pred, ref, cur, w, r, v0, p0, k0, s0, v1, p1, k1, s1, v2, p2, k2, s2, v3, p3, k3, s3, rfl, hn, hc1, hc2⟩ he
  simp only [List.getElem?_cons_zero, find43, find43Obj, Option.some.injEq, EV.u.injEq, U.find.injEq] at he
  subst he
  simp only [List.cons_append, List.nil_append])
 rotate_left
 all_goals
  repeat' (first
   | (first
     | (with_reducible refine st_need ?_ ?_
        focus (simp only [dn, reduceCtorEq, hn, va_map] <;> first | omega | assumption))
     | (with_reducible refine st_and ?_ ?_)
     | (with_reducible exact st_ok)
     | (with_reducible refine st_br (fun hc => ?_) (fun hc => ?_) <;> (simp only [dn, reduceCtorEq, hn, va_map] at hc) <;> (try (exfalso; first | contradiction | omega)))
     | (refine st_call (by rfl) (by simp only [dn, reduceCtorEq, hn, va_map] <;> rfl) ?_ (by rfl <;> rfl) (by simp only [dn] <;> rfl) ?_
        focus (first | rfl)))
   | (refine st_rowN (by simp only [dn, reduceCtorEq, hn] <;> rfl) (fun W r m env' hW hm hmi hlW he => ?_)
      simp only [List.cons_append, List.nil_append] at he
      subst he)
   | (refine st_rowS (by simp only [dn, reduceCtorEq, hn] <;> rfl) (by assumption) (by rfl) (by simp only [dn, reduceCtorEq, hn] <;> rfl) (fun W r m env' hW hm hmi hlW he => ?_)
      simp only [List.cons_append, List.nil_append] at he
      subst he)
   | (refine st_lst (by simp only [dn] <;> rfl) ?_)
   | (refine st_mk (by rfl) (by simp only [dn, reduceCtorEq, va_map] <;> rfl) ?_ (by simp only [dn] <;> rfl) ?_
      focus first | exact ⟨_, _, _, _, _, _, _, _, _, _, _, _, _, _, _, _, _, _, _, _, _, _, _, rfl, hn, hc1, hc2⟩ | exact ⟨_, _, _, _, _, _, _, _, _, _, _, _, _, _, _, _, _, _, _, _, _, _, _, _, _, _, _, rfl, hn, hc1, hc2⟩ | exact ⟨_, _, _, _, _, _, _, _, _, _, _, _, _, _, _, _, _, _, _, _, _, _, _, _, _, _, _, _, _, _, _, rfl, hn, hc1, hc2⟩ | exact ⟨_, _, _, _, _, _, _, _, _, _, _, _, _, _, _, _, _, _, _, _, _, _, _, _, _, _, _, _, _, _, _, _, _, _, _, rfl, hn, hc1, hc2⟩)
   | (refine st_ret (by simp only [dn, reduceCtorEq, va_map] <;> rfl) ?_
      first
       | exact ⟨[], row_no (by assumption)⟩
       | (subst_vars; exact ⟨_, rfl⟩))
   | fail "no step")
theorem hFSuccs : cFSuccs.Holds objs Tryz.prog := runCtr_holdsm (X := { cxQi Tryz.prog with hints := hsFSuccs }) objsOk mixed noCts (callable _ Tryz.func273 (by kernel_rfl) (by kernel_rfl)) (by rintro ins outs _ ⟨F, rfl⟩ ⟨c, rfl⟩; rfl) (by rw [rFSuccs]; exact vFSuccs _ _)
set_option maxRecDepth 10000 in
set_option maxHeartbeats 8000000 in
theorem vFKnown (P : Program) (hs : List (Nat × Nat × List Nat)) : ∀ ins, ins.length = cFKnown.nin → cFKnown.pre ins → tFKnown.sat { cxQi P with hints := hs } (ctrR cFKnown) ins := by
 rintro ins _ ⟨F, rfl⟩
 unfold tFKnown
 refine st_and (st_opn (T := find10) (by rfl) ?_) (st_and (st_opn (T := find20) (by rfl) ?_) (st_and (st_opn (T := find21) (by rfl) ?_) (st_and (st_opn (T := find30) (by rfl) ?_) (st_and (st_opn (T := find31) (by rfl) ?_) (st_and (st_opn (T := find32) (by rfl) ?_) (st_and (st_opn (T := find40) (by rfl) ?_) (st_and (st_opn (T := find41) (by rfl) ?_) (st_and (st_opn (T := find42) (by rfl) ?_) (st_and (st_opn (T := find43) (by rfl) ?_) (nomore_find))))))))))
 (rintro ps hl ⟨a0, a1, a3, a4, a5, a6, a7, a8, a9, a10, a11, a12, key, line, pred, ref, cur, w, r, v0, p0, k0, s0, rfl, hn, hc1, hc2⟩ he
  simp only [List.getElem?_cons_zero, find10, find10Obj, Option.some.injEq, EV.u.injEq, U.find.injEq] at he
  subst he
  simp only [List.cons_append, List.nil_append])
 rotate_left
 (rintro ps hl ⟨a0, a1, a3, a4, a5, a6, a7, a8, a9, a10, a11, a12, key, line, pred, ref, cur, w, r, v0, p0, k0, s0, v1, p1, k1, s1, rfl, hn, hc1, hc2⟩ he
  simp only [List.getElem?_cons_zero, find20, find20Obj, Option.some.injEq, EV.u.injEq, U.find.injEq] at he
  subst he
  simp only [List.cons_append, List.nil_append])
 rotate_left
 (rintro ps hl ⟨a0, a1, a3, a4, a5, a6, a7, a8, a9, a10, a11, a12, key, line, pred, ref, cur, w, r, v0, p0, k0, s0, v1, p1, k1, s1, rfl, hn, hc1, hc2⟩ he
  simp only [List.getElem?_cons_zero, find21, find21Obj, Option.some.injEq, EV.u.injEq, U.find.injEq] at he
  subst he
  simp only [List.cons_append, List.nil_append])
 rotate_left
 (rintro ps hl ⟨a0, a1, a3, a4, a5, a6, a7, a8, a9, a10, a11, a12, key, line, pred, ref, cur, w, r, v0, p0, k0, s0, v1, p1, k1, s1, v2, p2, k2, s2, rfl, hn, hc1, hc2⟩ he
  simp only [List.getElem?_cons_zero, find30, find30Obj, Option.some.injEq, EV.u.injEq, U.find.injEq] at he
  subst he
  simp only [List.cons_append, List.nil_append])
 rotate_left
 (rintro ps hl ⟨a0, a1, a3, a4, a5, a6, a7, a8, a9, a10, a11, a12, key, line, pred, ref, cur, w, r, v0, p0, k0, s0, v1, p1, k1, s1, v2, p2, k2, s2, rfl, hn, hc1, hc2⟩ he
  simp only [List.getElem?_cons_zero, find31, find31Obj, Option.some.injEq, EV.u.injEq, U.find.injEq] at he
  subst he
  simp only [List.cons_append, List.nil_append])
 rotate_left
 (rintro ps hl ⟨a0, a1, a3, a4, a5, a6, a7, a8, a9, a10, a11, a12, key, line, pred, ref, cur, w, r, v0, p0, k0, s0, v1, p1, k1, s1, v2, p2, k2, s2, rfl, hn, hc1, hc2⟩ he
  simp only [List.getElem?_cons_zero, find32, find32Obj, Option.some.injEq, EV.u.injEq, U.find.injEq] at he
  subst he
  simp only [List.cons_append, List.nil_append])
 rotate_left
 (rintro ps hl ⟨a0, a1, a3, a4, a5, a6, a7, a8, a9, a10, a11, a12, key, line, pred, ref, cur, w, r, v0, p0, k0, s0, v1, p1, k1, s1, v2, p2, k2, s2, v3, p3, k3, s3, rfl, hn, hc1, hc2⟩ he
  simp only [List.getElem?_cons_zero, find40, find40Obj, Option.some.injEq, EV.u.injEq, U.find.injEq] at he
  subst he
  simp only [List.cons_append, List.nil_append])
 rotate_left
 (rintro ps hl ⟨a0, a1, a3, a4, a5, a6, a7, a8, a9, a10, a11, a12, key, line, pred, ref, cur, w, r, v0, p0, k0, s0, v1, p1, k1, s1, v2, p2, k2, s2, v3, p3, k3, s3, rfl, hn, hc1, hc2⟩ he
  simp only [List.getElem?_cons_zero, find41, find41Obj, Option.some.injEq, EV.u.injEq, U.find.injEq] at he
  subst he
  simp only [List.cons_append, List.nil_append])
 rotate_left
 (rintro ps hl ⟨a0, a1, a3, a4, a5, a6, a7, a8, a9, a10, a11, a12, key, line, pred, ref, cur, w, r, v0, p0, k0, s0, v1, p1, k1, s1, v2, p2, k2, s2, v3, p3, k3, s3, rfl, hn, hc1, hc2⟩ he
  simp only [List.getElem?_cons_zero, find42, find42Obj, Option.some.injEq, EV.u.injEq, U.find.injEq] at he
  subst he
  simp only [List.cons_append, List.nil_append])
 rotate_left
 (rintro ps hl ⟨a0, a1, a3, a4, a5, a6, a7, a8, a9, a10, a11, a12, key, line, pred, ref, cur, w, r, v0, p0, k0, s0, v1, p1, k1, s1, v2, p2, k2, s2, v3, p3, k3, s3, rfl, hn, hc1, hc2⟩ he
  simp only [List.getElem?_cons_zero, find43, find43Obj, Option.some.injEq, EV.u.injEq, U.find.injEq] at he
  subst he
  simp only [List.cons_append, List.nil_append])
 rotate_left
 all_goals
  repeat' (first
   | (first
     | (with_reducible refine st_need ?_ ?_
        focus (simp only [dn, reduceCtorEq, hn, va_map] <;> first | omega | assumption))
     | (with_reducible refine st_and ?_ ?_)
     | (with_reducible exact st_ok)
     | (with_reducible refine st_br (fun hc => ?_) (fun hc => ?_) <;> (simp only [dn, reduceCtorEq, hn, va_map] at hc) <;> (try (exfalso; first | contradiction | omega)))
     | (refine st_call (by rfl) (by simp only [dn, reduceCtorEq, hn, va_map] <;> rfl) ?_ (by rfl <;> rfl) (by simp only [dn] <;> rfl) ?_
        focus (first | rfl)))
   | (refine st_rowN (by simp only [dn, reduceCtorEq, hn] <;> rfl) (fun W r m env' hW hm hmi hlW he => ?_)
      simp only [List.cons_append, List.nil_append] at he
      subst he)
   | (refine st_rowS (by simp only [dn, reduceCtorEq, hn] <;> rfl) (by assumption) (by rfl) (by simp only [dn, reduceCtorEq, hn] <;> rfl) (fun W r m env' hW hm hmi hlW he => ?_)
      simp only [List.cons_append, List.nil_append] at he
      subst he)
   | (refine st_lst (by simp only [dn] <;> rfl) ?_)
   | (refine st_mk (by rfl) (by simp only [dn, reduceCtorEq, va_map] <;> rfl) ?_ (by simp only [dn] <;> rfl) ?_
      focus first | exact ⟨_, _, _, _, _, _, _, _, _, _, _, _, _, _, _, _, _, _, _, _, _, _, _, rfl, hn, hc1, hc2⟩ | exact ⟨_, _, _, _, _, _, _, _, _, _, _, _, _, _, _, _, _, _, _, _, _, _, _, _, _, _, _, rfl, hn, hc1, hc2⟩ | exact ⟨_, _, _, _, _, _, _, _, _, _, _, _, _, _, _, _, _, _, _, _, _, _, _, _, _, _, _, _, _, _, _, rfl, hn, hc1, hc2⟩ | exact ⟨_, _, _, _, _, _, _, _, _, _, _, _, _, _, _, _, _, _, _, _, _, _, _, _, _, _, _, _, _, _, _, _, _, _, _, rfl, hn, hc1, hc2⟩)
   | (refine st_ret (by simp only [dn, reduceCtorEq, va_map] <;> rfl) ?_
      first
       | exact ⟨[], row_no (by assumption)⟩
       | (subst_vars; exact ⟨_, rfl⟩))
   | fail "no step")
theorem hFKnown : cFKnown.Holds objs Tryz.prog := runCtr_holdsm (X := { cxQi Tryz.prog with hints := hsFKnown }) objsOk mixed noCts (callable _ Tryz.func307 (by kernel_rfl) (by kernel_rfl)) (by rintro ins outs _ ⟨F, rfl⟩ ⟨c, rfl⟩; rfl) (by rw [rFKnown]; exact vFKnown _ _)
theorem err_yes {F : FindSt} (h : F.line = 9) : [EV.u (U.find F), .i 0] = cFErr.out [.u (U.find F)] := by show _ = [EV.u (U.find F), .i (errF F)]; rw [errF, if_pos h]
theorem err_no {F : FindSt} (h : ¬ F.line = 9) : [EV.u (U.find F), .i 14] = cFErr.out [.u (U.find F)] := by show _ = [EV.u (U.find F), .i (errF F)]; rw [errF, if_neg h]
set_option maxRecDepth 10000 in
set_option maxHeartbeats 8000000 in
theorem vFBy (P : Program) (hs : List (Nat × Nat × List Nat)) : ∀ ins, ins.length = cFBy.nin → cFBy.pre ins → tFBy.sat { cxQi P with hints := hs } (ctrR cFBy) ins := by
 rintro ins _ ⟨F, rfl⟩
 unfold tFBy
 refine st_and (st_opn (T := find10) (by rfl) ?_) (st_and (st_opn (T := find20) (by rfl) ?_) (st_and (st_opn (T := find21) (by rfl) ?_) (st_and (st_opn (T := find30) (by rfl) ?_) (st_and (st_opn (T := find31) (by rfl) ?_) (st_and (st_opn (T := find32) (by rfl) ?_) (st_and (st_opn (T := find40) (by rfl) ?_) (st_and (st_opn (T := find41) (by rfl) ?_) (st_and (st_opn (T := find42) (by rfl) ?_) (st_and (st_opn (T := find43) (by rfl) ?_) (nomore_find))))))))))
 (rintro ps hl ⟨a0, a1, a3, a4, a5, a6, a7, a8, a9, a10, a11, a12, key, line, pred, ref, cur, w, r, v0, p0, k0, s0, rfl, hn, hc1, hc2⟩ he
  simp only [List.getElem?_cons_zero, find10, find10Obj, Option.some.injEq, EV.u.injEq, U.find.injEq] at he
  subst he
  simp only [List.cons_append, List.nil_append])
 rotate_left
 (rintro ps hl ⟨a0, a1, a3, a4, a5, a6, a7, a8, a9, a10, a11, a12, key, line, pred, ref, cur, w, r, v0, p0, k0, s0, v1, p1, k1, s1, rfl, hn, hc1, hc2⟩ he
  simp only [List.getElem?_cons_zero, find20, find20Obj, Option.some.injEq, EV.u.injEq, U.find.injEq] at he
  subst he
  simp only [List.cons_append, List.nil_append])
 rotate_left
 (rintro ps hl ⟨a0, a1, a3, a4, a5, a6, a7, a8, a9, a10, a11, a12, key, line, pred, ref, cur, w, r, v0, p0, k0, s0, v1, p1, k1, s1, rfl, hn, hc1, hc2⟩ he
  simp only [List.getElem?_cons_zero, find21, find21Obj, Option.some.injEq, EV.u.injEq, U.find.injEq] at he
  subst he
  simp only [List.cons_append, List.nil_append])
 rotate_left
 (rintro ps hl ⟨a0, a1, a3, a4, a5, a6, a7, a8, a9, a10, a11, a12, key, line, pred, ref, cur, w, r, v0, p0, k0, s0, v1, p1, k1, s1, v2, p2, k2, s2, rfl, hn, hc1, hc2⟩ he
  simp only [List.getElem?_cons_zero, find30, find30Obj, Option.some.injEq, EV.u.injEq, U.find.injEq] at he
  subst he
  simp only [List.cons_append, List.nil_append])
 rotate_left
 (rintro ps hl ⟨a0, a1, a3, a4, a5, a6, a7, a8, a9, a10, a11, a12, key, line, pred, ref, cur, w, r, v0, p0, k0, s0, v1, p1, k1, s1, v2, p2, k2, s2, rfl, hn, hc1, hc2⟩ he
  simp only [List.getElem?_cons_zero, find31, find31Obj, Option.some.injEq, EV.u.injEq, U.find.injEq] at he
  subst he
  simp only [List.cons_append, List.nil_append])
 rotate_left
 (rintro ps hl ⟨a0, a1, a3, a4, a5, a6, a7, a8, a9, a10, a11, a12, key, line, pred, ref, cur, w, r, v0, p0, k0, s0, v1, p1, k1, s1, v2, p2, k2, s2, rfl, hn, hc1, hc2⟩ he
  simp only [List.getElem?_cons_zero, find32, find32Obj, Option.some.injEq, EV.u.injEq, U.find.injEq] at he
  subst he
  simp only [List.cons_append, List.nil_append])
 rotate_left
 (rintro ps hl ⟨a0, a1, a3, a4, a5, a6, a7, a8, a9, a10, a11, a12, key, line, pred, ref, cur, w, r, v0, p0, k0, s0, v1, p1, k1, s1, v2, p2, k2, s2, v3, p3, k3, s3, rfl, hn, hc1, hc2⟩ he
  simp only [List.getElem?_cons_zero, find40, find40Obj, Option.some.injEq, EV.u.injEq, U.find.injEq] at he
  subst he
  simp only [List.cons_append, List.nil_append])
 rotate_left
 (rintro ps hl ⟨a0, a1, a3, a4, a5, a6, a7, a8, a9, a10, a11, a12, key, line, pred, ref, cur, w, r, v0, p0, k0, s0, v1, p1, k1, s1, v2, p2, k2, s2, v3, p3, k3, s3, rfl, hn, hc1, hc2⟩ he
  simp only [List.getElem?_cons_zero, find41, find41Obj, Option.some.injEq, EV.u.injEq, U.find.injEq] at he
  subst he
  simp only [List.cons_append, List.nil_append])
 rotate_left
 (rintro ps hl ⟨a0, a1, a3, a4, a5, a6, a7, a8, a9, a10, a11, a12, key, line, pred, ref, cur, w, r, v0, p0, k0, s0, v1, p1, k1, s1, v2, p2, k2, s2, v3, p3, k3, s3, rfl, hn, hc1, hc2⟩ he
  simp only [List.getElem?_cons_zero, find42, find42Obj, Option.some.injEq, EV.u.injEq, U.find.injEq] at he
  subst he
  simp only [List.cons_append, List.nil_append])
 rotate_left
 (rintro ps hl ⟨a0, a1, a3, a4, a5, a6, a7, a8, a9, a10, a11, a12, key, line, pred, ref, cur, w, r, v0, p0, k0, s0, v1, p1, k1, s1, v2, p2, k2, s2, v3, p3, k3, s3, rfl, hn, hc1, hc2⟩ he
  simp only [List.getElem?_cons_zero, find43, find43Obj, Option.some.injEq, EV.u.injEq, U.find.injEq] at he
  subst he
  simp only [List.cons_append, List.nil_append])
 rotate_left
 all_goals
  repeat' (first
   | (first
     | (with_reducible refine st_need ?_ ?_
        focus (simp only [dn, reduceCtorEq, hn, va_map] <;> first | omega | assumption))
     | (with_reducible refine st_and ?_ ?_)
     | (with_reducible exact st_ok)
     | (with_reducible refine st_br (fun hc => ?_) (fun hc => ?_) <;> (simp only [dn, reduceCtorEq, hn, va_map] at hc) <;> (try (exfalso; first | contradiction | omega)))
     | (refine st_call (by rfl) (by simp only [dn, reduceCtorEq, hn, va_map] <;> rfl) ?_ (by rfl <;> rfl) (by simp only [dn] <;> rfl) ?_
        focus (first | rfl)))
   | (refine st_mk (by rfl) (by simp only [dn, reduceCtorEq, va_map] <;> rfl) ?_ (by simp only [dn] <;> rfl) ?_
      focus first | exact ⟨_, _, _, _, _, _, _, _, _, _, _, _, _, _, _, _, _, _, _, _, _, _, _, rfl, hn, hc1, hc2⟩ | exact ⟨_, _, _, _, _, _, _, _, _, _, _, _, _, _, _, _, _, _, _, _, _, _, _, _, _, _, _, rfl, hn, hc1, hc2⟩ | exact ⟨_, _, _, _, _, _, _, _, _, _, _, _, _, _, _, _, _, _, _, _, _, _, _, _, _, _, _, _, _, _, _, rfl, hn, hc1, hc2⟩ | exact ⟨_, _, _, _, _, _, _, _, _, _, _, _, _, _, _, _, _, _, _, _, _, _, _, _, _, _, _, _, _, _, _, _, _, _, _, rfl, hn, hc1, hc2⟩)
   | (refine st_ret (by simp only [dn, reduceCtorEq, va_map] <;> rfl) ?_
      first
       | exact err_yes (by assumption)
       | exact err_no (by assumption)
       | rfl)
   | fail "no step")
theorem hFBy : cFBy.Holds objs Tryz.prog := runCtr_holds (X := { cxQi Tryz.prog with hints := hsFBy }) objsOk mixed noCts (callable _ Tryz.func305 (by kernel_rfl) (by kernel_rfl)) (by rintro ins _ ⟨_, rfl⟩; rfl) (by rw [rFBy]; exact vFBy _ _)
theorem hctsQp : ∀ (ci : Nat) (c : Ctr U), ctsQp[ci]? = some c → c.Holds objs Tryz.prog := by
 intro ci c h
 match ci, h with
 | 0, h => cases h; exact hCopyI
 | 1, h => cases h; exact hCopyW
 | n + 2, h => cases h
theorem cpy_e (c xs : List Int) (a b : Int) : cpyMany c [.l xs, .i a, .i b] = [.l (xs.take a.toNat ++ c), .i a, .i ((a.toNat + c.length : Nat) : Int)] := rfl
theorem rowQ_yes {g : FindSt → List Int} {F : FindSt} {c L : List Int} {k : Nat} (h : F.line = 9) (hg : g F = L) (e : (L.length : Int) = (k : Int)) : [EV.u (U.rfind F), .l (L.take (k : Int).toNat ++ c), .i (k : Int), .i (((k : Int).toNat + c.length : Nat) : Int)] = rowQ g c [.u (U.rfind F)] := by
 show _ = rowOut _ (F.told (g F)) c
 have e' : L.length = k := by omega
 rw [FindSt.told, if_pos h, hg, Int.toNat_natCast, ← e', List.take_length]; rfl
set_option maxRecDepth 10000 in
set_option maxHeartbeats 4000000 in
theorem vQPreds (P : Program) (hs : List (Nat × Nat × List Nat)) : ∀ ins, ins.length = cQPreds.nin → cQPreds.pre ins → tQPreds.sat { cxQp P with hints := hs } (ctrR cQPreds) ins := by
 rintro ins _ ⟨F, rfl⟩
 unfold tQPreds
 refine st_and (st_opn (T := rfindT) (by rfl) ?_) nomore_rfind
 rintro ps hl ⟨a0, a1, a2, a3, a4, a5, a6, a7, a8, a9, a10, a11, a12, key, line, l, pred, ref, cur, w, r, P, S, K, rfl, hn, hc1, hc2, hw3, g1, g2, e1, e2, e3⟩ he
 simp only [List.getElem?_cons_zero, rfindT, rfindObj, Option.some.injEq, EV.u.injEq, U.rfind.injEq] at he
 subst he
 simp only [List.cons_append, List.nil_append]
 obtain ⟨k, hk⟩ : ∃ k : Nat, a2 = k := ⟨a2.toNat, by omega⟩
 subst hk
 repeat' (first
  | (first
    | (with_reducible refine st_need ?_ ?_
       focus (simp only [dn, reduceCtorEq, hn, va_map] <;> first | omega | assumption))
    | (with_reducible refine st_and ?_ ?_)
    | (with_reducible exact st_ok)
    | (with_reducible refine st_br (fun hc => ?_) (fun hc => ?_) <;> (simp only [dn, reduceCtorEq, hn, va_map] at hc) <;> (try (exfalso; first | contradiction | omega)))
    | (refine st_call (by rfl) (by simp only [dn, reduceCtorEq, hn, va_map] <;> rfl) ?_ (by rfl <;> rfl) (by simp only [dn] <;> rfl) ?_
       focus (first | rfl)))
  | (refine st_callm (by rfl) (by simp only [dn, reduceCtorEq, va_map] <;> rfl) ?_ (fun o env' hm he => ?_)
     focus exact ⟨_, _, _, rfl, by omega, by omega, by omega⟩
     obtain ⟨cc, rfl⟩ := hm
     simp only [cpy_e, List.cons_append, List.nil_append] at he
     subst he)
  | (refine st_lst (by simp only [dn] <;> rfl) ?_)
  | (refine st_mk (by rfl) (by simp only [dn, reduceCtorEq, va_map] <;> rfl) ?_ (by simp only [dn] <;> rfl) ?_
     focus exact ⟨_, _, _, _, _, _, _, _, _, _, _, _, _, _, _, _, _, _, _, _, _, _, _, _, rfl, hn, hc1, hc2, hw3, g1, g2, by omega, by omega, by omega⟩)
  | (refine st_ret (by simp only [dn, reduceCtorEq, va_map] <;> rfl) ?_
     first
      | exact ⟨[], rowQ_no (by assumption)⟩
      | exact ⟨_, rowQ_yes (by assumption) rfl (by assumption)⟩
      | exact qerr_yes (by assumption)
      | exact qerr_no (by assumption)
      | rfl)
  | fail "no step")
theorem hQPreds : cQPreds.Holds objs Tryz.prog := runCtr_holdsm (X := { cxQp Tryz.prog with hints := hsQPreds }) objsOk mixed hctsQp (callable _ Tryz.func284 (by kernel_rfl) (by kernel_rfl)) (by rintro ins outs _ ⟨F, rfl⟩ ⟨c, rfl⟩; rfl) (by rw [rQPreds]; exact vQPreds _ _)
set_option maxRecDepth 10000 in
set_option maxHeartbeats 4000000 in
theorem vQSuccs (P : Program) (hs : List (Nat × Nat × List Nat)) : ∀ ins, ins.length = cQSuccs.nin → cQSuccs.pre ins → tQSuccs.sat { cxQp P with hints := hs } (ctrR cQSuccs) ins := by
 rintro ins _ ⟨F, rfl⟩
 unfold tQSuccs
 refine st_and (st_opn (T := rfindT) (by rfl) ?_) nomore_rfind
 rintro ps hl ⟨a0, a1, a2, a3, a4, a5, a6, a7, a8, a9, a10, a11, a12, key, line, l, pred, ref, cur, w, r, P, S, K, rfl, hn, hc1, hc2, hw3, g1, g2, e1, e2, e3⟩ he
 simp only [List.getElem?_cons_zero, rfindT, rfindObj, Option.some.injEq, EV.u.injEq, U.rfind.injEq] at he
 subst he
 simp only [List.cons_append, List.nil_append]
 obtain ⟨k, hk⟩ : ∃ k : Nat, a2 = k := ⟨a2.toNat, by omega⟩
 subst hk
 repeat' (first
  | (first
    | (with_reducible refine st_need ?_ ?_
       focus (simp only [dn, reduceCtorEq, hn, va_map] <;> first | omega | assumption))
    | (with_reducible refine st_and ?_ ?_)
    | (with_reducible exact st_ok)
    | (with_reducible refine st_br (fun hc => ?_) (fun hc => ?_) <;> (simp only [dn, reduceCtorEq, hn, va_map] at hc) <;> (try (exfalso; first | contradiction | omega)))
    | (refine st_call (by rfl) (by simp only [dn, reduceCtorEq, hn, va_map] <;> rfl) ?_ (by rfl <;> rfl) (by simp only [dn] <;> rfl) ?_
       focus (first | rfl)))
  | (refine st_callm (by rfl) (by simp only [dn, reduceCtorEq, va_map] <;> rfl) ?_ (fun o env' hm he => ?_)
     focus exact ⟨_, _, _, rfl, by omega, by omega, by omega⟩
     obtain ⟨cc, rfl⟩ := hm
     simp only [cpy_e, List.cons_append, List.nil_append] at he
     subst he)
  | (refine st_lst (by simp only [dn] <;> rfl) ?_)
  | (refine st_mk (by rfl) (by simp only [dn, reduceCtorEq, va_map] <;> rfl) ?_ (by simp only [dn] <;> rfl) ?_
     focus exact ⟨_, _, _, _, _, _, _, _, _, _, _, _, _, _, _, _, _, _, _, _, _, _, _, _, rfl, hn, hc1, hc2, hw3, g1, g2, by omega, by omega, by omega⟩)
  | (refine st_ret (by simp only [dn, reduceCtorEq, va_map] <;> rfl) ?_
     first
      | exact ⟨[], rowQ_no (by assumption)⟩
      | exact ⟨_, rowQ_yes (by assumption) rfl (by assumption)⟩
      | exact qerr_yes (by assumption)
      | exact qerr_no (by assumption)
      | rfl)
  | fail "no step")
theorem hQSuccs : cQSuccs.Holds objs Tryz.prog := runCtr_holdsm (X := { cxQp Tryz.prog with hints := hsQSuccs }) objsOk mixed hctsQp (callable _ Tryz.func225 (by kernel_rfl) (by kernel_rfl)) (by rintro ins outs _ ⟨F, rfl⟩ ⟨c, rfl⟩; rfl) (by rw [rQSuccs]; exact vQSuccs _ _)
set_option maxRecDepth 10000 in
set_option maxHeartbeats 4000000 in
theorem vQKnown (P : Program) (hs : List (Nat × Nat × List Nat)) : ∀ ins, ins.length = cQKnown.nin → cQKnown.pre ins → tQKnown.sat { cxQp P with hints := hs } (ctrR cQKnown) ins := by
 rintro ins _ ⟨F, rfl⟩
 unfold tQKnown
 refine st_and (st_opn (T := rfindT) (by rfl) ?_) nomore_rfind
 rintro ps hl ⟨a0, a1, a2, a3, a4, a5, a6, a7, a8, a9, a10, a11, a12, key, line, l, pred, ref, cur, w, r, P, S, K, rfl, hn, hc1, hc2, hw3, g1, g2, e1, e2, e3⟩ he
 simp only [List.getElem?_cons_zero, rfindT, rfindObj, Option.some.injEq, EV.u.injEq, U.rfind.injEq] at he
 subst he
 simp only [List.cons_append, List.nil_append]
 obtain ⟨k, hk⟩ : ∃ k : Nat, a2 = k := ⟨a2.toNat, by omega⟩
 subst hk
 repeat' (first
  | (first
    | (with_reducible refine st_need ?_ ?_
       focus (simp only [dn, reduceCtorEq, hn, va_map] <;> first | omega | assumption))
    | (with_reducible refine st_and ?_ ?_)
    | (with_reducible exact st_ok)
    | (with_reducible refine st_br (fun hc => ?_) (fun hc => ?_) <;> (simp only [dn, reduceCtorEq, hn, va_map] at hc) <;> (try (exfalso; first | contradiction | omega)))
    | (refine st_call (by rfl) (by simp only [dn, reduceCtorEq, hn, va_map] <;> rfl) ?_ (by rfl <;> rfl) (by simp only [dn] <;> rfl) ?_
       focus (first | rfl)))
  | (refine st_callm (by rfl) (by simp only [dn, reduceCtorEq, va_map] <;> rfl) ?_ (fun o env' hm he => ?_)
     focus exact ⟨_, _, _, rfl, by omega, by omega, by omega⟩
     obtain ⟨cc, rfl⟩ := hm
     simp only [cpy_e, List.cons_append, List.nil_append] at he
     subst he)
  | (refine st_lst (by simp only [dn] <;> rfl) ?_)
  | (refine st_mk (by rfl) (by simp only [dn, reduceCtorEq, va_map] <;> rfl) ?_ (by simp only [dn] <;> rfl) ?_
     focus exact ⟨_, _, _, _, _, _, _, _, _, _, _, _, _, _, _, _, _, _, _, _, _, _, _, _, rfl, hn, hc1, hc2, hw3, g1, g2, by omega, by omega, by omega⟩)
  | (refine st_ret (by simp only [dn, reduceCtorEq, va_map] <;> rfl) ?_
     first
      | exact ⟨[], rowQ_no (by assumption)⟩
      | exact ⟨_, rowQ_yes (by assumption) rfl (by assumption)⟩
      | exact qerr_yes (by assumption)
      | exact qerr_no (by assumption)
      | rfl)
  | fail "no step")
theorem hQKnown : cQKnown.Holds objs Tryz.prog := runCtr_holdsm (X := { cxQp Tryz.prog with hints := hsQKnown }) objsOk mixed hctsQp (callable _ Tryz.func283 (by kernel_rfl) (by kernel_rfl)) (by rintro ins outs _ ⟨F, rfl⟩ ⟨c, rfl⟩; rfl) (by rw [rQKnown]; exact vQKnown _ _)
set_option maxRecDepth 10000 in
set_option maxHeartbeats 4000000 in
theorem vQBy (P : Program) (hs : List (Nat × Nat × List Nat)) : ∀ ins, ins.length = cQBy.nin → cQBy.pre ins → tQBy.sat { cxQi P with hints := hs } (ctrR cQBy) ins := by
 rintro ins _ ⟨F, rfl⟩
 unfold tQBy
 refine st_and (st_opn (T := rfindT) (by rfl) ?_) nomore_rfind
 rintro ps hl ⟨a0, a1, a2, a3, a4, a5, a6, a7, a8, a9, a10, a11, a12, key, line, l, pred, ref, cur, w, r, P, S, K, rfl, hn, hc1, hc2, hw3, g1, g2, e1, e2, e3⟩ he
 simp only [List.getElem?_cons_zero, rfindT, rfindObj, Option.some.injEq, EV.u.injEq, U.rfind.injEq] at he
 subst he
 simp only [List.cons_append, List.nil_append]
 repeat' (first
  | (first
    | (with_reducible refine st_need ?_ ?_
       focus (simp only [dn, reduceCtorEq, hn, va_map] <;> first | omega | assumption))
    | (with_reducible refine st_and ?_ ?_)
    | (with_reducible exact st_ok)
    | (with_reducible refine st_br (fun hc => ?_) (fun hc => ?_) <;> (simp only [dn, reduceCtorEq, hn, va_map] at hc) <;> (try (exfalso; first | contradiction | omega)))
    | (refine st_call (by rfl) (by simp only [dn, reduceCtorEq, hn, va_map] <;> rfl) ?_ (by rfl <;> rfl) (by simp only [dn] <;> rfl) ?_
       focus (first | rfl)))
  | (refine st_callm (by rfl) (by simp only [dn, reduceCtorEq, va_map] <;> rfl) ?_ (fun o env' hm he => ?_)
     focus exact ⟨_, _, _, rfl, by omega, by omega, by omega⟩
     obtain ⟨cc, rfl⟩ := hm
     simp only [cpy_e, List.cons_append, List.nil_append] at he
     subst he)
  | (refine st_lst (by simp only [dn] <;> rfl) ?_)
  | (refine st_mk (by rfl) (by simp only [dn, reduceCtorEq, va_map] <;> rfl) ?_ (by simp only [dn] <;> rfl) ?_
     focus exact ⟨_, _, _, _, _, _, _, _, _, _, _, _, _, _, _, _, _, _, _, _, _, _, _, _, rfl, hn, hc1, hc2, hw3, g1, g2, by omega, by omega, by omega⟩)
  | (refine st_ret (by simp only [dn, reduceCtorEq, va_map] <;> rfl) ?_
     first
      | exact ⟨[], rowQ_no (by assumption)⟩
      | exact ⟨_, rowQ_yes (by assumption) rfl (by assumption)⟩
      | exact qerr_yes (by assumption)
      | exact qerr_no (by assumption)
      | rfl)
  | fail "no step")
theorem hQBy : cQBy.Holds objs Tryz.prog := runCtr_holds (X := { cxQi Tryz.prog with hints := hsQBy }) objsOk mixed noCts (callable _ Tryz.func281 (by kernel_rfl) (by kernel_rfl)) (by rintro ins _ ⟨_, rfl⟩; rfl) (by rw [rQBy]; exact vQBy _ _)
theorem out_fby (F : FindSt) : cFBy.out [.u (.find F)] = [.u (.find F), .i F.r] := rfl
theorem out_qby (F : FindSt) : cQBy.out [.u (.rfind F)] = [.u (.rfind F), .i F.r] := rfl
theorem hFNew : cFNew.Holds objs Tryz.prog := by
 refine ⟨hFNew1.1, ?_, ?_⟩
 · rintro ins outs _ ⟨_, _, _, _, _, _, _, _, _, _, _, _, _, _, rfl, _⟩ h3
   have h3' : outs = _ := h3
   rw [h3']; rfl
 · rintro ins ρ w vals F hl ⟨a0, a1, a2, a3, a4, a5, a6, a7, a8, a9, a10, a11, a12, key, rfl, ht⟩ ha hs
   obtain ⟨h1, h2, _⟩ := okT_facts ht
   have hh : a2 = 1 ∨ a2 = 2 ∨ a2 = 3 ∨ a2 = 4 := by omega
   rcases hh with rfl | rfl | rfl | rfl
   · exact hFNew1.2.2 _ ρ w vals F hl ⟨_, _, _, _, _, _, _, _, _, _, _, _, _, _, rfl, rfl, ht⟩ ha hs
   · exact hFNew2.2.2 _ ρ w vals F hl ⟨_, _, _, _, _, _, _, _, _, _, _, _, _, _, rfl, rfl, ht⟩ ha hs
   · exact hFNew3.2.2 _ ρ w vals F hl ⟨_, _, _, _, _, _, _, _, _, _, _, _, _, _, rfl, rfl, ht⟩ ha hs
   · exact hFNew4.2.2 _ ρ w vals F hl ⟨_, _, _, _, _, _, _, _, _, _, _, _, _, _, rfl, rfl, ht⟩ ha hs
end Go.Proofs.YtdldcofddfkkbaaGreat
