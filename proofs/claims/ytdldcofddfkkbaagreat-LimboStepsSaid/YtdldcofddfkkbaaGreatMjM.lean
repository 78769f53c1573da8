import Derived.Test.YtdldcofddfkkbaaGreatTw
import Derived.Test.YtdldcofddfkkbaaGreatVd
import Derived.ProofKit
import Derived.OpenShut
import Derived.ChangeOld
import Derived.Lib.SmallJoins
import Derived.Deep.Slices
import Derived.Deep.Fields
import Derived.Test.YtdldcofddfkkbaaGreatMgM
import Derived.Test.YtdldcofddfkkbaaGreatAhM
import Derived.Test.YtdldcofddfkkbaaGreatSw
/- Structs of numbers within structs, opened, with their ranges. No program is named here. -/
namespace Go.Proofs.YtdldcofddfkkbaaGreat
set_option linter.unusedVariables false
set_option linter.unusedSimpArgs false
set_option linter.unusedSectionVars false
open Go Go.ChangeShapes Go.WideShapes Go.ChangeAt Go.RowKit Go.Joins Go.Deep

theorem wf_isI {x : Int} (h : (Lit.int .i64 x).wf = true) : isI x := by
  simp [Lit.wf, IntKind.min, IntKind.max, IntKind.bits, IntKind.signed] at h
  exact ⟨by omega, by omega⟩
section
variable {H : Type} {enc : TypeId × Value → H} {P : Program} {w : World} {base : Nat} {spare : Nat → Bool} {held : Bool}
theorem intCellI : ∀ (m : Nat) (t : TypeId) (j : Nat), intCell P m t j = true → ∀ (fuel : Nat) (cs : List Value) (x : DataW H × List MemPlace), DataW.trod enc P w base spare held fuel t cs = some x → j < cs.length → ∃ n, cs[j]? = some (.int .i64 n) ∧ isI n
  | 0, _, _, h, _, _, _, _, _ => by cases h
  | m + 1, t, j, h, fuel, cs, x, hx, hj => by
    unfold intCell at h
    split at h
    · rename_i k hu
      simp only [Bool.and_eq_true, decide_eq_true_eq] at h
      obtain ⟨rfl, rfl⟩ := h
      obtain ⟨n, rfl, _, wf⟩ := DataW.trod_int hu hx
      exact ⟨n, rfl, wf_isI wf⟩
    · rename_i fs hu
      rw [List.any_eq_true] at h
      obtain ⟨f, hf, h⟩ := h
      simp only [Bool.and_eq_true, decide_eq_true_eq] at h
      obtain ⟨h1, h2, h3⟩ := h
      obtain ⟨xs, n, _, rfl, hl, hlen, hall⟩ := DataW.trod_struct hu hx
      obtain ⟨i, hi⟩ := List.getElem?_of_mem hf
      have hi' : fs[i]? = some f := by simpa using hi
      have hlt : i < fs.size := (Array.getElem?_eq_some_iff.1 hi').1
      have h4 := hall i f hi'
      rw [List.getElem?_eq_getElem (by omega)] at h4
      obtain ⟨a, ha, wa⟩ := intCellI m f.type (j - f.offset) h3 n _ _ h4 (by simp; omega)
      refine ⟨a, ?_, wa⟩
      rw [List.getElem?_take, if_pos (by omega), List.getElem?_drop] at ha
      rw [← ha]
      congr 1
      omega
    · cases h
theorem open_intsI {r : Reach} {b0 m : Nat} {t : TypeId} {fs : Array Field} {v : Value} {d : DataW H} {p : List MemPlace} (hs : P.underlying t = some (.struct fs)) (hC : P.cellsOf t = m) (hall : (List.range m).all (intCell P 8 t) = true)
    (hv : Value.okWide P w r b0 t v) (h : DataW.Trod enc P w base spare held t v d p) : ∃ bs : List Int, bs.length = m ∧ (∀ x ∈ bs, isI x) ∧ v = .agg (bs.map (Value.int .i64)).toArray := by
  obtain ⟨cs, rfl, hsz⟩ := okWide_struct hs hv
  obtain ⟨fuel, hf⟩ := h
  have hsz' : cs.size = m := hsz.trans hC
  have key : ∀ j, j < m → ∃ n, cs.toList[j]? = some (.int .i64 n) ∧ isI n := fun j hj => by
    rw [List.all_eq_true] at hall
    exact intCellI 8 t j (hall j (by simpa using hj)) fuel _ _ hf (by simpa [Value.cells, hsz'] using hj)
  obtain ⟨l⟩ := cs
  simp only [List.size_toArray] at hsz'
  clear hf hs hsz hall hv
  suffices ∃ bs : List Int, bs.length = m ∧ (∀ x ∈ bs, isI x) ∧ l = bs.map (Value.int .i64) by
    obtain ⟨bs, h1, h2, rfl⟩ := this
    exact ⟨bs, h1, h2, rfl⟩
  refine ⟨l.map fun c => match c with | .int _ n => n | _ => 0, by simp [hsz'], ?_, ?_⟩
  · intro x hx
    obtain ⟨c, hc, rfl⟩ := List.mem_map.1 hx
    obtain ⟨j, hj⟩ := List.getElem?_of_mem hc
    have hjl : j < l.length := (List.getElem?_eq_some_iff.1 hj).1
    obtain ⟨n, hn, hi⟩ := key j (by omega)
    simp only at hn
    rw [hj] at hn
    cases hn
    exact hi
  rw [List.map_map]
  apply List.ext_getElem?
  intro j
  by_cases hj : j < m
  · obtain ⟨n, hn, _⟩ := key j hj
    simp only at hn
    rw [List.getElem?_map, hn]
    rfl
  · rw [List.getElem?_eq_none (by omega), List.getElem?_eq_none (by simp; omega)]
end
end Go.Proofs.YtdldcofddfkkbaaGreat
/- The law of limbos beside the document: a round (printed by gen_lm.py). -/
namespace Go.Proofs.YtdldcofddfkkbaaGreat
set_option linter.unusedVariables false
set_option linter.unusedSimpArgs false
set_option linter.unusedSectionVars false
open Go Go.RowKit

theorem out_qlast (M : MemSt) : cQLast.out [.u (.rmem M)] = [.u (.rmem M), .i M.k, .i M.a, .i M.o, .i M.n, .b M.h] := rfl
theorem out_qcount (M : MemSt) : cQCount.out [.u (.rmem M)] = [.u (.rmem M), .i M.N] := rfl
theorem out_qnew {n : Int} (h : 1 ≤ n) (h1 : n ≤ 4096) : cQNew.out [.i n] = [.u (.rmem (.new n)), .i 0] := by simp [cQNew, h, h1]
theorem pre_swm {M : MemSt} {c : List Int} (h : M.W.length ≤ 4096) : cSameWords.pre [.l M.W, .l (M.W ++ c), .i M.W.length, .i M.W.length, .i M.W.length, .i ((M.W.length + c.length : Nat) : Int)] :=
  pre_same (by omega) (by omega) (by omega) (by simp; omega) (by omega)
theorem out_swm {M : MemSt} {c : List Int} : cSameWords.out [.l M.W, .l (M.W ++ c), .i M.W.length, .i M.W.length, .i M.W.length, .i ((M.W.length + c.length : Nat) : Int)] = [.b true] := by
  rw [out_same]; simp
theorem qwords {M : MemSt} {k : Tree} {env : List (EV U)} {X : Cx U} {R : List (EV U) → List (EV U) → Prop} {ci : Nat} {β : List Bnd} (hc : X.cts[ci]? = some cQWords) (ha : β.map (Bnd.den env) = [.u (.rmem M)]) (h : 1 ≤ M.W.length) (h1 : M.W.length ≤ 4096)
    (hk : ∀ (c : List Int) (env' : List (EV U)), env ++ [.u (.rmem M), .l (M.W ++ c), .i M.W.length, .i ((M.W.length + c.length : Nat) : Int)] = env' → k.sat X R env') : (Tree.callm ci β k).sat X R env :=
  st_callm hc ha ⟨_, rfl, h, h1⟩ (fun o env' ho he => by obtain ⟨c, rfl⟩ := ho; exact hk c env' he)
theorem out_awk (f : FuncId) : (boolC f).out [] = [.b true] := rfl
theorem oA_n : oA (.no) = .retNil := rfl
theorem oA_r (R : RetSt) : oA (.ret R) = .ret R := rfl
theorem oA_c (C : ColSt) : oA (.col C) = .retNil := rfl
theorem oB_n : oB (.no) = .rretNil := rfl
theorem oB_r (R : RetSt) : oB (.ret R) = .rret R := rfl
theorem oB_c (C : ColSt) : oB (.col C) = .rretNil := rfl
theorem oC_n : oC (.no) = .colNil := rfl
theorem oC_r (R : RetSt) : oC (.ret R) = .colNil := rfl
theorem oC_c (C : ColSt) : oC (.col C) = .col C := rfl
theorem oD_n : oD (.no) = .rcolNil := rfl
theorem oD_r (R : RetSt) : oD (.ret R) = .rcolNil := rfl
theorem oD_c (C : ColSt) : oD (.col C) = .rcol C := rfl
theorem out_b_no (M : MemSt) : cBStep.out [.u .retNil, .u .rretNil, .u .colNil, .u .rcolNil, .u (.mem M), .u (.rmem M)] = [.u .retNil, .u .rretNil, .u .colNil, .u .rcolNil, .u (.mem M), .u (.rmem M), .b true] := rfl
theorem out_b_ret (R : RetSt) (M : MemSt) : cBStep.out [.u (.ret R), .u (.rret R), .u .colNil, .u .rcolNil, .u (.mem M), .u (.rmem M)] = [.u (.ret (R.step M).1), .u (.rret (R.step M).1), .u .colNil, .u .rcolNil, .u (.mem (R.step M).2), .u (.rmem (R.step M).2), .b true] := rfl
theorem out_b_col (C : ColSt) (M : MemSt) : cBStep.out [.u .retNil, .u .rretNil, .u (.col C), .u (.rcol C), .u (.mem M), .u (.rmem M)] = [.u .retNil, .u .rretNil, .u (.col (C.step M).1), .u (.rcol (C.step M).1), .u (.mem (C.step M).2), .u (.rmem (C.step M).2), .b true] := rfl
theorem out_rnew (t ls s g wo lm ea ep ec tp i : Int) : cRNew.out [.i t, .i ls, .i s, .i g, .i wo, .i lm, .i ea, .i ep, .i ec, .i tp, .i i] = [.u (.ret (.new [t, ls, s, g, wo, lm, ea, ep, ec, tp] s i))] := rfl
theorem out_qrnew (t ls s g wo lm ea ep ec tp i : Int) : cQRNew.out [.i t, .i ls, .i s, .i g, .i wo, .i lm, .i ea, .i ep, .i ec, .i tp, .i i] = [.u (.rret (.new [t, ls, s, g, wo, lm, ea, ep, ec, tp] s i))] := rfl
theorem out_cnew (t ls s g wo lm ea ep ec tp c p : Int) : cCNew.out [.i t, .i ls, .i s, .i g, .i wo, .i lm, .i ea, .i ep, .i ec, .i tp, .i c, .i p] = [.u (.col (.new [t, ls, s, g, wo, lm, ea, ep, ec, tp] ec tp c p))] := rfl
theorem out_qcnew (t ls s g wo lm ea ep ec tp c p : Int) : cQCNew.out [.i t, .i ls, .i s, .i g, .i wo, .i lm, .i ea, .i ep, .i ec, .i tp, .i c, .i p] = [.u (.rcol (.new [t, ls, s, g, wo, lm, ea, ep, ec, tp] ec tp c p))] := rfl
theorem out_lfits (t ls s g wo lm ea ep ec tp z : Int) : cLFits.out [.i t, .i ls, .i s, .i g, .i wo, .i lm, .i ea, .i ep, .i ec, .i tp, .i z] = [.i (fits13 t ls s g wo lm ea ep ec tp z)] := rfl
theorem out_df13 (t ls s g wo lm ea ep ec tp z : Int) : cDF13.out [.i t, .i ls, .i s, .i g, .i wo, .i lm, .i ea, .i ep, .i ec, .i tp, .i z] = [.i (fits13D t ls s g wo lm ea ep ec tp z)] := rfl
set_option maxRecDepth 10000 in
set_option maxHeartbeats 16000000 in
theorem bLS0 (P : Program) (hs : List (Nat × Nat × List Nat)) {t ls s g wo lm ea ep ec tp z : Int} {gi : Nat → Nat → Int} {ki : Nat} {ci : Int} {gl : Nat → Nat → Int} {kl : Nat} {cl : Int} {x17 x18 x19 x20 x21 x22 x23 x24 x25 x26 x27 x28 : EV U} {M : MemSt} {o0 o1 o2 o3 : OpSt} {j : Int} (h1 : 0 ≤ j) (h2 : j ≤ kl) (h3 : kl ≤ 120) (h4 : 1 ≤ M.W.length) (hM : M.fine) (f1 : 1 ≤ s) (f2 : s ≤ 4096) (f3 : ec ≤ 64) (f4 : 0 ≤ lm) (f5 : lm ≤ 4294967295) (hw : ∀ j, j < kl → isI (gl j 3)) (k0 : oOk o0) (k1 : oOk o1) (k2 : oOk o2) (k3 : oOk o3) (hp : (gl j.toNat 0).emod 4 = 0) :
    tLStepsL0.sat { cxMg P [lLS1, lLS2] with hints := hs } (ctrR cLSteps) [.i t, .i ls, .i s, .i g, .i wo, .i lm, .i ea, .i ep, .i ec, .i tp, .i z, .f gi ki, .i ki, .i ci, .f gl kl, .i kl, .i cl, x17, x18, x19, x20, x21, x22, x23, x24, x25, x26, x27, x28, .u (.mem M), .u (.rmem M), .u (oA o0), .u (oB o0), .u (oC o0), .u (oD o0), .u (oA o1), .u (oB o1), .u (oC o1), .u (oD o1), .u (oA o2), .u (oB o2), .u (oC o2), .u (oD o2), .u (oA o3), .u (oB o3), .u (oC o3), .u (oD o3), .i j] := by
  by_cases hi : j < kl
  · have hw3 := hw j.toNat (by omega)
    rcases o0 with _ | L | L
    (have hL : True := trivial)
    rotate_left
    (have hL : L.ok := k0)
    rotate_left
    (have hL : L.ok := k0)
    rotate_left
    all_goals
      unfold tLStepsL0
      simp only [oA_n, oA_r, oA_c, oB_n, oB_r, oB_c, oC_n, oC_r, oC_c, oD_n, oD_r, oD_c]
      repeat' (first
        | (first
          | (with_reducible refine st_need ?_ ?_
             focus (simp only [dn, reduceCtorEq, hp, va_map] <;> first | omega | assumption))
          | (with_reducible refine st_and ?_ ?_)
          | (with_reducible exact st_ok)
          | (with_reducible refine st_br (fun hc => ?_) (fun hc => ?_) <;> (simp only [dn, reduceCtorEq, hp, va_map] at hc) <;> (try (exfalso; first | contradiction | omega)))
          | (refine st_call (by rfl) (by simp only [dn, reduceCtorEq, hp, va_map] <;> rfl) ?_ (by simp only [out_pick, hp, out_b_no, out_b_ret, out_b_col, out_rnew, out_qrnew, out_cnew, out_qcnew, out_last, out_qlast, out_count, out_qcount, out_words, out_swm, out_awk] <;> rfl) (by simp only [dn] <;> rfl) ?_
             focus (first | exact pre_pick (by decide) (by decide) | exact .inl ⟨_, _, rfl, hM⟩ | exact .inr (.inl ⟨_, _, rfl, hM⟩) | exact .inr (.inr ⟨_, rfl, hM⟩) | exact ⟨_, _, _, _, _, _, _, _, _, _, _, rfl, f2⟩ | exact ⟨_, _, _, _, _, _, _, _, _, _, _, _, rfl, f1, f2, f3, f4, f5, hw3.2⟩ | exact ⟨_, rfl⟩ | rfl | exact pre_swm (by first | exact hM.1 | exact (ret_fine hL hM).1 | exact (col_fine hL hM).1)))
          | (with_reducible refine st_ret (by simp only [dn, reduceCtorEq, hp, va_map] <;> rfl) ?_
             (first | rfl | exact ⟨_, rfl⟩)))
        | (refine qwords (by rfl) (by simp only [dn, reduceCtorEq, hp] <;> rfl) ?_ ?_ (fun cc env' he => ?_)
           focus exact (by first | assumption | (rw [ret_len]; assumption) | (rw [col_len]; assumption))
           focus exact (by first | exact hM.1 | exact (ret_fine hL hM).1 | exact (col_fine hL hM).1)
           simp only [List.cons_append, List.nil_append] at he
           subst he)
        | (refine st_mk (by rfl) (by simp only [List.map_nil] <;> rfl) (by rfl) (by simp only [dn] <;> rfl) ?_)
        | (refine st_back (by rfl) (by simp only [dn, reduceCtorEq, hp, va_map] <;> rfl) (by simp only [dn] <;> rfl) (by rfl) ?_ ?_
           focus (rw [wrap_small (n := j + 1) (by omega) (by omega)]
                  first
                  | exact ⟨_, _, _, _, _, _, _, _, _, _, _, _, _, _, _, _, _, _, _, _, _, _, _, _, _, _, _, _, _, _, (OpSt.ret _), _, _, _, _, rfl, by omega, by omega, h3, (by first | assumption | (rw [ret_len]; assumption) | (rw [col_len]; assumption)), (by first | exact hM | exact ret_fine hL hM | exact col_fine hL hM), ⟨f1, f2, f3, f4, f5⟩, hw, (by first | exact ret_ok hL | exact hL | exact rnew_ok f2), k1, k2, k3⟩
                  | exact ⟨_, _, _, _, _, _, _, _, _, _, _, _, _, _, _, _, _, _, _, _, _, _, _, _, _, _, _, _, _, _, (OpSt.col _), _, _, _, _, rfl, by omega, by omega, h3, (by first | assumption | (rw [ret_len]; assumption) | (rw [col_len]; assumption)), (by first | exact hM | exact ret_fine hL hM | exact col_fine hL hM), ⟨f1, f2, f3, f4, f5⟩, hw, (by first | exact col_ok hL | exact hL | exact cnew_okk f2), k1, k2, k3⟩
                  | exact ⟨_, _, _, _, _, _, _, _, _, _, _, _, _, _, _, _, _, _, _, _, _, _, _, _, _, _, _, _, _, _, OpSt.no, _, _, _, _, rfl, by omega, by omega, h3, (by first | assumption | (rw [ret_len]; assumption) | (rw [col_len]; assumption)), (by first | exact hM | exact ret_fine hL hM | exact col_fine hL hM), ⟨f1, f2, f3, f4, f5⟩, hw, trivial, k1, k2, k3⟩)
           focus (rw [wrap_small (n := j + 1) (by omega) (by omega)]; show ((kl : Int) - (j + 1)).toNat < ((kl : Int) - j).toNat; omega))
        | fail "no step")
  · unfold tLStepsL0
    repeat' (first
      | (first
        | (with_reducible refine st_need ?_ ?_
           focus (simp only [dn, reduceCtorEq, hp, va_map] <;> first | omega | assumption))
        | (with_reducible refine st_and ?_ ?_)
        | (with_reducible exact st_ok)
        | (with_reducible refine st_br (fun hc => ?_) (fun hc => ?_) <;> (simp only [dn, reduceCtorEq, hp, va_map] at hc) <;> (try (exfalso; first | contradiction | omega)))
        | (refine st_call (by rfl) (by simp only [dn, reduceCtorEq, hp, va_map] <;> rfl) ?_ (by simp only [out_awk] <;> rfl) (by simp only [dn] <;> rfl) ?_
           focus (first | rfl))
        | (with_reducible refine st_ret (by simp only [dn, reduceCtorEq, hp, va_map] <;> rfl) ?_
           (first | rfl | exact ⟨_, rfl⟩)))
      | fail "no step")
set_option maxRecDepth 10000 in
set_option maxHeartbeats 16000000 in
theorem bLS1 (P : Program) (hs : List (Nat × Nat × List Nat)) {t ls s g wo lm ea ep ec tp z : Int} {gi : Nat → Nat → Int} {ki : Nat} {ci : Int} {gl : Nat → Nat → Int} {kl : Nat} {cl : Int} {x17 x18 x19 x20 x21 x22 x23 x24 x25 x26 x27 x28 : EV U} {M : MemSt} {o0 o1 o2 o3 : OpSt} {j : Int} (h1 : 0 ≤ j) (h2 : j ≤ kl) (h3 : kl ≤ 120) (h4 : 1 ≤ M.W.length) (hM : M.fine) (f1 : 1 ≤ s) (f2 : s ≤ 4096) (f3 : ec ≤ 64) (f4 : 0 ≤ lm) (f5 : lm ≤ 4294967295) (hw : ∀ j, j < kl → isI (gl j 3)) (k0 : oOk o0) (k1 : oOk o1) (k2 : oOk o2) (k3 : oOk o3) (hp : (gl j.toNat 0).emod 4 = 1) :
    tLStepsL0.sat { cxMg P [lLS1, lLS2] with hints := hs } (ctrR cLSteps) [.i t, .i ls, .i s, .i g, .i wo, .i lm, .i ea, .i ep, .i ec, .i tp, .i z, .f gi ki, .i ki, .i ci, .f gl kl, .i kl, .i cl, x17, x18, x19, x20, x21, x22, x23, x24, x25, x26, x27, x28, .u (.mem M), .u (.rmem M), .u (oA o0), .u (oB o0), .u (oC o0), .u (oD o0), .u (oA o1), .u (oB o1), .u (oC o1), .u (oD o1), .u (oA o2), .u (oB o2), .u (oC o2), .u (oD o2), .u (oA o3), .u (oB o3), .u (oC o3), .u (oD o3), .i j] := by
  by_cases hi : j < kl
  · have hw3 := hw j.toNat (by omega)
    rcases o1 with _ | L | L
    (have hL : True := trivial)
    rotate_left
    (have hL : L.ok := k1)
    rotate_left
    (have hL : L.ok := k1)
    rotate_left
    all_goals
      unfold tLStepsL0
      simp only [oA_n, oA_r, oA_c, oB_n, oB_r, oB_c, oC_n, oC_r, oC_c, oD_n, oD_r, oD_c]
      repeat' (first
        | (first
          | (with_reducible refine st_need ?_ ?_
             focus (simp only [dn, reduceCtorEq, hp, va_map] <;> first | omega | assumption))
          | (with_reducible refine st_and ?_ ?_)
          | (with_reducible exact st_ok)
          | (with_reducible refine st_br (fun hc => ?_) (fun hc => ?_) <;> (simp only [dn, reduceCtorEq, hp, va_map] at hc) <;> (try (exfalso; first | contradiction | omega)))
          | (refine st_call (by rfl) (by simp only [dn, reduceCtorEq, hp, va_map] <;> rfl) ?_ (by simp only [out_pick, hp, out_b_no, out_b_ret, out_b_col, out_rnew, out_qrnew, out_cnew, out_qcnew, out_last, out_qlast, out_count, out_qcount, out_words, out_swm, out_awk] <;> rfl) (by simp only [dn] <;> rfl) ?_
             focus (first | exact pre_pick (by decide) (by decide) | exact .inl ⟨_, _, rfl, hM⟩ | exact .inr (.inl ⟨_, _, rfl, hM⟩) | exact .inr (.inr ⟨_, rfl, hM⟩) | exact ⟨_, _, _, _, _, _, _, _, _, _, _, rfl, f2⟩ | exact ⟨_, _, _, _, _, _, _, _, _, _, _, _, rfl, f1, f2, f3, f4, f5, hw3.2⟩ | exact ⟨_, rfl⟩ | rfl | exact pre_swm (by first | exact hM.1 | exact (ret_fine hL hM).1 | exact (col_fine hL hM).1)))
          | (with_reducible refine st_ret (by simp only [dn, reduceCtorEq, hp, va_map] <;> rfl) ?_
             (first | rfl | exact ⟨_, rfl⟩)))
        | (refine qwords (by rfl) (by simp only [dn, reduceCtorEq, hp] <;> rfl) ?_ ?_ (fun cc env' he => ?_)
           focus exact (by first | assumption | (rw [ret_len]; assumption) | (rw [col_len]; assumption))
           focus exact (by first | exact hM.1 | exact (ret_fine hL hM).1 | exact (col_fine hL hM).1)
           simp only [List.cons_append, List.nil_append] at he
           subst he)
        | (refine st_mk (by rfl) (by simp only [List.map_nil] <;> rfl) (by rfl) (by simp only [dn] <;> rfl) ?_)
        | (refine st_back (by rfl) (by simp only [dn, reduceCtorEq, hp, va_map] <;> rfl) (by simp only [dn] <;> rfl) (by rfl) ?_ ?_
           focus (rw [wrap_small (n := j + 1) (by omega) (by omega)]
                  first
                  | exact ⟨_, _, _, _, _, _, _, _, _, _, _, _, _, _, _, _, _, _, _, _, _, _, _, _, _, _, _, _, _, _, _, (OpSt.ret _), _, _, _, rfl, by omega, by omega, h3, (by first | assumption | (rw [ret_len]; assumption) | (rw [col_len]; assumption)), (by first | exact hM | exact ret_fine hL hM | exact col_fine hL hM), ⟨f1, f2, f3, f4, f5⟩, hw, k0, (by first | exact ret_ok hL | exact hL | exact rnew_ok f2), k2, k3⟩
                  | exact ⟨_, _, _, _, _, _, _, _, _, _, _, _, _, _, _, _, _, _, _, _, _, _, _, _, _, _, _, _, _, _, _, (OpSt.col _), _, _, _, rfl, by omega, by omega, h3, (by first | assumption | (rw [ret_len]; assumption) | (rw [col_len]; assumption)), (by first | exact hM | exact ret_fine hL hM | exact col_fine hL hM), ⟨f1, f2, f3, f4, f5⟩, hw, k0, (by first | exact col_ok hL | exact hL | exact cnew_okk f2), k2, k3⟩
                  | exact ⟨_, _, _, _, _, _, _, _, _, _, _, _, _, _, _, _, _, _, _, _, _, _, _, _, _, _, _, _, _, _, _, OpSt.no, _, _, _, rfl, by omega, by omega, h3, (by first | assumption | (rw [ret_len]; assumption) | (rw [col_len]; assumption)), (by first | exact hM | exact ret_fine hL hM | exact col_fine hL hM), ⟨f1, f2, f3, f4, f5⟩, hw, k0, trivial, k2, k3⟩)
           focus (rw [wrap_small (n := j + 1) (by omega) (by omega)]; show ((kl : Int) - (j + 1)).toNat < ((kl : Int) - j).toNat; omega))
        | fail "no step")
  · unfold tLStepsL0
    repeat' (first
      | (first
        | (with_reducible refine st_need ?_ ?_
           focus (simp only [dn, reduceCtorEq, hp, va_map] <;> first | omega | assumption))
        | (with_reducible refine st_and ?_ ?_)
        | (with_reducible exact st_ok)
        | (with_reducible refine st_br (fun hc => ?_) (fun hc => ?_) <;> (simp only [dn, reduceCtorEq, hp, va_map] at hc) <;> (try (exfalso; first | contradiction | omega)))
        | (refine st_call (by rfl) (by simp only [dn, reduceCtorEq, hp, va_map] <;> rfl) ?_ (by simp only [out_awk] <;> rfl) (by simp only [dn] <;> rfl) ?_
           focus (first | rfl))
        | (with_reducible refine st_ret (by simp only [dn, reduceCtorEq, hp, va_map] <;> rfl) ?_
           (first | rfl | exact ⟨_, rfl⟩)))
      | fail "no step")
set_option maxRecDepth 10000 in
set_option maxHeartbeats 16000000 in
theorem bLS2 (P : Program) (hs : List (Nat × Nat × List Nat)) {t ls s g wo lm ea ep ec tp z : Int} {gi : Nat → Nat → Int} {ki : Nat} {ci : Int} {gl : Nat → Nat → Int} {kl : Nat} {cl : Int} {x17 x18 x19 x20 x21 x22 x23 x24 x25 x26 x27 x28 : EV U} {M : MemSt} {o0 o1 o2 o3 : OpSt} {j : Int} (h1 : 0 ≤ j) (h2 : j ≤ kl) (h3 : kl ≤ 120) (h4 : 1 ≤ M.W.length) (hM : M.fine) (f1 : 1 ≤ s) (f2 : s ≤ 4096) (f3 : ec ≤ 64) (f4 : 0 ≤ lm) (f5 : lm ≤ 4294967295) (hw : ∀ j, j < kl → isI (gl j 3)) (k0 : oOk o0) (k1 : oOk o1) (k2 : oOk o2) (k3 : oOk o3) (hp : (gl j.toNat 0).emod 4 = 2) :
    tLStepsL0.sat { cxMg P [lLS1, lLS2] with hints := hs } (ctrR cLSteps) [.i t, .i ls, .i s, .i g, .i wo, .i lm, .i ea, .i ep, .i ec, .i tp, .i z, .f gi ki, .i ki, .i ci, .f gl kl, .i kl, .i cl, x17, x18, x19, x20, x21, x22, x23, x24, x25, x26, x27, x28, .u (.mem M), .u (.rmem M), .u (oA o0), .u (oB o0), .u (oC o0), .u (oD o0), .u (oA o1), .u (oB o1), .u (oC o1), .u (oD o1), .u (oA o2), .u (oB o2), .u (oC o2), .u (oD o2), .u (oA o3), .u (oB o3), .u (oC o3), .u (oD o3), .i j] := by
  by_cases hi : j < kl
  · have hw3 := hw j.toNat (by omega)
    rcases o2 with _ | L | L
    (have hL : True := trivial)
    rotate_left
    (have hL : L.ok := k2)
    rotate_left
    (have hL : L.ok := k2)
    rotate_left
    all_goals
      unfold tLStepsL0
      simp only [oA_n, oA_r, oA_c, oB_n, oB_r, oB_c, oC_n, oC_r, oC_c, oD_n, oD_r, oD_c]
      repeat' (first
        | (first
          | (with_reducible refine st_need ?_ ?_
             focus (simp only [dn, reduceCtorEq, hp, va_map] <;> first | omega | assumption))
          | (with_reducible refine st_and ?_ ?_)
          | (with_reducible exact st_ok)
          | (with_reducible refine st_br (fun hc => ?_) (fun hc => ?_) <;> (simp only [dn, reduceCtorEq, hp, va_map] at hc) <;> (try (exfalso; first | contradiction | omega)))
          | (refine st_call (by rfl) (by simp only [dn, reduceCtorEq, hp, va_map] <;> rfl) ?_ (by simp only [out_pick, hp, out_b_no, out_b_ret, out_b_col, out_rnew, out_qrnew, out_cnew, out_qcnew, out_last, out_qlast, out_count, out_qcount, out_words, out_swm, out_awk] <;> rfl) (by simp only [dn] <;> rfl) ?_
             focus (first | exact pre_pick (by decide) (by decide) | exact .inl ⟨_, _, rfl, hM⟩ | exact .inr (.inl ⟨_, _, rfl, hM⟩) | exact .inr (.inr ⟨_, rfl, hM⟩) | exact ⟨_, _, _, _, _, _, _, _, _, _, _, rfl, f2⟩ | exact ⟨_, _, _, _, _, _, _, _, _, _, _, _, rfl, f1, f2, f3, f4, f5, hw3.2⟩ | exact ⟨_, rfl⟩ | rfl | exact pre_swm (by first | exact hM.1 | exact (ret_fine hL hM).1 | exact (col_fine hL hM).1)))
          | (with_reducible refine st_ret (by simp only [dn, reduceCtorEq, hp, va_map] <;> rfl) ?_
             (first | rfl | exact ⟨_, rfl⟩)))
        | (refine qwords (by rfl) (by simp only [dn, reduceCtorEq, hp] <;> rfl) ?_ ?_ (fun cc env' he => ?_)
           focus exact (by first | assumption | (rw [ret_len]; assumption) | (rw [col_len]; assumption))
           focus exact (by first | exact hM.1 | exact (ret_fine hL hM).1 | exact (col_fine hL hM).1)
           simp only [List.cons_append, List.nil_append] at he
           subst he)
        | (refine st_mk (by rfl) (by simp only [List.map_nil] <;> rfl) (by rfl) (by simp only [dn] <;> rfl) ?_)
        | (refine st_back (by rfl) (by simp only [dn, reduceCtorEq, hp, va_map] <;> rfl) (by simp only [dn] <;> rfl) (by rfl) ?_ ?_
           focus (rw [wrap_small (n := j + 1) (by omega) (by omega)]
                  first
                  | exact ⟨_, _, _, _, _, _, _, _, _, _, _, _, _, _, _, _, _, _, _, _, _, _, _, _, _, _, _, _, _, _, _, _, (OpSt.ret _), _, _, rfl, by omega, by omega, h3, (by first | assumption | (rw [ret_len]; assumption) | (rw [col_len]; assumption)), (by first | exact hM | exact ret_fine hL hM | exact col_fine hL hM), ⟨f1, f2, f3, f4, f5⟩, hw, k0, k1, (by first | exact ret_ok hL | exact hL | exact rnew_ok f2), k3⟩
                  | exact ⟨_, _, _, _, _, _, _, _, _, _, _, _, _, _, _, _, _, _, _, _, _, _, _, _, _, _, _, _, _, _, _, _, (OpSt.col _), _, _, rfl, by omega, by omega, h3, (by first | assumption | (rw [ret_len]; assumption) | (rw [col_len]; assumption)), (by first | exact hM | exact ret_fine hL hM | exact col_fine hL hM), ⟨f1, f2, f3, f4, f5⟩, hw, k0, k1, (by first | exact col_ok hL | exact hL | exact cnew_okk f2), k3⟩
                  | exact ⟨_, _, _, _, _, _, _, _, _, _, _, _, _, _, _, _, _, _, _, _, _, _, _, _, _, _, _, _, _, _, _, _, OpSt.no, _, _, rfl, by omega, by omega, h3, (by first | assumption | (rw [ret_len]; assumption) | (rw [col_len]; assumption)), (by first | exact hM | exact ret_fine hL hM | exact col_fine hL hM), ⟨f1, f2, f3, f4, f5⟩, hw, k0, k1, trivial, k3⟩)
           focus (rw [wrap_small (n := j + 1) (by omega) (by omega)]; show ((kl : Int) - (j + 1)).toNat < ((kl : Int) - j).toNat; omega))
        | fail "no step")
  · unfold tLStepsL0
    repeat' (first
      | (first
        | (with_reducible refine st_need ?_ ?_
           focus (simp only [dn, reduceCtorEq, hp, va_map] <;> first | omega | assumption))
        | (with_reducible refine st_and ?_ ?_)
        | (with_reducible exact st_ok)
        | (with_reducible refine st_br (fun hc => ?_) (fun hc => ?_) <;> (simp only [dn, reduceCtorEq, hp, va_map] at hc) <;> (try (exfalso; first | contradiction | omega)))
        | (refine st_call (by rfl) (by simp only [dn, reduceCtorEq, hp, va_map] <;> rfl) ?_ (by simp only [out_awk] <;> rfl) (by simp only [dn] <;> rfl) ?_
           focus (first | rfl))
        | (with_reducible refine st_ret (by simp only [dn, reduceCtorEq, hp, va_map] <;> rfl) ?_
           (first | rfl | exact ⟨_, rfl⟩)))
      | fail "no step")
set_option maxRecDepth 10000 in
set_option maxHeartbeats 16000000 in
theorem bLS3 (P : Program) (hs : List (Nat × Nat × List Nat)) {t ls s g wo lm ea ep ec tp z : Int} {gi : Nat → Nat → Int} {ki : Nat} {ci : Int} {gl : Nat → Nat → Int} {kl : Nat} {cl : Int} {x17 x18 x19 x20 x21 x22 x23 x24 x25 x26 x27 x28 : EV U} {M : MemSt} {o0 o1 o2 o3 : OpSt} {j : Int} (h1 : 0 ≤ j) (h2 : j ≤ kl) (h3 : kl ≤ 120) (h4 : 1 ≤ M.W.length) (hM : M.fine) (f1 : 1 ≤ s) (f2 : s ≤ 4096) (f3 : ec ≤ 64) (f4 : 0 ≤ lm) (f5 : lm ≤ 4294967295) (hw : ∀ j, j < kl → isI (gl j 3)) (k0 : oOk o0) (k1 : oOk o1) (k2 : oOk o2) (k3 : oOk o3) (hp : (gl j.toNat 0).emod 4 = 3) :
    tLStepsL0.sat { cxMg P [lLS1, lLS2] with hints := hs } (ctrR cLSteps) [.i t, .i ls, .i s, .i g, .i wo, .i lm, .i ea, .i ep, .i ec, .i tp, .i z, .f gi ki, .i ki, .i ci, .f gl kl, .i kl, .i cl, x17, x18, x19, x20, x21, x22, x23, x24, x25, x26, x27, x28, .u (.mem M), .u (.rmem M), .u (oA o0), .u (oB o0), .u (oC o0), .u (oD o0), .u (oA o1), .u (oB o1), .u (oC o1), .u (oD o1), .u (oA o2), .u (oB o2), .u (oC o2), .u (oD o2), .u (oA o3), .u (oB o3), .u (oC o3), .u (oD o3), .i j] := by
  by_cases hi : j < kl
  · have hw3 := hw j.toNat (by omega)
    rcases o3 with _ | L | L
    (have hL : True := trivial)
    rotate_left
    (have hL : L.ok := k3)
    rotate_left
    (have hL : L.ok := k3)
    rotate_left
    all_goals
      unfold tLStepsL0
      simp only [oA_n, oA_r, oA_c, oB_n, oB_r, oB_c, oC_n, oC_r, oC_c, oD_n, oD_r, oD_c]
      repeat' (first
        | (first
          | (with_reducible refine st_need ?_ ?_
             focus (simp only [dn, reduceCtorEq, hp, va_map] <;> first | omega | assumption))
          | (with_reducible refine st_and ?_ ?_)
          | (with_reducible exact st_ok)
          | (with_reducible refine st_br (fun hc => ?_) (fun hc => ?_) <;> (simp only [dn, reduceCtorEq, hp, va_map] at hc) <;> (try (exfalso; first | contradiction | omega)))
          | (refine st_call (by rfl) (by simp only [dn, reduceCtorEq, hp, va_map] <;> rfl) ?_ (by simp only [out_pick, hp, out_b_no, out_b_ret, out_b_col, out_rnew, out_qrnew, out_cnew, out_qcnew, out_last, out_qlast, out_count, out_qcount, out_words, out_swm, out_awk] <;> rfl) (by simp only [dn] <;> rfl) ?_
             focus (first | exact pre_pick (by decide) (by decide) | exact .inl ⟨_, _, rfl, hM⟩ | exact .inr (.inl ⟨_, _, rfl, hM⟩) | exact .inr (.inr ⟨_, rfl, hM⟩) | exact ⟨_, _, _, _, _, _, _, _, _, _, _, rfl, f2⟩ | exact ⟨_, _, _, _, _, _, _, _, _, _, _, _, rfl, f1, f2, f3, f4, f5, hw3.2⟩ | exact ⟨_, rfl⟩ | rfl | exact pre_swm (by first | exact hM.1 | exact (ret_fine hL hM).1 | exact (col_fine hL hM).1)))
          | (with_reducible refine st_ret (by simp only [dn, reduceCtorEq, hp, va_map] <;> rfl) ?_
             (first | rfl | exact ⟨_, rfl⟩)))
        | (refine qwords (by rfl) (by simp only [dn, reduceCtorEq, hp] <;> rfl) ?_ ?_ (fun cc env' he => ?_)
           focus exact (by first | assumption | (rw [ret_len]; assumption) | (rw [col_len]; assumption))
           focus exact (by first | exact hM.1 | exact (ret_fine hL hM).1 | exact (col_fine hL hM).1)
           simp only [List.cons_append, List.nil_append] at he
           subst he)
        | (refine st_mk (by rfl) (by simp only [List.map_nil] <;> rfl) (by rfl) (by simp only [dn] <;> rfl) ?_)
        | (refine st_back (by rfl) (by simp only [dn, reduceCtorEq, hp, va_map] <;> rfl) (by simp only [dn] <;> rfl) (by rfl) ?_ ?_
           focus (rw [wrap_small (n := j + 1) (by omega) (by omega)]
                  first
                  | exact ⟨_, _, _, _, _, _, _, _, _, _, _, _, _, _, _, _, _, _, _, _, _, _, _, _, _, _, _, _, _, _, _, _, _, (OpSt.ret _), _, rfl, by omega, by omega, h3, (by first | assumption | (rw [ret_len]; assumption) | (rw [col_len]; assumption)), (by first | exact hM | exact ret_fine hL hM | exact col_fine hL hM), ⟨f1, f2, f3, f4, f5⟩, hw, k0, k1, k2, (by first | exact ret_ok hL | exact hL | exact rnew_ok f2)⟩
                  | exact ⟨_, _, _, _, _, _, _, _, _, _, _, _, _, _, _, _, _, _, _, _, _, _, _, _, _, _, _, _, _, _, _, _, _, (OpSt.col _), _, rfl, by omega, by omega, h3, (by first | assumption | (rw [ret_len]; assumption) | (rw [col_len]; assumption)), (by first | exact hM | exact ret_fine hL hM | exact col_fine hL hM), ⟨f1, f2, f3, f4, f5⟩, hw, k0, k1, k2, (by first | exact col_ok hL | exact hL | exact cnew_okk f2)⟩
                  | exact ⟨_, _, _, _, _, _, _, _, _, _, _, _, _, _, _, _, _, _, _, _, _, _, _, _, _, _, _, _, _, _, _, _, _, OpSt.no, _, rfl, by omega, by omega, h3, (by first | assumption | (rw [ret_len]; assumption) | (rw [col_len]; assumption)), (by first | exact hM | exact ret_fine hL hM | exact col_fine hL hM), ⟨f1, f2, f3, f4, f5⟩, hw, k0, k1, k2, trivial⟩)
           focus (rw [wrap_small (n := j + 1) (by omega) (by omega)]; show ((kl : Int) - (j + 1)).toNat < ((kl : Int) - j).toNat; omega))
        | fail "no step")
  · unfold tLStepsL0
    repeat' (first
      | (first
        | (with_reducible refine st_need ?_ ?_
           focus (simp only [dn, reduceCtorEq, hp, va_map] <;> first | omega | assumption))
        | (with_reducible refine st_and ?_ ?_)
        | (with_reducible exact st_ok)
        | (with_reducible refine st_br (fun hc => ?_) (fun hc => ?_) <;> (simp only [dn, reduceCtorEq, hp, va_map] at hc) <;> (try (exfalso; first | contradiction | omega)))
        | (refine st_call (by rfl) (by simp only [dn, reduceCtorEq, hp, va_map] <;> rfl) ?_ (by simp only [out_awk] <;> rfl) (by simp only [dn] <;> rfl) ?_
           focus (first | rfl))
        | (with_reducible refine st_ret (by simp only [dn, reduceCtorEq, hp, va_map] <;> rfl) ?_
           (first | rfl | exact ⟨_, rfl⟩)))
      | fail "no step")
end Go.Proofs.YtdldcofddfkkbaaGreat
/- The law of limbos beside the document: its walk (printed by gen_lm.py). -/
namespace Go.Proofs.YtdldcofddfkkbaaGreat
set_option linter.unusedVariables false
set_option linter.unusedSimpArgs false
set_option linter.unusedSectionVars false
open Go Go.RowKit

theorem fineFillK {M : MemSt} (h : M.fine) (t l s : Int) : ∀ k, k ≤ 4096 → (fillK M t l s k).fine
  | 0, _ => fine_store h ⟨by decide, by decide⟩
  | k + 1, hk => fine_store (fineFillK h t l s k (by omega)) (by split <;> exact ⟨by omega, by omega⟩)
theorem fineFillR {M : MemSt} (h : M.fine) (a : Int) {x : Int} (hx : isW x) : ∀ k, (fillR M a x k).fine
  | 0 => h
  | k + 1 => fine_store (fineFillR h a hx k) hx
theorem fineFill13 {M : MemSt} (h : M.fine) (t l s g w ea ep ec tp : Int) : (fill13 M t l s g w ea ep ec tp).fine := by
  have h10 : (fill10 M t l s).fine := by
    unfold fill10
    split
    · exact fineFillK h _ _ _ _ (by omega)
    · exact h
  have h11 : (fill11 M t l s g w).fine := by
    unfold fill11
    split
    · exact fineFillR (fine_store h10 isW0) _ ⟨by decide, by decide⟩ _
    · exact h
  have h12 : (fill12 (fill11 M t l s g w) ea ep ec).fine := by
    unfold fill12
    split
    · exact fineFillR (fine_store h11 isW0) _ isW0 _
    · exact h11
  exact fineFillR h12 _ isW0 _
theorem ints10 {bs : List Int} (h : bs.length = 10) : ∃ a0 a1 a2 a3 a4 a5 a6 a7 a8 a9, bs = [a0, a1, a2, a3, a4, a5, a6, a7, a8, a9] := by
  match bs, h with
  | [a0, a1, a2, a3, a4, a5, a6, a7, a8, a9], _ => exact ⟨_, _, _, _, _, _, _, _, _, _, rfl⟩
theorem f13_facts {t l s g w m ea ep ec tp c : Int} (h : fits13D t l s g w m ea ep ec tp c = 0) : (1 ≤ c ∧ c ≤ 4096) ∧ 1 ≤ s ∧ s ≤ 4096 ∧ ec ≤ 64 ∧ 0 ≤ m ∧ m ≤ 4294967295 := by
  obtain ⟨h1, h2, _⟩ := fits13D_facts h
  have h3 := fits10_facts (fits11D_facts h1)
  have h4 := fits12_facts h2
  have hm : 1 ≤ m ∧ m ≤ 4294967295 := by
    have h1' := h1
    unfold fits11D at h1'
    by_cases g0 : c < 1 ∨ 4096 < c
    · rw [if_pos g0] at h1'; exact absurd h1' (by decide)
    · rw [if_neg g0] at h1'
      by_cases g1 : m < 1 ∨ 4294967295 < m
      · rw [if_pos (.inr (by omega))] at h1'; exact absurd h1' (by decide)
      · omega
  omega
theorem hctsMg : ∀ (ci : Nat) (c : Ctr U), ctsMg[ci]? = some c → c.Holds objs Tryz.prog := by
  intro ci c h
  match ci, h with
  | 0, h => cases h; exact hPick
  | 1, h => cases h; exact hLFits
  | 2, h => cases h; exact hDF13
  | 3, h => cases h; exact hNew
  | 4, h => cases h; exact hQNew
  | 5, h => cases h; exact hLFill
  | 6, h => cases h; exact hQLFill
  | 7, h => cases h; exact hStore
  | 8, h => cases h; exact hQStore
  | 9, h => cases h; exact hRNew
  | 10, h => cases h; exact hQRNew
  | 11, h => cases h; exact hCNew
  | 12, h => cases h; exact hQCNew
  | 13, h => cases h; exact hBStep
  | 14, h => cases h; exact hLast
  | 15, h => cases h; exact hQLast
  | 16, h => cases h; exact hCount
  | 17, h => cases h; exact hQCount
  | 18, h => cases h; exact hWords
  | 19, h => cases h; exact hQWords
  | 20, h => cases h; exact hSameWords
  | 21, h => cases h; exact hAh
  | n + 22, h => cases h
set_option maxRecDepth 10000 in
set_option maxHeartbeats 4000000 in
theorem bLSB (P : Program) (hs : List (Nat × Nat × List Nat)) : ∀ env, ls2Inv env → tLStepsL0.sat { cxMg P [lLS1, lLS2] with hints := hs } (ctrR cLSteps) env := by
  rintro env ⟨t, ls, s, g, wo, lm, ea, ep, ec, tp, z, gi, ki, ci, gl, kl, cl, x17, x18, x19, x20, x21, x22, x23, x24, x25, x26, x27, x28, M, o0, o1, o2, o3, j, rfl, h1, h2, h3, h4, hM, ⟨f1, f2, f3, f4, f5⟩, hw, k0, k1, k2, k3⟩
  rcases pick4 (x := gl j.toNat 0) with hp | hp | hp | hp
  · exact bLS0 P hs h1 h2 h3 h4 hM f1 f2 f3 f4 f5 hw k0 k1 k2 k3 hp
  · exact bLS1 P hs h1 h2 h3 h4 hM f1 f2 f3 f4 f5 hw k0 k1 k2 k3 hp
  · exact bLS2 P hs h1 h2 h3 h4 hM f1 f2 f3 f4 f5 hw k0 k1 k2 k3 hp
  · exact bLS3 P hs h1 h2 h3 h4 hM f1 f2 f3 f4 f5 hw k0 k1 k2 k3 hp
set_option maxRecDepth 10000 in
set_option maxHeartbeats 4000000 in
theorem bLSA (P : Program) (hs : List (Nat × Nat × List Nat)) : ∀ env, ls1Inv env → tLStepsL1.sat { cxMg P [lLS1, lLS2] with hints := hs } (ctrR cLSteps) env := by
  rintro env ⟨t, ls, s, g, wo, lm, ea, ep, ec, tp, z, gi, ki, ci, gl, kl, cl, x17, x18, x19, x20, x21, x22, x23, x24, x25, M, j, rfl, h1, h2, h3, h3', h4, hM, hF, hv, hw⟩
  have hl := hM.1
  unfold tLStepsL1
  repeat' (first
    | (first
      | (with_reducible refine st_need ?_ ?_
         focus (simp only [dn, reduceCtorEq, hl, va_map] <;> first | omega | assumption))
      | (with_reducible refine st_and ?_ ?_)
      | (with_reducible exact st_ok)
      | (with_reducible refine st_br (fun hc => ?_) (fun hc => ?_) <;> (simp only [dn, reduceCtorEq, hl, va_map] at hc) <;> (try (exfalso; first | contradiction | omega)))
      | (refine st_call (by rfl) (by simp only [dn, reduceCtorEq, hl, va_map] <;> rfl) ?_ (by simp only [out_store, fo_store] <;> rfl) (by simp only [dn] <;> rfl) ?_
         focus (first | exact ⟨_, _, _, rfl⟩ | exact ⟨_, _, _, rfl, hM.1⟩))
      | (with_reducible refine st_ret (by simp only [dn, reduceCtorEq, hl, va_map] <;> rfl) ?_
         (first | rfl | exact ⟨_, rfl⟩)))
    | (refine st_mk (by rfl) (by simp only [List.map_nil] <;> rfl) (by rfl) (by simp only [dn] <;> rfl) ?_)
    | (refine st_back (by rfl) (by simp only [dn, reduceCtorEq, hl, va_map] <;> rfl) (by simp only [dn] <;> rfl) (by rfl) ?_ ?_
       focus (rw [wrap_small (n := j + 1) (by omega) (by omega)]
              exact ⟨_, _, _, _, _, _, _, _, _, _, _, _, _, _, _, _, _, _, _, _, _, _, _, _, _, _, _, _, rfl, by omega, by omega, h3, h3', by rw [len_store]; exact h4, fine_store hM (hv _ (by omega)), hF, hv, hw⟩)
       focus (rw [wrap_small (n := j + 1) (by omega) (by omega)]; show ((ki : Int) - (j + 1)).toNat < ((ki : Int) - j).toNat; omega))
    | (refine st_loop (by rfl) (by simp only [dn, reduceCtorEq, hl, va_map] <;> rfl) (by simp only [dn] <;> rfl) ?_ (fun env' h => bLSB P hs env' h)
       exact ⟨_, _, _, _, _, _, _, _, _, _, _, _, _, _, _, _, _, _, _, _, _, _, _, _, _, _, _, _, _, _, .no, .no, .no, .no, _, rfl, by omega, by omega, by omega, h4, hM, hF, hw, trivial, trivial, trivial, trivial⟩)
    | fail "no step")
set_option maxRecDepth 10000 in
set_option maxHeartbeats 4000000 in
theorem vLSteps (P : Program) (hs : List (Nat × Nat × List Nat)) : ∀ ins, ins.length = cLSteps.nin → cLSteps.pre ins → tLSteps.sat { cxMg P [lLS1, lLS2] with hints := hs } (ctrR cLSteps) ins := by
  rintro ins _ ⟨t, ls, s, g, wo, lm, ea, ep, ec, tp, z, gi, ki, ci, gl, kl, cl, rfl, hg, htp, hv, hw⟩
  have he := fits13_eq (t := t) (l := ls) (s := s) (g := g) (w := wo) (m := lm) (ea := ea) (ep := ep) (ec := ec) (tp := tp) (c := z) hg htp
  by_cases h0 : fits13D t ls s g wo lm ea ep ec tp z = 0
  · obtain ⟨hs1, hF⟩ := f13_facts h0
    have e1 := out_new hs1.1 hs1.2
    have e2 := out_qnew hs1.1 hs1.2
    have e3 : ((MemSt.new z).W.length : Int) = z := by show ((List.replicate z.toNat (0 : Int)).length : Int) = z; rw [List.length_replicate]; omega
    have e4 : (MemSt.new z).W.length ≤ 4096 := by omega
    unfold tLSteps
    repeat' (first
      | (first
        | (with_reducible refine st_need ?_ ?_
           focus (simp only [dn, reduceCtorEq, h0, cmp_self, va_map] <;> first | omega | assumption))
        | (with_reducible refine st_and ?_ ?_)
        | (with_reducible exact st_ok)
        | (with_reducible refine st_br (fun hc => ?_) (fun hc => ?_) <;> (simp only [dn, reduceCtorEq, h0, cmp_self, va_map] at hc) <;> (try (exfalso; first | contradiction | omega)))
        | (refine st_call (by rfl) (by simp only [dn, reduceCtorEq, h0, cmp_self, va_map] <;> rfl) ?_ (by simp only [out_lfits, out_df13, he, h0, out_awk, e1, e2, out_LFill, out_QLFill] <;> rfl) (by simp only [dn] <;> rfl) ?_
           focus (first | exact ⟨_, _, _, _, _, _, _, _, _, _, _, rfl⟩ | exact ⟨_, rfl⟩ | rfl | exact ⟨_, _, _, _, _, _, _, _, _, _, _, rfl⟩ | exact ⟨_, _, _, _, _, _, _, _, _, _, _, rfl, e4⟩))
        | (with_reducible refine st_ret (by simp only [dn, reduceCtorEq, h0, cmp_self, va_map] <;> rfl) ?_
           (first | rfl | exact ⟨_, rfl⟩)))
      | (refine st_loop (by rfl) (by simp only [dn, reduceCtorEq, h0, va_map] <;> rfl) (by simp only [dn] <;> rfl) ?_ (fun env' h => bLSA P hs env' h)
         exact ⟨_, _, _, _, _, _, _, _, _, _, _, _, _, _, _, _, _, _, _, _, _, _, _, _, _, _, _, _, rfl, by omega, by omega, by omega, by omega, by rw [len_fill13]; omega, fineFill13 (fine_new hs1.2) _ _ _ _ _ _ _ _ _, hF, hv, hw⟩)
      | fail "no step")
  · unfold tLSteps
    repeat' (first
      | (first
        | (with_reducible refine st_need ?_ ?_
           focus (simp only [dn, reduceCtorEq, h0, cmp_self, va_map] <;> first | omega | assumption))
        | (with_reducible refine st_and ?_ ?_)
        | (with_reducible exact st_ok)
        | (with_reducible refine st_br (fun hc => ?_) (fun hc => ?_) <;> (simp only [dn, reduceCtorEq, h0, cmp_self, va_map] at hc) <;> (try (exfalso; first | contradiction | omega)))
        | (refine st_call (by rfl) (by simp only [dn, reduceCtorEq, h0, cmp_self, va_map] <;> rfl) ?_ (by simp only [out_lfits, out_df13, he, out_awk] <;> rfl) (by simp only [dn] <;> rfl) ?_
           focus (first | exact ⟨_, _, _, _, _, _, _, _, _, _, _, rfl⟩ | rfl))
        | (with_reducible refine st_ret (by simp only [dn, reduceCtorEq, h0, cmp_self, va_map] <;> rfl) ?_
           (first | rfl | exact ⟨_, rfl⟩)))
      | fail "no step")
theorem hLSteps : cLSteps.Holds objs Tryz.prog := runCtr_holds (X := { cxMg Tryz.prog [lLS1, lLS2] with hints := hsLSteps }) objsOk mixed hctsMg (callable _ Tryz.func5 (by kernel_rfl) (by kernel_rfl)) (by rintro ins _ ⟨_, _, _, _, _, _, _, _, _, _, _, _, _, _, _, _, _, rfl, _⟩; rfl) (by rw [rLSteps]; exact vLSteps _ _)
theorem limboSteps_walk {v1 v2 : Value} {n1 c1 n2 c2 : Nat} {g1 g2 : Nat → Nat → Int} (t ls s g wo lm ea ep ec tp z : Int) (W : World) (hg : isI g) (htp : isI tp) (h1 : SliceAt W [some .u64] v1 n1 c1 g1) (h2 : SliceAt W actTs v2 n2 c2 g2) : Calls Tryz.prog 5 #[.agg #[.int .i64 t, .int .i64 ls, .int .i64 s, .int .i64 g, .int .i64 wo, .int .i64 lm, .int .i64 ea, .int .i64 ep, .int .i64 ec, .int .i64 tp], .int .i64 z, v1, v2] W fun e W' => e = .returned (.bool true) ∧ Below W.heap.size W W' :=
  hLSteps.law rfl (ins := [.i t, .i ls, .i s, .i g, .i wo, .i lm, .i ea, .i ep, .i ec, .i tp, .i z, .f g1 n1, .i n1, .i c1, .f g2 n2, .i n2, .i c2]) (ρ := [ptrOf v1, ptrOf v2]) (vals := [.agg #[.int .i64 t, .int .i64 ls, .int .i64 s, .int .i64 g, .int .i64 wo, .int .i64 lm, .int .i64 ea, .int .i64 ep, .int .i64 ec, .int .i64 tp], .int .i64 z, v1, v2]) rfl ⟨_, _, _, _, _, _, _, _, _, _, _, _, _, _, _, _, _, rfl, hg, htp, fun j hj => wf_isW (h1.2.1 j hj 0 .u64 rfl), fun j hj => wf_isI (h2.2.1 j hj 3 .i64 rfl)⟩ rfl
    (DenL.cons ⟨fun _ _ => rfl, trivial, trivial, trivial, trivial, trivial, trivial, trivial, trivial, trivial, trivial, trivial⟩ (DenL.cons ⟨fun _ _ => rfl, trivial⟩ (DenL.cons (h1.den rfl (by simp) rfl rfl) (DenL.cons (h2.den rfl (by simp) rfl rfl) DenL.nil))))
    (Sat.inputs rfl (by intro m e hm; match m, hm with | 0, hm => cases hm; exact .inl ⟨_, _, rfl, h1.ro rfl⟩ | 1, hm => cases hm; exact .inl ⟨_, _, rfl, h2.ro rfl⟩ | m + 2, hm => cases hm))
end Go.Proofs.YtdldcofddfkkbaaGreat
