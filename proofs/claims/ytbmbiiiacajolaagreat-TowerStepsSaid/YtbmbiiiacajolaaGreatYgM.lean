import Derived.Test.YtbmbiiiacajolaaGreatTw
import Derived.Test.YtbmbiiiacajolaaGreatVd
import Derived.ProofKit
import Derived.OpenShut
import Derived.ChangeOld
import Derived.Lib.SmallJoins
import Derived.Deep.Slices
import Derived.Deep.Fields
import Derived.Test.YtbmbiiiacajolaaGreatYfM
import Derived.Test.YtbmbiiiacajolaaGreatAeM
import Derived.Test.YtbmbiiiacajolaaGreatXaM
import Derived.Test.YtbmbiiiacajolaaGreatSw
/- Structs of numbers within structs, opened, with their ranges. No program is named here. -/
namespace Go.Proofs.YtbmbiiiacajolaaGreat
set_option linter.unusedVariables false
set_option linter.unusedSimpArgs false
set_option linter.unusedSectionVars false
open Go Go.ChangeShapes Go.WideShapes Go.ChangeAt Go.RowKit Go.Joins Go.Deep

theorem wf_isI {x : Int} (h : (Lit.int .i64 x).wf = true) : isI x := by
  simp [Lit.wf, IntKind.min, IntKind.max, IntKind.bits, IntKind.signed] at h
  exact ⟨by omega, by omega⟩
section
variable {H : Type} {enc : TypeId × Value → H} {P : Program} {w : World} {base : Nat} {spare : Nat → Bool} {held : Bool}
theorem intCellI : ∀ (m : Nat) (t : TypeId) (j : Nat), intCell P m t j = true → ∀ (fuel : Nat) (cs : List Value) (x : DataW H × List MemPlace), DataW.trod enc P w base spare held fuel t cs = some x → j < cs.length → ∃ n, cs[j]? = some (.int .i64 n) ∧ isI n
  | 0, _, _, h, _, _, _, _, _ => by cases h
  | m + 1, t, j, h, fuel, cs, x, hx, hj => by
    unfold intCell at h
    split at h
    · rename_i k hu
      simp only [Bool.and_eq_true, decide_eq_true_eq] at h
      obtain ⟨rfl, rfl⟩ := h
      obtain ⟨n, rfl, _, wf⟩ := DataW.trod_int hu hx
      exact ⟨n, rfl, wf_isI wf⟩
    · rename_i fs hu
      rw [List.any_eq_true] at h
      obtain ⟨f, hf, h⟩ := h
      simp only [Bool.and_eq_true, decide_eq_true_eq] at h
      obtain ⟨h1, h2, h3⟩ := h
      obtain ⟨xs, n, _, rfl, hl, hlen, hall⟩ := DataW.trod_struct hu hx
      obtain ⟨i, hi⟩ := List.getElem?_of_mem hf
      have hi' : fs[i]? = some f := by simpa using hi
      have hlt : i < fs.size := (Array.getElem?_eq_some_iff.1 hi').1
      have h4 := hall i f hi'
      rw [List.getElem?_eq_getElem (by omega)] at h4
      obtain ⟨a, ha, wa⟩ := intCellI m f.type (j - f.offset) h3 n _ _ h4 (by simp; omega)
      refine ⟨a, ?_, wa⟩
      rw [List.getElem?_take, if_pos (by omega), List.getElem?_drop] at ha
      rw [← ha]
      congr 1
      omega
    · cases h
theorem open_intsI {r : Reach} {b0 m : Nat} {t : TypeId} {fs : Array Field} {v : Value} {d : DataW H} {p : List MemPlace} (hs : P.underlying t = some (.struct fs)) (hC : P.cellsOf t = m) (hall : (List.range m).all (intCell P 8 t) = true)
    (hv : Value.okWide P w r b0 t v) (h : DataW.Trod enc P w base spare held t v d p) : ∃ bs : List Int, bs.length = m ∧ (∀ x ∈ bs, isI x) ∧ v = .agg (bs.map (Value.int .i64)).toArray := by
  obtain ⟨cs, rfl, hsz⟩ := okWide_struct hs hv
  obtain ⟨fuel, hf⟩ := h
  have hsz' : cs.size = m := hsz.trans hC
  have key : ∀ j, j < m → ∃ n, cs.toList[j]? = some (.int .i64 n) ∧ isI n := fun j hj => by
    rw [List.all_eq_true] at hall
    exact intCellI 8 t j (hall j (by simpa using hj)) fuel _ _ hf (by simpa [Value.cells, hsz'] using hj)
  obtain ⟨l⟩ := cs
  simp only [List.size_toArray] at hsz'
  clear hf hs hsz hall hv
  suffices ∃ bs : List Int, bs.length = m ∧ (∀ x ∈ bs, isI x) ∧ l = bs.map (Value.int .i64) by
    obtain ⟨bs, h1, h2, rfl⟩ := this
    exact ⟨bs, h1, h2, rfl⟩
  refine ⟨l.map fun c => match c with | .int _ n => n | _ => 0, by simp [hsz'], ?_, ?_⟩
  · intro x hx
    obtain ⟨c, hc, rfl⟩ := List.mem_map.1 hx
    obtain ⟨j, hj⟩ := List.getElem?_of_mem hc
    have hjl : j < l.length := (List.getElem?_eq_some_iff.1 hj).1
    obtain ⟨n, hn, hi⟩ := key j (by omega)
    simp only at hn
    rw [hj] at hn
    cases hn
    exact hi
  rw [List.map_map]
  apply List.ext_getElem?
  intro j
  by_cases hj : j < m
  · obtain ⟨n, hn, _⟩ := key j hj
    simp only at hn
    rw [List.getElem?_map, hn]
    rfl
  · rw [List.getElem?_eq_none (by omega), List.getElem?_eq_none (by simp; omega)]
end
end Go.Proofs.YtbmbiiiacajolaaGreat
/- The law of towers beside the document: its walk (printed by gen_yg.py). -/
namespace Go.Proofs.YtbmbiiiacajolaaGreat
set_option linter.unusedVariables false
set_option linter.unusedSimpArgs false
set_option linter.unusedSectionVars false
open Go Go.RowKit

theorem fineFillK {M : MemSt} (h : M.fine) (t l s : Int) : ∀ k, k ≤ 4096 → (fillK M t l s k).fine
  | 0, _ => fine_store h ⟨by decide, by decide⟩
  | k + 1, hk => fine_store (fineFillK h t l s k (by omega)) (by split <;> exact ⟨by omega, by omega⟩)
theorem fineFillR {M : MemSt} (h : M.fine) (a : Int) {x : Int} (hx : isW x) : ∀ k, (fillR M a x k).fine
  | 0 => h
  | k + 1 => fine_store (fineFillR h a hx k) hx
theorem fineFill15 {M : MemSt} (h : M.fine) (n hh a t l s g w ea ep ec tp : Int) : (fill15 M n hh a t l s g w ea ep ec tp).fine := by
  have h10 : (fill10 M t l s).fine := by
    unfold fill10
    split
    · exact fineFillK h _ _ _ _ (by omega)
    · exact h
  have h11 : (fill11 M t l s g w).fine := by
    unfold fill11
    split
    · exact fineFillR (fine_store h10 isW0) _ ⟨by decide, by decide⟩ _
    · exact h
  have h12 : (fill12 (fill11 M t l s g w) ea ep ec).fine := by
    unfold fill12
    split
    · exact fineFillR (fine_store h11 isW0) _ isW0 _
    · exact h11
  unfold fill15
  split
  · exact fineFillR (fineFillR h12 _ isW0 _) _ isW0 _
  · exact h
theorem hctsYd : ∀ (ci : Nat) (c : Ctr U), ctsYd[ci]? = some c → c.Holds objs Tryz.prog := by
  intro ci c h
  match ci, h with
  | 0, h => cases h; exact hPick
  | 1, h => cases h; exact hTFits
  | 2, h => cases h; exact hDF15
  | 3, h => cases h; exact hNew
  | 4, h => cases h; exact hQNew
  | 5, h => cases h; exact hTFill
  | 6, h => cases h; exact hQTFill
  | 7, h => cases h; exact hStore
  | 8, h => cases h; exact hQStore
  | 9, h => cases h; exact hSeen
  | 10, h => cases h; exact hNewLay
  | 11, h => cases h; exact hQNewLay
  | 12, h => cases h; exact hLayStep
  | 13, h => cases h; exact hQLayStep
  | 14, h => cases h; exact hLayErr
  | 15, h => cases h; exact hQLayErr
  | 16, h => cases h; exact hLayBy
  | 17, h => cases h; exact hQLayBy
  | 18, h => cases h; exact hLast
  | 19, h => cases h; exact hQLast
  | 20, h => cases h; exact hCount
  | 21, h => cases h; exact hQCount
  | 22, h => cases h; exact hWords
  | 23, h => cases h; exact hQWords
  | 24, h => cases h; exact hSameWords
  | 25, h => cases h; exact hAe
  | n + 26, h => cases h
set_option maxRecDepth 10000 in
set_option maxHeartbeats 4000000 in
theorem bTSB (P : Program) (hs : List (Nat × Nat × List Nat)) : ∀ env, ts2Inv env → tTStepsL0.sat { cxYd P [lTS1, lTS2] with hints := hs } (ctrR cTSteps) env := by
  rintro env ⟨a0, a1, a2, a3, a4, a5, a6, a7, a8, a9, a10, a11, a12, s, gi, ki, ci, gl, kl, cl, vi, vl, x22, x23, x24, x25, x26, x27, x28, x29, x30, x31, x32, x33, x34, x35, x36, M, o0, o1, o2, i, rfl, h1, h2, h3, h4, hM, ht, hw, k0, k1, k2⟩
  rcases pick3 (x := gl i.toNat 0) with hp | hp | hp
  · exact bTS0 P hs h1 h2 h3 h4 hM ht hw k0 k1 k2 hp
  · exact bTS1 P hs h1 h2 h3 h4 hM ht hw k0 k1 k2 hp
  · exact bTS2 P hs h1 h2 h3 h4 hM ht hw k0 k1 k2 hp
set_option maxRecDepth 10000 in
set_option maxHeartbeats 4000000 in
theorem bTSA (P : Program) (hs : List (Nat × Nat × List Nat)) : ∀ env, ts1Inv env → tTStepsL1.sat { cxYd P [lTS1, lTS2] with hints := hs } (ctrR cTSteps) env := by
  rintro env ⟨a0, a1, a2, a3, a4, a5, a6, a7, a8, a9, a10, a11, a12, s, gi, ki, ci, gl, kl, cl, vi, vl, x22, x23, x24, x25, x26, x27, x28, x29, x30, M, i, rfl, h1, h2, h3, h3', h4, hM, ht, hv, hw⟩
  have hl := hM.1
  unfold tTStepsL1
  repeat' (first
    | (first
      | (with_reducible refine st_need ?_ ?_
         focus (simp only [dn, reduceCtorEq, hl] <;> first | omega | assumption))
      | (with_reducible refine st_and ?_ ?_)
      | (with_reducible exact st_ok)
      | (with_reducible refine st_br (fun hc => ?_) (fun hc => ?_) <;> (simp only [dn, reduceCtorEq, hl] at hc) <;> (try (exfalso; first | contradiction | omega)))
      | (refine st_call (by rfl) (by simp only [dn, reduceCtorEq, hl] <;> rfl) ?_ (by simp only [out_store, fo_store, out_seen] <;> rfl) (by simp only [dn] <;> rfl) ?_
         focus (first | exact ⟨_, _, _, rfl⟩ | exact ⟨_, _, _, rfl, hM.1⟩ | exact ⟨_, _, _, _, _, _, _, _, _, _, _, _, _, _, _, _, rfl, hM, ht⟩))
      | (with_reducible refine st_ret (by simp only [dn, reduceCtorEq, hl] <;> rfl) ?_
         (first | rfl | exact ⟨_, rfl⟩)))
    | with_reducible refine mk_layNil rfl (by simp only [dn] <;> rfl) ?_
    | with_reducible refine mk_rlayNil rfl (by simp only [dn] <;> rfl) ?_
    | (refine st_back (by rfl) (by simp only [dn, reduceCtorEq, hl] <;> rfl) (by simp only [dn] <;> rfl) (by rfl) ?_ ?_
       focus (rw [wrap_small (n := i + 1) (by omega) (by omega)]
              exact ⟨_, _, _, _, _, _, _, _, _, _, _, _, _, _, _, _, _, _, _, _, _, _, _, _, _, _, _, _, _, _, _, _, _, rfl, by omega, by omega, h3, h3', by rw [len_store]; exact h4, fine_store hM (hv _ (by omega)), ht, hv, hw⟩)
       focus (rw [wrap_small (n := i + 1) (by omega) (by omega)]; show ((ki : Int) - (i + 1)).toNat < ((ki : Int) - i).toNat; omega))
    | (refine st_loop (by rfl) (by simp only [dn, reduceCtorEq, hl] <;> rfl) (by simp only [dn] <;> rfl) ?_ (fun env' h => bTSB P hs env' h)
       exact ⟨_, _, _, _, _, _, _, _, _, _, _, _, _, _, _, _, _, _, _, _, _, _, _, _, _, _, _, _, _, _, _, _, _, _, _, _, _, _, none, none, none, _, rfl, by omega, by omega, by omega, h4, hM, ht, hw, lh_none, lh_none, lh_none⟩)
    | fail "no step")
set_option maxRecDepth 10000 in
set_option maxHeartbeats 4000000 in
theorem vTSteps (P : Program) (hs : List (Nat × Nat × List Nat)) : ∀ ins, ins.length = cTSteps.nin → cTSteps.pre ins → tTSteps.sat { cxYd P [lTS1, lTS2] with hints := hs } (ctrR cTSteps) ins := by
  rintro ins _ ⟨a0, a1, a2, a3, a4, a5, a6, a7, a8, a9, a10, a11, a12, s, gi, ki, ci, gl, kl, cl, vi, vl, rfl, hg, htp, hv, hw⟩
  have he := fits15_eq (n := a0) (h := a1) (a := a2) (t := a3) (l := a4) (s := a5) (g := a6) (w := a7) (m := a8) (ea := a9) (ep := a10) (ec := a11) (tp := a12) (c := s) hg htp
  by_cases h0 : fits15D a0 a1 a2 a3 a4 a5 a6 a7 a8 a9 a10 a11 a12 s = 0
  · have hf := (fits15_facts (he.trans h0)).1
    have ht : okT a0 a1 a2 a5 = true := hf.1
    have hs1 : 1 ≤ s ∧ s ≤ 4096 := by
      have h0' := he.trans h0
      unfold fits15 at h0'
      by_cases g : s < 1 ∨ 4096 < s
      · rw [if_pos g] at h0'; exact absurd h0' (by decide)
      · omega
    have e1 := out_new hs1.1 hs1.2
    have e2 := out_qnew hs1.1 hs1.2
    have e3 : ((MemSt.new s).W.length : Int) = s := by show ((List.replicate s.toNat (0 : Int)).length : Int) = s; rw [List.length_replicate]; omega
    have e4 : (MemSt.new s).W.length ≤ 4096 := by omega
    unfold tTSteps
    repeat' (first
      | (first
        | (with_reducible refine st_need ?_ ?_
           focus (simp only [dn, reduceCtorEq, h0] <;> first | omega | assumption))
        | (with_reducible refine st_and ?_ ?_)
        | (with_reducible exact st_ok)
        | (with_reducible refine st_br (fun hc => ?_) (fun hc => ?_) <;> (simp only [dn, reduceCtorEq, h0] at hc) <;> (try (exfalso; first | contradiction | omega)))
        | (refine st_call (by rfl) (by simp only [dn, reduceCtorEq, h0] <;> rfl) ?_ (by simp only [out_tfits, out_dfits, he, h0, out_awk, e1, e2, out_TFill, out_QTFill] <;> rfl) (by simp only [dn] <;> rfl) ?_
           focus (first | exact ⟨_, _, _, _, _, _, _, _, _, _, _, _, _, _, rfl⟩ | exact ⟨_, rfl⟩ | rfl | exact ⟨_, _, _, _, _, _, _, _, _, _, _, _, _, _, rfl⟩ | exact ⟨_, _, _, _, _, _, _, _, _, _, _, _, _, _, rfl, e4⟩))
        | (with_reducible refine st_ret (by simp only [dn, reduceCtorEq, h0] <;> rfl) ?_
           (first | rfl | exact ⟨_, rfl⟩)))
      | (refine st_loop (by rfl) (by simp only [dn, reduceCtorEq, h0] <;> rfl) (by simp only [dn] <;> rfl) ?_ (fun env' h => bTSA P hs env' h)
         exact ⟨_, _, _, _, _, _, _, _, _, _, _, _, _, _, _, _, _, _, _, _, _, _, _, _, _, _, _, _, _, _, _, _, _, rfl, by omega, by omega, by omega, by omega, by rw [len_fill15]; omega, fineFill15 (fine_new hs1.2) _ _ _ _ _ _ _ _ _ _ _ _, ht, hv, hw⟩)
      | fail "no step")
  · unfold tTSteps
    repeat' (first
      | (first
        | (with_reducible refine st_need ?_ ?_
           focus (simp only [dn, reduceCtorEq, h0] <;> first | omega | assumption))
        | (with_reducible refine st_and ?_ ?_)
        | (with_reducible exact st_ok)
        | (with_reducible refine st_br (fun hc => ?_) (fun hc => ?_) <;> (simp only [dn, reduceCtorEq, h0] at hc) <;> (try (exfalso; first | contradiction | omega)))
        | (refine st_call (by rfl) (by simp only [dn, reduceCtorEq, h0] <;> rfl) ?_ (by simp only [out_tfits, out_dfits, he, out_awk] <;> rfl) (by simp only [dn] <;> rfl) ?_
           focus (first | exact ⟨_, _, _, _, _, _, _, _, _, _, _, _, _, _, rfl⟩ | exact ⟨_, rfl⟩ | rfl))
        | (with_reducible refine st_ret (by simp only [dn, reduceCtorEq, h0] <;> rfl) ?_
           (first | rfl | exact ⟨_, rfl⟩)))
      | fail "no step")
theorem hTSteps : cTSteps.Holds objs Tryz.prog := runCtr_holds (X := { cxYd Tryz.prog [lTS1, lTS2] with hints := hsTSteps }) objsOk mixed hctsYd (callable _ Tryz.func4 (by kernel_rfl) (by kernel_rfl)) (by rintro ins _ ⟨_, _, _, _, _, _, _, _, _, _, _, _, _, _, _, _, _, _, _, _, _, _, rfl, _⟩; rfl) (by rw [rTSteps]; exact vTSteps _ _)
theorem towerSteps_walk {v1 v2 : Value} {n1 c1 n2 c2 : Nat} {g1 g2 : Nat → Nat → Int} (a0 a1 a2 a3 a4 a5 a6 a7 a8 a9 a10 a11 a12 s vi vl : Int) (W : World) (hg : isI a6) (htp : isI a12) (h1 : SliceAt W [some .u64] v1 n1 c1 g1) (h2 : SliceAt W actTs v2 n2 c2 g2) : Calls Tryz.prog 4 #[.agg #[.int .i64 a0, .int .i64 a1, .int .i64 a2, .int .i64 a3, .int .i64 a4, .int .i64 a5, .int .i64 a6, .int .i64 a7, .int .i64 a8, .int .i64 a9, .int .i64 a10, .int .i64 a11, .int .i64 a12], .int .i64 s, v1, v2, .int .i64 vi, .int .i64 vl] W fun e W' => e = .returned (.bool true) ∧ Below W.heap.size W W' :=
  hTSteps.law rfl (ins := [.i a0, .i a1, .i a2, .i a3, .i a4, .i a5, .i a6, .i a7, .i a8, .i a9, .i a10, .i a11, .i a12, .i s, .f g1 n1, .i n1, .i c1, .f g2 n2, .i n2, .i c2, .i vi, .i vl]) (ρ := [ptrOf v1, ptrOf v2]) (vals := [.agg #[.int .i64 a0, .int .i64 a1, .int .i64 a2, .int .i64 a3, .int .i64 a4, .int .i64 a5, .int .i64 a6, .int .i64 a7, .int .i64 a8, .int .i64 a9, .int .i64 a10, .int .i64 a11, .int .i64 a12], .int .i64 s, v1, v2, .int .i64 vi, .int .i64 vl]) rfl ⟨_, _, _, _, _, _, _, _, _, _, _, _, _, _, _, _, _, _, _, _, _, _, rfl, hg, htp, fun j hj => wf_isW (h1.2.1 j hj 0 .u64 rfl), fun j hj => ⟨wf_isW (h2.2.1 j hj 2 .u64 rfl), wf_isW (h2.2.1 j hj 3 .u64 rfl)⟩⟩ rfl
    (DenL.cons ⟨fun _ _ => rfl, trivial, trivial, trivial, trivial, trivial, trivial, trivial, trivial, trivial, trivial, trivial, trivial, trivial, trivial⟩ (DenL.cons ⟨fun _ _ => rfl, trivial⟩ (DenL.cons (h1.den rfl (by simp) rfl rfl) (DenL.cons (h2.den rfl (by simp) rfl rfl) (DenL.cons ⟨fun _ _ => rfl, trivial⟩ (DenL.cons ⟨fun _ _ => rfl, trivial⟩ DenL.nil))))))
    (Sat.inputs rfl (by intro m e hm; match m, hm with | 0, hm => cases hm; exact .inl ⟨_, _, rfl, h1.ro rfl⟩ | 1, hm => cases hm; exact .inl ⟨_, _, rfl, h2.ro rfl⟩ | m + 2, hm => cases hm))
end Go.Proofs.YtbmbiiiacajolaaGreat
