import Derived.Test.YtdabdbbgaekmdaaGreatDmM
import Derived.Test.YtdabdbbgaekmdaaGreatAdM
import Derived.Test.YtdabdbbgaekmdaaGreatSw
import Derived.Test.YtdabdbbgaekmdaaGreatTw
/- The law of jobs beside the document: its walk (printed by gen_db.py). -/
namespace Go.Proofs.YtdabdbbgaekmdaaGreat
set_option linter.unusedVariables false
set_option linter.unusedSimpArgs false
set_option linter.unusedSectionVars false
open Go Go.RowKit

theorem fineFillK {M : MemSt} (h : M.fine) (t l s : Int) : ∀ k, k ≤ 4096 → (fillK M t l s k).fine
  | 0, _ => fine_store h ⟨by decide, by decide⟩
  | k + 1, hk => fine_store (fineFillK h t l s k (by omega)) (by split <;> exact ⟨by omega, by omega⟩)
theorem fineFillJ {M : MemSt} (h : M.fine) (st ks : Int) : ∀ k, (fillJ M st ks k).fine
  | 0 => h
  | k + 1 => fine_store (fine_store (fineFillJ h st ks k) ⟨by decide, by decide⟩) ⟨by decide, by decide⟩
theorem fineFill24 {M : MemSt} (h : M.fine) (st ks t ls s : Int) : (fill24 M st ks t ls s).fine := by
  have h10 : (fill10 M t ls s).fine := by
    unfold fill10
    split
    · exact fineFillK h _ _ _ _ (by omega)
    · exact h
  unfold fill24
  split
  · exact fineFillJ h10 _ _ _
  · exact h
theorem ints5 {bs : List Int} (h : bs.length = 5) : ∃ a0 a1 a2 a3 a4, bs = [a0, a1, a2, a3, a4] := by
  match bs, h with
  | [a0, a1, a2, a3, a4], _ => exact ⟨_, _, _, _, _, rfl⟩
theorem f24_facts {st ks t ls s c : Int} (h : fits24 st ks t ls s c = 0) : (1 ≤ c ∧ c ≤ 4096) ∧ 1 ≤ s ∧ s ≤ 64 := by
  by_cases hc : c < 1 ∨ 4096 < c
  · rw [f24_3 hc] at h; omega
  · by_cases h1 : fits10 t ls s c = 0 ∧ s ≤ 64 ∧ ok24 st ks t ls s c
    · rcases fits10_or (t := t) (l := ls) (s := s) hc with e | ⟨e, ⟨a1, a2⟩, _⟩
      · rw [e] at h1; omega
      · omega
    · rw [f24_2 hc h1] at h; omega
theorem hctsDk : ∀ (ci : Nat) (c : Ctr U), ctsDk[ci]? = some c → c.Holds objs Tryz.prog := by
  intro ci c h
  match ci, h with
  | 0, h => cases h; exact hPick
  | 1, h => cases h; exact hJFits
  | 2, h => cases h; exact hQFits
  | 3, h => cases h; exact hNew
  | 4, h => cases h; exact hQNew
  | 5, h => cases h; exact hJFill
  | 6, h => cases h; exact hQJFill
  | 7, h => cases h; exact hStore
  | 8, h => cases h; exact hQStore
  | 9, h => cases h; exact hNTk
  | 10, h => cases h; exact hQNTk
  | 11, h => cases h; exact hNGv
  | 12, h => cases h; exact hQNGv
  | 13, h => cases h; exact hNTu
  | 14, h => cases h; exact hQNTu
  | 15, h => cases h; exact hNKy
  | 16, h => cases h; exact hQNKy
  | 17, h => cases h; exact hNKo
  | 18, h => cases h; exact hQNKo
  | 19, h => cases h; exact hBStep
  | 20, h => cases h; exact hBAlike
  | 21, h => cases h; exact hAlA
  | 22, h => cases h; exact hAlB
  | 23, h => cases h; exact hAlC
  | 24, h => cases h; exact hAlD
  | 25, h => cases h; exact hAlE
  | 26, h => cases h; exact hAll
  | 27, h => cases h; exact hLast
  | 28, h => cases h; exact hQLast
  | 29, h => cases h; exact hCount
  | 30, h => cases h; exact hQCount
  | 31, h => cases h; exact hWords
  | 32, h => cases h; exact hQWords
  | 33, h => cases h; exact hSameWords
  | 34, h => cases h; exact hAd
  | n + 35, h => cases h
set_option maxRecDepth 10000 in
set_option maxHeartbeats 4000000 in
theorem bJSB (P : Program) (hs : List (Nat × Nat × List Nat)) : ∀ env, js2Inv env → tJStepsL0.sat { cxDk2 P [lJS1, lJS2] with hints := hs } (ctrR cJSteps) env := by
  rintro env ⟨st, ks, t, ls, s, z, gi, ki, ci, gl, kl, cl, x12, x13, x14, x15, x16, x17, x18, x19, x20, x21, x22, x23, M, o0, o1, o2, o3, j, rfl, h1, h2, h3, h4, hM, ⟨f1, f2⟩, hw, k0, k1, k2, k3⟩
  rcases pick4 (x := gl j.toNat 0) with hp | hp | hp | hp
  · exact bJS0 P hs h1 h2 h3 h4 hM f1 f2 hw k0 k1 k2 k3 hp
  · exact bJS1 P hs h1 h2 h3 h4 hM f1 f2 hw k0 k1 k2 k3 hp
  · exact bJS2 P hs h1 h2 h3 h4 hM f1 f2 hw k0 k1 k2 k3 hp
  · exact bJS3 P hs h1 h2 h3 h4 hM f1 f2 hw k0 k1 k2 k3 hp
set_option maxRecDepth 10000 in
set_option maxHeartbeats 4000000 in
theorem bJSA (P : Program) (hs : List (Nat × Nat × List Nat)) : ∀ env, js1Inv env → tJStepsL1.sat { cxDk2 P [lJS1, lJS2] with hints := hs } (ctrR cJSteps) env := by
  rintro env ⟨st, ks, t, ls, s, z, gi, ki, ci, gl, kl, cl, x12, x13, x14, x15, x16, x17, x18, x19, x20, M, j, rfl, h1, h2, h3, h3', h4, hM, hF, hv, hw⟩
  have hl := hM.1
  unfold tJStepsL1
  repeat' (first
    | (first
      | (with_reducible refine st_need ?_ ?_
         focus (simp only [dn, reduceCtorEq, hl, va_map] <;> first | omega | assumption))
      | (with_reducible refine st_and ?_ ?_)
      | (with_reducible exact st_ok)
      | (with_reducible refine st_br (fun hc => ?_) (fun hc => ?_) <;> (simp only [dn, reduceCtorEq, hl, va_map] at hc) <;> (try (exfalso; first | contradiction | omega)))
      | (refine st_call (by rfl) (by simp only [dn, reduceCtorEq, hl, va_map] <;> rfl) ?_ (by simp only [out_store, fo_store] <;> rfl) (by simp only [dn] <;> rfl) ?_
         focus (first | exact ⟨_, _, _, rfl⟩ | exact ⟨_, _, _, rfl, hM.1⟩))
      | (with_reducible refine st_ret (by simp only [dn, reduceCtorEq, hl, va_map] <;> rfl) ?_
         (first | rfl | exact ⟨_, rfl⟩)))
    | (refine st_mk (by rfl) (by simp only [List.map_nil] <;> rfl) (by rfl) (by simp only [dn] <;> rfl) ?_)
    | (refine st_back (by rfl) (by simp only [dn, reduceCtorEq, hl, va_map] <;> rfl) (by simp only [dn] <;> rfl) (by rfl) ?_ ?_
       focus (rw [wrap_small (n := j + 1) (by omega) (by omega)]
              exact ⟨_, _, _, _, _, _, _, _, _, _, _, _, _, _, _, _, _, _, _, _, _, _, _, rfl, by omega, by omega, h3, h3', by rw [len_store]; exact h4, fine_store hM (hv _ (by omega)), hF, hv, hw⟩)
       focus (rw [wrap_small (n := j + 1) (by omega) (by omega)]; show ((ki : Int) - (j + 1)).toNat < ((ki : Int) - j).toNat; omega))
    | (refine st_loop (by rfl) (by simp only [dn, reduceCtorEq, hl, va_map] <;> rfl) (by simp only [dn] <;> rfl) ?_ (fun env' h => bJSB P hs env' h)
       exact ⟨_, _, _, _, _, _, _, _, _, _, _, _, _, _, _, _, _, _, _, _, _, _, _, _, _, .no, .no, .no, .no, _, rfl, by omega, by omega, by omega, h4, hM, hF, hw, trivial, trivial, trivial, trivial⟩)
    | fail "no step")
set_option maxRecDepth 10000 in
set_option maxHeartbeats 4000000 in
theorem vJSteps (P : Program) (hs : List (Nat × Nat × List Nat)) : ∀ ins, ins.length = cJSteps.nin → cJSteps.pre ins → tJSteps.sat { cxDk2 P [lJS1, lJS2] with hints := hs } (ctrR cJSteps) ins := by
  rintro ins _ ⟨st, ks, t, ls, s, z, gi, ki, ci, gl, kl, cl, rfl, hv, hw⟩
  by_cases h0 : fits24 st ks t ls s z = 0
  · obtain ⟨hs1, hF⟩ := f24_facts h0
    have e1 := out_new hs1.1 hs1.2
    have e2 := out_qnew hs1.1 hs1.2
    have e3 : ((MemSt.new z).W.length : Int) = z := by show ((List.replicate z.toNat (0 : Int)).length : Int) = z; rw [List.length_replicate]; omega
    have e4 : (MemSt.new z).W.length ≤ 4096 := by omega
    unfold tJSteps
    repeat' (first
      | (first
        | (with_reducible refine st_need ?_ ?_
           focus (simp only [dn, reduceCtorEq, h0, cmp_self, va_map] <;> first | omega | assumption))
        | (with_reducible refine st_and ?_ ?_)
        | (with_reducible exact st_ok)
        | (with_reducible refine st_br (fun hc => ?_) (fun hc => ?_) <;> (simp only [dn, reduceCtorEq, h0, cmp_self, va_map] at hc) <;> (try (exfalso; first | contradiction | omega)))
        | (refine st_call (by rfl) (by simp only [dn, reduceCtorEq, h0, cmp_self, va_map] <;> rfl) ?_ (by simp only [out_jfits, out_qfits, h0, out_awk, e1, e2, out_jfill, out_qjfill] <;> rfl) (by simp only [dn] <;> rfl) ?_
           focus (first | exact ⟨_, _, _, _, _, _, rfl⟩ | exact ⟨_, rfl⟩ | rfl | exact ⟨_, _, _, _, _, _, rfl, e4⟩))
        | (with_reducible refine st_ret (by simp only [dn, reduceCtorEq, h0, cmp_self, va_map] <;> rfl) ?_
           (first | rfl | exact ⟨_, rfl⟩)))
      | (refine st_loop (by rfl) (by simp only [dn, reduceCtorEq, h0, va_map] <;> rfl) (by simp only [dn] <;> rfl) ?_ (fun env' h => bJSA P hs env' h)
         exact ⟨_, _, _, _, _, _, _, _, _, _, _, _, _, _, _, _, _, _, _, _, _, _, _, rfl, by omega, by omega, by omega, by omega, by rw [len_fill24]; omega, fineFill24 (fine_new hs1.2) _ _ _ _ _, hF, hv, hw⟩)
      | fail "no step")
  · unfold tJSteps
    repeat' (first
      | (first
        | (with_reducible refine st_need ?_ ?_
           focus (simp only [dn, reduceCtorEq, h0, cmp_self, va_map] <;> first | omega | assumption))
        | (with_reducible refine st_and ?_ ?_)
        | (with_reducible exact st_ok)
        | (with_reducible refine st_br (fun hc => ?_) (fun hc => ?_) <;> (simp only [dn, reduceCtorEq, h0, cmp_self, va_map] at hc) <;> (try (exfalso; first | contradiction | omega)))
        | (refine st_call (by rfl) (by simp only [dn, reduceCtorEq, h0, cmp_self, va_map] <;> rfl) ?_ (by simp only [out_jfits, out_qfits, out_awk] <;> rfl) (by simp only [dn] <;> rfl) ?_
           focus (first | exact ⟨_, _, _, _, _, _, rfl⟩ | rfl))
        | (with_reducible refine st_ret (by simp only [dn, reduceCtorEq, h0, cmp_self, va_map] <;> rfl) ?_
           (first | rfl | exact ⟨_, rfl⟩)))
      | fail "no step")
theorem hJSteps : cJSteps.Holds objs Tryz.prog := runCtr_holds (X := { cxDk2 Tryz.prog [lJS1, lJS2] with hints := hsJSteps }) objsOk mixed hctsDk (callable _ Tryz.func4 (by kernel_rfl) (by kernel_rfl)) (by rintro ins _ ⟨_, _, _, _, _, _, _, _, _, _, _, _, rfl, _⟩; rfl) (by rw [rJSteps]; exact vJSteps _ _)
theorem jobSteps_walk {v1 v2 : Value} {n1 c1 n2 c2 : Nat} {g1 g2 : Nat → Nat → Int} (st ks t ls s z : Int) (W : World) (h1 : SliceAt W [some .u64] v1 n1 c1 g1) (h2 : SliceAt W actTs v2 n2 c2 g2) : Calls Tryz.prog 4 #[.agg #[.int .i64 st, .int .i64 ks, .int .i64 t, .int .i64 ls, .int .i64 s], .int .i64 z, v1, v2] W fun e W' => e = .returned (.bool true) ∧ Below W.heap.size W W' :=
  hJSteps.law rfl (ins := [.i st, .i ks, .i t, .i ls, .i s, .i z, .f g1 n1, .i n1, .i c1, .f g2 n2, .i n2, .i c2]) (ρ := [ptrOf v1, ptrOf v2]) (vals := [.agg #[.int .i64 st, .int .i64 ks, .int .i64 t, .int .i64 ls, .int .i64 s], .int .i64 z, v1, v2]) rfl ⟨_, _, _, _, _, _, _, _, _, _, _, _, rfl, fun j hj => wf_isW (h1.2.1 j hj 0 .u64 rfl), fun j hj => wf_isW (h2.2.1 j hj 6 .u64 rfl)⟩ rfl
    (DenL.cons ⟨fun _ _ => rfl, trivial, trivial, trivial, trivial, trivial, trivial⟩ (DenL.cons ⟨fun _ _ => rfl, trivial⟩ (DenL.cons (h1.den rfl (by simp) rfl rfl) (DenL.cons (h2.den rfl (by simp) rfl rfl) DenL.nil))))
    (Sat.inputs rfl (by intro m e hm; match m, hm with | 0, hm => cases hm; exact .inl ⟨_, _, rfl, h1.ro rfl⟩ | 1, hm => cases hm; exact .inl ⟨_, _, rfl, h2.ro rfl⟩ | m + 2, hm => cases hm))
end Go.Proofs.YtdabdbbgaekmdaaGreat
