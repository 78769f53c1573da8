/- Jobs, once: the law holds (printed by gen_db.py). -/
import Derived.Test.YtdabdbbgaekmdaaGreatEvEO
import Derived.Test.YtdabdbbgaekmdaaGreatEvMO
import Derived.Test.YtdabdbbgaekmdaaGreatAjMO
namespace Go.Proofs.YtdabdbbgaekmdaaGreat
set_option linter.unusedVariables false
set_option linter.unusedSimpArgs false
set_option linter.unusedSectionVars false
open Go Go.RowKit
theorem hctsEy : ∀ (ci : Nat) (c : Ctr U), ctsEy[ci]? = some c → c.Holds objs Tryz.prog := by
  intro ci c h
  match ci, h with
  | 0, h => cases h; exact hPick
  | 1, h => cases h; exact hNew
  | 2, h => cases h; exact hJFill
  | 3, h => cases h; exact hAj
  | 4, h => cases h; exact hBeg0
  | 5, h => cases h; exact hBeg1
  | 6, h => cases h; exact hBeg2
  | 7, h => cases h; exact hSteps0
  | 8, h => cases h; exact hSteps1
  | 9, h => cases h; exact hSteps2
  | 10, h => cases h; exact hSChain
  | 11, h => cases h; exact hJAll
  | 12, h => cases h; exact hAmong
  | n + 13, h => cases h
set_option maxRecDepth 10000 in
set_option maxHeartbeats 8000000 in
theorem bOnce (P : Program) (hs : List (Nat × Nat × List Nat)) : ∀ env, onInv env → tOnceL4.sat { cxEy P with hints := hs } (ctrR cOnce) env := by
  rintro env ⟨sz, gl, kl, cl, p, x6, x7, x8, M, o0, o1, o2, c0, c1, c2, T, d, cp, C, i, rfl, h1, h2, h3, p0, p5, J, hcp⟩
  have hw : IntKind.i64.wrap (1 + p) = 1 + p := wrap_small (by omega) (by omega)
  by_cases hlt : i < kl
  · obtain ⟨N, hN⟩ : ∃ N, (gl i.toNat 0).emod 600 = N := ⟨_, rfl⟩
    have hN0 : 0 ≤ N := hN ▸ Int.emod_nonneg _ (by decide)
    have hN6 : N < 600 := hN ▸ Int.emod_lt_of_pos _ (by decide)
    rcases pick3 hN0 with hq | hq | hq
    · exact bR0 P hs h1 hlt h3 p0 p5 J hcp hN hN0 hN6 hq
    · exact bR1 P hs h1 hlt h3 p0 p5 J hcp hN hN0 hN6 hq
    · exact bR2 P hs h1 hlt h3 p0 p5 J hcp hN hN0 hN6 hq
  · unfold tOnceL4
    simp only [crIns, List.cons_append, List.nil_append]
    repeat' (first
      | (first
        | (with_reducible refine st_need ?_ ?_
           focus (simp only [dn, reduceCtorEq, hw] <;> first | omega | assumption))
        | (with_reducible refine st_and ?_ ?_)
        | (with_reducible exact st_ok)
        | (with_reducible refine st_br (fun hc => ?_) (fun hc => ?_) <;> (simp only [dn, reduceCtorEq, hw] at hc) <;> (try (exfalso; first | contradiction | omega)))
        | (refine st_call (by rfl) (by simp only [dn, reduceCtorEq, hw] <;> rfl) ?_ (by rfl <;> rfl) (by simp only [dn] <;> rfl) ?_
           focus (first | rfl)))
      | (refine st_loop (by rfl) (by simp only [dn, reduceCtorEq, hw] <;> rfl) (by simp only [dn] <;> rfl) ?_ (fun env' h => bE0 P hs env' h)
         exact ⟨sz, gl, kl, cl, p, x6, x7, x8, _, _, _, _, _, _, _, _, _, _, _, _, _, _, _, _, _, _, _, _, _, _, M, o0, o1, o2, c0, c1, c2, T, d, cp, C, 0, i, rfl, by omega, by have := @rem_le7 M (1 + p) o0; omega, by omega, by omega, p0, p5, J, hcp⟩)
      | fail "no step")
set_option maxRecDepth 10000 in
set_option maxHeartbeats 8000000 in
theorem vOnce (P : Program) (hs : List (Nat × Nat × List Nat)) : ∀ ins, ins.length = cOnce.nin → cOnce.pre ins → tOnce.sat { cxEy P with hints := hs } (ctrR cOnce) ins := by
  rintro ins _ ⟨n, gl, kl, cl, rfl⟩
  obtain ⟨p, hp⟩ : ∃ p, n.emod 5 = p := ⟨_, rfl⟩
  have h4 : 0 ≤ p := hp ▸ Int.emod_nonneg _ (by decide)
  have h5 : p < 5 := hp ▸ Int.emod_lt_of_pos _ (by decide)
  have hw : IntKind.i64.wrap (1 + p) = 1 + p := wrap_small (by omega) (by omega)
  have hw1 : IntKind.i64.wrap (1 + (1 + p)) = 1 + (1 + p) := wrap_small (by omega) (by omega)
  have hw2 : IntKind.i64.wrap (2 * (1 + p)) = 2 * (1 + p) := wrap_small (by omega) (by omega)
  have hw3 : IntKind.i64.wrap (1 + 2 * (1 + p)) = 1 + 2 * (1 + p) := wrap_small (by omega) (by omega)
  have hw4 : IntKind.i64.wrap (3 * (1 + p)) = 3 * (1 + p) := wrap_small (by omega) (by omega)
  have hw5 : IntKind.i64.wrap (1 + 3 * (1 + p)) = 1 + 3 * (1 + p) := wrap_small (by omega) (by omega)
  have hl : (MemSt.new (1 + 3 * (1 + p))).W.length ≤ 4096 := by show (List.replicate _ _).length ≤ _; rw [List.length_replicate]; omega
  unfold tOnce
  repeat' (first
    | (first
      | (with_reducible refine st_need ?_ ?_
         focus (simp only [dn, reduceCtorEq, hp, hw, hw1, hw2, hw3, hw4, hw5, Nil.isNil] <;> first | omega | assumption))
      | (with_reducible refine st_and ?_ ?_)
      | (with_reducible exact st_ok)
      | (with_reducible refine st_br (fun hc => ?_) (fun hc => ?_) <;> (simp only [dn, reduceCtorEq, hp, hw, hw1, hw2, hw3, hw4, hw5, Nil.isNil] at hc) <;> (try (exfalso; first | contradiction | omega)))
      | (refine st_call (by rfl) (by simp only [dn, reduceCtorEq, hp, hw, hw1, hw2, hw3, hw4, hw5, Nil.isNil] <;> rfl) ?_ (by simp only [out_awk, out_pick, hp, hw, out_new (show 1 ≤ 1 + 3 * (1 + p) by omega) (show 1 + 3 * (1 + p) ≤ 4096 by omega), out_filled] <;> rfl) (by simp only [dn] <;> rfl) ?_
         focus (first | rfl | exact ⟨_, rfl⟩ | exact ⟨_, _, _, _, _, _, rfl, hl⟩ | exact pre_pick (by decide) (by decide)))
      | (with_reducible refine st_ret (by simp only [dn, reduceCtorEq, hp, hw, hw1, hw2, hw3, hw4, hw5, Nil.isNil] <;> rfl) ?_
         (first | rfl | exact ⟨_, rfl⟩)))
    | (refine st_mk (by rfl) (by rfl) ?_ (by simp only [List.cons_append, List.nil_append] <;> rfl) ?_
       focus trivial)
    | (refine st_lst (by simp only [List.map_nil, List.cons_append, List.nil_append] <;> rfl) ?_)
    | (refine st_loop (by rfl) (by simp only [dn, reduceCtorEq, hp, hw, hw1, hw2, hw3] <;> rfl) (by simp only [List.take_succ_cons, List.take_zero] <;> rfl) ?_ (fun env' h => bOnce P hs env' h)
       exact ⟨n, gl, kl, cl, p, _, _, _, _, .no, .no, .no, 0, 0, 0, [], [], 0, iot5 (1 + p), 0, rfl, by omega, by omega, by omega, h4, h5, init_ok (by omega) (by omega), rfl⟩)
    | fail "no step")
theorem hOnce : cOnce.Holds objs Tryz.prog := runCtr_holds (X := { cxEy Tryz.prog with hints := hsOnce }) (fuel := 20) (opens := []) (folds := []) objsOk mixed hctsEy (callable _ Tryz.func3 (by kernel_rfl) (by kernel_rfl)) (by rintro ins _ ⟨_, _, _, _, rfl⟩; rfl) (by rw [rOnce]; exact vOnce _ _)
theorem jobOnce_walk {v : Value} {n c : Nat} {g : Nat → Nat → Int} (a : Int) (W : World) (h : SliceAt W [some .i64] v n c g) : Calls Tryz.prog 3 #[.int .i64 a, v] W fun e W' => e = .returned (.bool true) ∧ Below W.heap.size W W' :=
  hOnce.law rfl (ins := [.i a, .f g n, .i n, .i c]) (ρ := [ptrOf v]) (vals := [.int .i64 a, v]) rfl ⟨_, _, _, _, rfl⟩ rfl
    (DenL.cons ⟨fun _ _ => rfl, trivial⟩ (DenL.cons (h.den rfl (by simp) rfl rfl) DenL.nil))
    (Sat.inputs rfl (by intro m e hm; match m, hm with | 0, hm => cases hm; exact .inl ⟨_, _, rfl, h.ro rfl⟩ | m + 1, hm => cases hm))
end Go.Proofs.YtdabdbbgaekmdaaGreat
