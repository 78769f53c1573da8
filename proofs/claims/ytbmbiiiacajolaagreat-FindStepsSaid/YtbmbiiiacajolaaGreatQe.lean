/- The law of Finds beside the document: what the contracts say (printed by gen_qd.py). -/
import Derived.Test.YtbmbiiiacajolaaGreatQdT
import Derived.Test.YtbmbiiiacajolaaGreatQb1
import Derived.Test.YtbmbiiiacajolaaGreatQb2
import Derived.Test.YtbmbiiiacajolaaGreatQb3
import Derived.Test.YtbmbiiiacajolaaGreatQb4
import Derived.Test.YtbmbiiiacajolaaGreatQbQ
namespace Go.Proofs.YtbmbiiiacajolaaGreat
set_option linter.unusedVariables false
set_option linter.unusedSimpArgs false
set_option linter.unusedSectionVars false
open Go Go.RowKit

theorem hFStep : cFStep.Holds objs Tryz.prog := by
  refine ⟨hFStep1.1, ?_, ?_⟩
  · rintro ins outs _ ⟨F, M, rfl, _⟩ h3
    have h3' : outs = _ := h3
    rw [h3']; rfl
  · rintro ins ρ w vals F hl ⟨G, M, rfl, hM⟩ ha hs
    by_cases h1 : G.a 2 = 1
    · exact hFStep1.2.2 _ ρ w vals F hl ⟨G, M, rfl, hM, h1⟩ ha hs
    · by_cases h2 : G.a 2 = 2
      · exact hFStep2.2.2 _ ρ w vals F hl ⟨G, M, rfl, hM, h2⟩ ha hs
      · by_cases h3 : G.a 2 = 3
        · exact hFStep3.2.2 _ ρ w vals F hl ⟨G, M, rfl, hM, h3⟩ ha hs
        · exact hFStep4.2.2 _ ρ w vals F hl ⟨G, M, rfl, hM, h1, h2, h3⟩ ha hs
theorem fhA_n : fhA none = .findNil := rfl
theorem fhA_s (F : FindSt) : fhA (some F) = .find F := rfl
theorem fhB_n : fhB none = .rfindNil := rfl
theorem fhB_s (F : FindSt) : fhB (some F) = .rfind F := rfl
theorem fh_none : fhOk none := fun _ h => by cases h
theorem fh_some {F : FindSt} (h : F.fit) : fhOk (some F) := fun _ e => by cases e; exact h
theorem new_fit {a0 a1 a2 a3 a4 a5 a6 a7 a8 a9 a10 a11 a12 k : Int} (h : okT a0 a1 a2 a5 = true) : (FindSt.new [a0, a1, a2, a3, a4, a5, a6, a7, a8, a9, a10, a11, a12] k a2).fit := by
  obtain ⟨h1, h2, _⟩ := okT_facts h
  have e : (List.replicate a2.toNat (0 : Int)).length ≤ 4 := by rw [List.length_replicate]; omega
  exact ⟨e, e, e⟩
theorem done_fit {F : FindSt} {r : Int} (h : F.fit) : (F.done r).fit := by
  obtain ⟨h1, h2, h3⟩ := h
  unfold FindSt.done
  split <;> exact ⟨by rw [List.length_set]; exact h1, by rw [List.length_set]; exact h2, by rw [List.length_set]; exact h3⟩
theorem looks_fit {F : FindSt} {r : Int} (h : F.fit) : (F.looks r).fit := by
  unfold FindSt.looks
  split
  · exact done_fit h
  · exact h
theorem step_fit {F : FindSt} {M : MemSt} (h : F.fit) : (F.step M).1.fit := by
  have ha : ∀ r, (F.anew r).fit := fun r => h
  unfold FindSt.step
  split
  · show FindSt.fit (if _ then _ else _)
    split
    · exact ha _
    · exact looks_fit h
  · split
    · exact h
    · split
      · show FindSt.fit (if _ then _ else _)
        split
        · exact looks_fit h
        · exact ha _
      · split
        · show FindSt.fit (if _ then _ else _)
          split
          · exact looks_fit h
          · exact done_fit h
        · exact h
theorem step_fine {F : FindSt} {M : MemSt} (hM : M.fine) : (F.step M).2.fine := by
  unfold FindSt.step
  split
  · exact fine_load hM _
  · split
    · exact fine_load hM _
    · split
      · exact fine_cas hM ⟨by omega, by omega⟩
      · split
        · exact fine_load hM _
        · exact hM
theorem step_len {F : FindSt} {M : MemSt} : (F.step M).2.W.length = M.W.length := by
  unfold FindSt.step
  split
  · exact len_load _ _
  · split
    · exact len_load _ _
    · split
      · exact len_cas _ _ _ _
      · split
        · exact len_load _ _
        · rfl
theorem pick3 {x : Int} : x.emod 3 = 0 ∨ x.emod 3 = 1 ∨ x.emod 3 = 2 := by
  have := Int.emod_nonneg x (show (3 : Int) ≠ 0 by decide)
  have := Int.emod_lt_of_pos x (show (0 : Int) < 3 by decide)
  show x % 3 = 0 ∨ x % 3 = 1 ∨ x % 3 = 2
  omega
theorem out_qlast (M : MemSt) : cQLast.out [.u (.rmem M)] = [.u (.rmem M), .i M.k, .i M.a, .i M.o, .i M.n, .b M.h] := rfl
theorem out_qcount (M : MemSt) : cQCount.out [.u (.rmem M)] = [.u (.rmem M), .i M.N] := rfl
theorem out_qnew {n : Int} (h : 1 ≤ n) (h1 : n ≤ 4096) : cQNew.out [.i n] = [.u (.rmem (.new n)), .i 0] := by simp [cQNew, h, h1]
theorem pre_swm {M : MemSt} {c : List Int} (h : M.W.length ≤ 4096) : cSameWords.pre [.l M.W, .l (M.W ++ c), .i M.W.length, .i M.W.length, .i M.W.length, .i ((M.W.length + c.length : Nat) : Int)] :=
  pre_same (by omega) (by omega) (by omega) (by simp; omega) (by omega)
theorem out_swm {M : MemSt} {c : List Int} : cSameWords.out [.l M.W, .l (M.W ++ c), .i M.W.length, .i M.W.length, .i M.W.length, .i ((M.W.length + c.length : Nat) : Int)] = [.b true] := by
  rw [out_same]; simp
theorem qwords {M : MemSt} {k : Tree} {env : List (EV U)} {X : Cx U} {R : List (EV U) → List (EV U) → Prop} {ci : Nat} {β : List Bnd} (hc : X.cts[ci]? = some cQWords) (ha : β.map (Bnd.den env) = [.u (.rmem M)]) (h : 1 ≤ M.W.length) (h1 : M.W.length ≤ 4096)
    (hk : ∀ (c : List Int) (env' : List (EV U)), env ++ [.u (.rmem M), .l (M.W ++ c), .i M.W.length, .i ((M.W.length + c.length : Nat) : Int)] = env' → k.sat X R env') : (Tree.callm ci β k).sat X R env :=
  st_callm hc ha ⟨_, rfl, h, h1⟩ (fun o env' ho he => by obtain ⟨c, rfl⟩ := ho; exact hk c env' he)
theorem out_dfits (n h a t l s g w m ea ep ec tp c : Int) : cDF15.out [.i n, .i h, .i a, .i t, .i l, .i s, .i g, .i w, .i m, .i ea, .i ep, .i ec, .i tp, .i c] = [.i (fits15D n h a t l s g w m ea ep ec tp c)] := rfl
theorem out_fnew (a0 a1 a2 a3 a4 a5 a6 a7 a8 a9 a10 a11 a12 k : Int) : cFNew.out [.i a0, .i a1, .i a2, .i a3, .i a4, .i a5, .i a6, .i a7, .i a8, .i a9, .i a10, .i a11, .i a12, .i k] = [.u (.find (.new [a0, a1, a2, a3, a4, a5, a6, a7, a8, a9, a10, a11, a12] k a2))] := rfl
theorem out_qfnew (a0 a1 a2 a3 a4 a5 a6 a7 a8 a9 a10 a11 a12 k : Int) : cQFNew.out [.i a0, .i a1, .i a2, .i a3, .i a4, .i a5, .i a6, .i a7, .i a8, .i a9, .i a10, .i a11, .i a12, .i k] = [.u (.rfind (.new [a0, a1, a2, a3, a4, a5, a6, a7, a8, a9, a10, a11, a12] k a2))] := rfl
theorem out_fstep (F : FindSt) (M : MemSt) : cFStep.out [.u (.find F), .u (.mem M)] = [.u (.find (F.step M).1), .u (.mem (F.step M).2), .b ((F.step M).1.line == 9)] := rfl
theorem out_qfstep (F : FindSt) (M : MemSt) : cQFStep.out [.u (.rfind F), .u (.rmem M)] = [.u (.rfind (F.step M).1), .u (.rmem (F.step M).2), .b ((F.step M).1.line == 9)] := rfl
theorem out_alike (x y : U) : cAlike.out [.u x, .u y] = [.u x, .u y, .b true] := rfl
theorem out_awk (f : FuncId) : (boolC f).out [] = [.b true] := rfl
section
variable {k : Tree} {env env' : List (EV U)} {X : Cx U} {R : List (EV U) → List (EV U) → Prop}
theorem mk_findNil (hX : X.objs = objs) (he : env ++ [.u .findNil] = env') (hk : k.sat X R env') : (Tree.ext (.mk 15 []) k).sat X R env := st_mk (T := findNilT) (by rw [hX]; rfl) rfl rfl he hk
theorem mk_rfindNil (hX : X.objs = objs) (he : env ++ [.u .rfindNil] = env') (hk : k.sat X R env') : (Tree.ext (.mk 17 []) k).sat X R env := st_mk (T := rfindNilT) (by rw [hX]; rfl) rfl rfl he hk
end
end Go.Proofs.YtbmbiiiacajolaaGreat
