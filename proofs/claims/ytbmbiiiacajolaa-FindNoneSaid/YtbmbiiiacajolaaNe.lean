/- FindNone: its walk. -/
import Derived.Test.YtbmbiiiacajolaaNb
import Derived.Test.YtbmbiiiacajolaaFa
namespace Go.Proofs.Ytbmbiiiacajolaa
set_option linter.unusedVariables false
set_option linter.unusedSimpArgs false
set_option linter.unusedSectionVars false
open Go Go.RowKit

set_option maxRecDepth 100000 in
theorem hSB : (cSB).Holds objs Try.prog := runCtr_holds (X := cx Try.prog []) (fuel := 40) (opens := []) (folds := []) objsOk mixed noCtsJ (callable _ Try.func61 (by kernel_rfl) (by kernel_rfl)) (by rintro ins _ ⟨_, _, _, _, _, _, _, _, _, _, _, _, _, rfl⟩; rfl) (by intro ins h1 h2; rw [rSB]; exact vSB _ ins h1 h2)
set_option maxRecDepth 100000 in
theorem hRSB : (cRSB).Holds objs Try.prog := runCtr_holds (X := cx Try.prog []) (fuel := 40) (opens := []) (folds := []) objsOk mixed noCtsJ (callable _ Try.func39 (by kernel_rfl) (by kernel_rfl)) (by rintro ins _ ⟨_, _, _, _, _, _, _, _, _, _, _, _, _, rfl⟩; rfl) (by intro ins h1 h2; rw [rRSB]; exact vRSB _ ins h1 h2)
theorem hctsNT : ∀ (ci : Nat) (c : Ctr U), ctsNT[ci]? = some c → c.Holds objs Try.prog := by
  intro ci c h
  match ci, h with
  | 0, h => cases h; exact cSnd_of hSB
  | 1, h => cases h; exact cSnd_of hRSB
  | 2, h => cases h; exact hFa
  | n + 3, h => cases h
theorem hctsNF : ∀ (ci : Nat) (c : Ctr U), ctsNF[ci]? = some c → c.Holds objs Try.prog := by
  intro ci c h
  match ci, h with
  | 0, h => cases h; exact cSnd_of hSB
  | 1, h => cases h; exact cSnd_of hRSB
  | 2, h => cases h; exact hFa
  | n + 3, h => cases h
set_option maxRecDepth 100000 in
theorem hFNU : (cFNoneU).Holds objs Try.prog := runCtr_holds (X := cxNF Try.prog) (fuel := 40) (opens := []) (folds := []) objsOk mixed hctsNF (callable _ Try.func5 (by kernel_rfl) (by kernel_rfl)) (by rintro ins _ ⟨_, _, _, _, _, _, _, _, _, _, _, _, _, _, rfl, _⟩; rfl) (by intro ins h1 h2; rw [rFNU]; exact vFNU _ ins h1 h2)
set_option maxRecDepth 100000 in
theorem hFNA : (cFNone 1).Holds objs Try.prog := runCtr_holds (X := cxNT Try.prog) (fuel := 40) (opens := []) (folds := []) objsOk mixed hctsNT (callable _ Try.func5 (by kernel_rfl) (by kernel_rfl)) (by rintro ins _ ⟨_, _, _, _, _, _, _, _, _, _, _, _, _, _, rfl, _, _⟩; rfl) (by intro ins h1 h2; rw [rFNA]; exact vFNA _ ins h1 h2)
set_option maxRecDepth 100000 in
theorem hFNB : (cFNone 2).Holds objs Try.prog := runCtr_holds (X := cxNT Try.prog) (fuel := 40) (opens := []) (folds := []) objsOk mixed hctsNT (callable _ Try.func5 (by kernel_rfl) (by kernel_rfl)) (by rintro ins _ ⟨_, _, _, _, _, _, _, _, _, _, _, _, _, _, rfl, _, _⟩; rfl) (by intro ins h1 h2; rw [rFNB]; exact vFNB _ ins h1 h2)
set_option maxRecDepth 100000 in
theorem hFNC : (cFNone 3).Holds objs Try.prog := runCtr_holds (X := cxNT Try.prog) (fuel := 40) (opens := []) (folds := []) objsOk mixed hctsNT (callable _ Try.func5 (by kernel_rfl) (by kernel_rfl)) (by rintro ins _ ⟨_, _, _, _, _, _, _, _, _, _, _, _, _, _, rfl, _, _⟩; rfl) (by intro ins h1 h2; rw [rFNC]; exact vFNC _ ins h1 h2)
set_option maxRecDepth 100000 in
theorem hFND : (cFNone 4).Holds objs Try.prog := runCtr_holds (X := cxNT Try.prog) (fuel := 40) (opens := []) (folds := []) objsOk mixed hctsNT (callable _ Try.func5 (by kernel_rfl) (by kernel_rfl)) (by rintro ins _ ⟨_, _, _, _, _, _, _, _, _, _, _, _, _, _, rfl, _, _⟩; rfl) (by intro ins h1 h2; rw [rFND]; exact vFND _ ins h1 h2)
theorem findNone_walk (a0 a1 a2 a3 a4 a5 a6 a7 a8 a9 a10 a11 a12 k : Int) (W : World) (hk : isW k) : Calls Try.prog 5 #[.agg #[.int .i64 a0, .int .i64 a1, .int .i64 a2, .int .i64 a3, .int .i64 a4, .int .i64 a5, .int .i64 a6, .int .i64 a7, .int .i64 a8, .int .i64 a9, .int .i64 a10, .int .i64 a11, .int .i64 a12], .int .u64 k] W fun e W' => e = .returned (.bool true) ∧ Below W.heap.size W W' := by
  cases ho : okT a0 a1 a2 a5 with
  | false =>
    exact hFNU.law rfl (ins := [.i a0, .i a1, .i a2, .i a3, .i a4, .i a5, .i a6, .i a7, .i a8, .i a9, .i a10, .i a11, .i a12, .i k]) (ρ := []) (vals := [.agg #[.int .i64 a0, .int .i64 a1, .int .i64 a2, .int .i64 a3, .int .i64 a4, .int .i64 a5, .int .i64 a6, .int .i64 a7, .int .i64 a8, .int .i64 a9, .int .i64 a10, .int .i64 a11, .int .i64 a12], .int .u64 k]) rfl ⟨_, _, _, _, _, _, _, _, _, _, _, _, _, _, rfl, ho⟩ rfl
      ⟨fun _ _ => rfl, ⟨⟨trivial, trivial, trivial, trivial, trivial, trivial, trivial, trivial, trivial, trivial, trivial, trivial, trivial, trivial⟩, trivial, trivial⟩⟩ (Sat.inputs rfl (by intro n e h; simp [cFNoneU] at h))
  | true =>
    have hw := okT_t ho
    have hc : a2 = 1 ∨ a2 = 2 ∨ a2 = 3 ∨ a2 = 4 := by omega
    rcases hc with rfl | rfl | rfl | rfl
    · exact hFNA.law rfl (ins := [.i a0, .i a1, .i 1, .i a3, .i a4, .i a5, .i a6, .i a7, .i a8, .i a9, .i a10, .i a11, .i a12, .i k]) (ρ := []) (vals := [.agg #[.int .i64 a0, .int .i64 a1, .int .i64 1, .int .i64 a3, .int .i64 a4, .int .i64 a5, .int .i64 a6, .int .i64 a7, .int .i64 a8, .int .i64 a9, .int .i64 a10, .int .i64 a11, .int .i64 a12], .int .u64 k]) rfl ⟨_, _, _, _, _, _, _, _, _, _, _, _, _, _, rfl, rfl, ho⟩ rfl
        ⟨fun _ _ => rfl, ⟨⟨trivial, trivial, trivial, trivial, trivial, trivial, trivial, trivial, trivial, trivial, trivial, trivial, trivial, trivial⟩, trivial, trivial⟩⟩ (Sat.inputs rfl (by intro n e h; simp [cFNone] at h))
    · exact hFNB.law rfl (ins := [.i a0, .i a1, .i 2, .i a3, .i a4, .i a5, .i a6, .i a7, .i a8, .i a9, .i a10, .i a11, .i a12, .i k]) (ρ := []) (vals := [.agg #[.int .i64 a0, .int .i64 a1, .int .i64 2, .int .i64 a3, .int .i64 a4, .int .i64 a5, .int .i64 a6, .int .i64 a7, .int .i64 a8, .int .i64 a9, .int .i64 a10, .int .i64 a11, .int .i64 a12], .int .u64 k]) rfl ⟨_, _, _, _, _, _, _, _, _, _, _, _, _, _, rfl, rfl, ho⟩ rfl
        ⟨fun _ _ => rfl, ⟨⟨trivial, trivial, trivial, trivial, trivial, trivial, trivial, trivial, trivial, trivial, trivial, trivial, trivial, trivial⟩, trivial, trivial⟩⟩ (Sat.inputs rfl (by intro n e h; simp [cFNone] at h))
    · exact hFNC.law rfl (ins := [.i a0, .i a1, .i 3, .i a3, .i a4, .i a5, .i a6, .i a7, .i a8, .i a9, .i a10, .i a11, .i a12, .i k]) (ρ := []) (vals := [.agg #[.int .i64 a0, .int .i64 a1, .int .i64 3, .int .i64 a3, .int .i64 a4, .int .i64 a5, .int .i64 a6, .int .i64 a7, .int .i64 a8, .int .i64 a9, .int .i64 a10, .int .i64 a11, .int .i64 a12], .int .u64 k]) rfl ⟨_, _, _, _, _, _, _, _, _, _, _, _, _, _, rfl, rfl, ho⟩ rfl
        ⟨fun _ _ => rfl, ⟨⟨trivial, trivial, trivial, trivial, trivial, trivial, trivial, trivial, trivial, trivial, trivial, trivial, trivial, trivial⟩, trivial, trivial⟩⟩ (Sat.inputs rfl (by intro n e h; simp [cFNone] at h))
    · exact hFND.law rfl (ins := [.i a0, .i a1, .i 4, .i a3, .i a4, .i a5, .i a6, .i a7, .i a8, .i a9, .i a10, .i a11, .i a12, .i k]) (ρ := []) (vals := [.agg #[.int .i64 a0, .int .i64 a1, .int .i64 4, .int .i64 a3, .int .i64 a4, .int .i64 a5, .int .i64 a6, .int .i64 a7, .int .i64 a8, .int .i64 a9, .int .i64 a10, .int .i64 a11, .int .i64 a12], .int .u64 k]) rfl ⟨_, _, _, _, _, _, _, _, _, _, _, _, _, _, rfl, rfl, ho⟩ rfl
        ⟨fun _ _ => rfl, ⟨⟨trivial, trivial, trivial, trivial, trivial, trivial, trivial, trivial, trivial, trivial, trivial, trivial, trivial, trivial⟩, trivial, trivial⟩⟩ (Sat.inputs rfl (by intro n e h; simp [cFNone] at h))
end Go.Proofs.Ytbmbiiiacajolaa
