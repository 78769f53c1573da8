/- InsertNone: its walk. -/
import Derived.Test.YtdldcofddfkkbaaGreatIn
namespace Go.Proofs.YtdldcofddfkkbaaGreat
set_option linter.unusedVariables false
set_option linter.unusedSimpArgs false
set_option linter.unusedSectionVars false
open Go Go.RowKit

theorem insertNone_walk (n : Int) (W : World) : Calls Tryz.prog 8 #[.int .i64 n] W fun e W' => e = .returned (.bool true) ∧ Below W.heap.size W W' :=
  hIn.law rfl (ins := [.i n]) (ρ := []) (vals := [.int .i64 n]) rfl ⟨_, rfl⟩ rfl ⟨fun _ _ => rfl, trivial, trivial⟩ (Sat.inputs rfl (by intro n e h; simp [boolC1] at h))
end Go.Proofs.YtdldcofddfkkbaaGreat
