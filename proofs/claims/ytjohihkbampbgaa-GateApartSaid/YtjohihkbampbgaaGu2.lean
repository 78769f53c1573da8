/- Passes apart: what the contracts say. -/
import Derived.Test.YtjohihkbampbgaaGzd
namespace Go.Proofs.Ytjohihkbampbgaa
set_option linter.unusedVariables false
set_option linter.unusedSimpArgs false
set_option linter.unusedSectionVars false
open Go Go.RowKit

theorem out_newP (f n t a w : Int) : cNewP.out [.i f, .i n, .i t, .i a, .i w] = [.u (.pass (newP f n t a w))] := rfl
theorem opA_n : opA none = .passNil := rfl
theorem opA_s {P : PassSt} : opA (some P) = .pass P := rfl
theorem ap_W {W W' : List Int} {k L j t a n m q : Int} {o : Option PassSt} (h : W' = W) (h' : apOk W k L j o t a n m q) : apOk W' k L j o t a n m q := h ▸ h'
theorem ap_m {W : List Int} {k L j t a n m q : Int} {P : PassSt} (h : apOk W k L j (some P) t a n m q) : m ≤ 2 * q + 1 := by
  rcases h.2 P rfl with ⟨w, _, a1, _⟩ | ⟨w, _, _, _, _, ⟨_, a1, _⟩ | ⟨a1, _⟩⟩ <;> omega
theorem ends_soon {P : PassSt} {a n c : Int} (he : errP P = 13) (h : 0 ≤ c ∧ (n < c ∨ n - c < a)) (hd : IntKind.i64.wrap (n - c) = n - c) : endsB P a n c c = true := by
  have e : soonE a n c = true := by unfold soonE; rw [hd, decide_eq_true_eq]; omega
  simp [endsB, he, e]
theorem ends_held {P : PassSt} {a n b : Int} (he : errP P = 0) (h : ¬ (0 ≤ b ∧ (n < b ∨ n - b < a))) (hd : IntKind.i64.wrap (n - b) = n - b) : endsB P a n b n = true := by
  have e : soonE a n b = false := by unfold soonE; rw [hd, decide_eq_false_iff_not]; omega
  simp [endsB, he, e]
theorem out_ends0 (P : PassSt) (u1 u2 t0 : EV U) (a0 n0 : Int) (m0 q0 t1 a1 n1 m1 q1 t2 a2 n2 m2 q2 : EV U) (w v : Int) : cEnds0.out [.u (.pass P), u1, u2, t0, .i a0, .i n0, m0, q0, t1, a1, n1, m1, q1, t2, a2, n2, m2, q2, .i w, .i v] = [.u (.pass P), .b (endsB P a0 n0 w v)] := rfl
theorem out_ends1 (P : PassSt) (u0 u2 t0 a0 n0 m0 q0 t1 : EV U) (a1 n1 : Int) (m1 q1 t2 a2 n2 m2 q2 : EV U) (w v : Int) : cEnds1.out [u0, .u (.pass P), u2, t0, a0, n0, m0, q0, t1, .i a1, .i n1, m1, q1, t2, a2, n2, m2, q2, .i w, .i v] = [.u (.pass P), .b (endsB P a1 n1 w v)] := rfl
theorem out_ends2 (P : PassSt) (u0 u1 t0 a0 n0 m0 q0 t1 a1 n1 m1 q1 t2 : EV U) (a2 n2 : Int) (m2 q2 : EV U) (w v : Int) : cEnds2.out [u0, u1, .u (.pass P), t0, a0, n0, m0, q0, t1, a1, n1, m1, q1, t2, .i a2, .i n2, m2, q2, .i w, .i v] = [.u (.pass P), .b (endsB P a2 n2 w v)] := rfl
end Go.Proofs.Ytjohihkbampbgaa
