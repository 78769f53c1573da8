/- States of jobs and their words: JobBack holds; its walk. -/
import Derived.Test.YtdabdbbgaekmdaaJdT
namespace Go.Proofs.Ytdabdbbgaekmdaa
set_option linter.unusedVariables false
set_option linter.unusedSimpArgs false
set_option linter.unusedSectionVars false
open Go Go.RowKit

theorem jobE_0 {s c g : Int} (h : jobE s c g = 0) : ¬ (s < 1 ∨ 5 < s ∨ c < 0 ∨ 64 ≤ c ∨ g < 0 ∨ 4294967295 < g) := by
  intro hc
  unfold jobE at h
  rw [if_pos hc] at h
  cases h
theorem jobW_0 {s c g : Int} (h : jobE s c g = 0) : jobW s c g = s + 256 * c + 4294967296 * g := if_pos h
theorem jobW_is {s c g : Int} (h : jobE s c g = 0) : isW (jobW s c g) := by
  have := jobE_0 h
  rw [jobW_0 h]
  exact ⟨by omega, by omega⟩
theorem back1 {s c g : Int} (h : jobE s c g = 0) : jobG (jobW s c g) = [.i s, .i c, .i g, .i 0] := by
  have h0 := jobE_0 h
  have hw := jobW_0 h
  have e1 : jobW s c g % 256 = s := by rw [hw]; omega
  have e2 : jobW s c g / 256 % 256 = c := by rw [hw]; omega
  have e3 : jobW s c g / 4294967296 = g := by rw [hw]; omega
  have h1 : jobE (jobW s c g % 256) (jobW s c g / 256 % 256) (jobW s c g / 4294967296) = 0 := by rw [e1, e2, e3]; exact h
  have h2 : jobW (jobW s c g % 256) (jobW s c g / 256 % 256) (jobW s c g / 4294967296) = jobW s c g := by rw [e1, e2, e3]
  rw [← jg0 h1 h2, e1, e2, e3]
theorem jobInj {s c g s' c' g' : Int} (h : jobE s c g = 0) (h' : jobE s' c' g' = 0) : (jobW s c g = jobW s' c' g') ↔ (s = s' ∧ c = c' ∧ g = g') := by
  have h0 := jobE_0 h
  have h1 := jobE_0 h'
  rw [jobW_0 h, jobW_0 h']
  constructor
  · intro e
    exact ⟨by omega, by omega, by omega⟩
  · rintro ⟨rfl, rfl, rfl⟩
    rfl
theorem getCases (w : Int) : (∃ a b c, jobG w = [.i a, .i b, .i c, .i 0] ∧ jobE a b c = 0 ∧ jobW a b c = w) ∨ jobG w = [.i 0, .i 0, .i 0, .i 5] := by
  by_cases h1 : jobE (w % 256) (w / 256 % 256) (w / 4294967296) = 0
  · by_cases h2 : jobW (w % 256) (w / 256 % 256) (w / 4294967296) = w
    · exact .inl ⟨_, _, _, (jg0 h1 h2).symm, h1, h2⟩
    · exact .inr (jg5 fun _ => h2).symm
  · exact .inr (jg5 fun h => absurd h h1).symm
theorem vJBack : ∀ ins, ins.length = cJBack.nin → cJBack.pre ins → tJBack.sat (cxJ Try.prog ctsJD) (ctrR cJBack) ins := by
  rintro ins _ ⟨s, c, g, s', c', g', w, rfl, hw⟩
  have inj : ∀ {a b : Int}, (a == b) = decide (a = b) := fun {a b} => rfl
  by_cases h1 : jobE s c g = 0
  · have q1 := back1 h1
    have q2 := jobW_is h1
    rcases getCases w with ⟨p0, p1, p2, e, h3, h4⟩ | e
    all_goals
      by_cases h2 : jobE s' c' g' = 0
      · have q3 := jobInj h1 h2
        simp only [tJBack, Tree.sat, cxJ, cx, ctsJD, cJPut, cJPutF, cJGet, cJGetF, boolC, cJBack, ctrR, Ctr.may, List.take_succ_cons, List.take_zero, List.getElem?_cons_zero, List.getElem?_cons_succ, Bx.den, Ex.den, Bnd.den, gI, gB, List.map_cons, List.map_nil, List.cons_append, List.nil_append, q1, e, cmp_eql_t, cmp_eql_f, h1, h2]
        simp_all [cmpDen]
      · simp only [tJBack, Tree.sat, cxJ, cx, ctsJD, cJPut, cJPutF, cJGet, cJGetF, boolC, cJBack, ctrR, Ctr.may, List.take_succ_cons, List.take_zero, List.getElem?_cons_zero, List.getElem?_cons_succ, Bx.den, Ex.den, Bnd.den, gI, gB, List.map_cons, List.map_nil, List.cons_append, List.nil_append, q1, e, cmp_eql_t, cmp_eql_f, h1]
        simp_all [cmpDen]
  · rcases getCases w with ⟨p0, p1, p2, e, h3, h4⟩ | e
    all_goals
      simp only [tJBack, Tree.sat, cxJ, cx, ctsJD, cJPut, cJPutF, cJGet, cJGetF, boolC, cJBack, ctrR, Ctr.may, List.take_succ_cons, List.take_zero, List.getElem?_cons_zero, List.getElem?_cons_succ, Bx.den, Ex.den, Bnd.den, gI, gB, List.map_cons, List.map_nil, List.cons_append, List.nil_append, e, cmp_eql_t, cmp_eql_f]
      simp_all [cmpDen]
theorem hctsJD : ∀ (ci : Nat) (c : Ctr U), ctsJD[ci]? = some c → c.Holds objs Try.prog := by
  intro ci c h
  match ci, h with
  | 0, h => cases h; exact hJPut
  | 1, h => cases h; exact hJGet
  | 2, h => cases h; exact hJk
  | n + 3, h => cases h
set_option maxRecDepth 100000 in
theorem hJBack : cJBack.Holds objs Try.prog := runCtr_holds (X := cxJ Try.prog ctsJD) (fuel := 40) (opens := []) (folds := []) objsOk mixed hctsJD (callable _ Try.func11 (by kernel_rfl) (by kernel_rfl)) (by rintro ins _ ⟨_, _, _, _, _, _, _, rfl, _⟩; rfl) (by rw [rJBack]; exact vJBack)
theorem jobBack_walk (s c g s' c' g' w : Int) (W : World) (hw : isW w) : Calls Try.prog 11 #[.agg #[.int .i64 s, .int .i64 c, .int .i64 g], .agg #[.int .i64 s', .int .i64 c', .int .i64 g'], .int .u64 w] W fun e W' => e = .returned (.bool true) ∧ Below W.heap.size W W' :=
  hJBack.law rfl (ins := [.i s, .i c, .i g, .i s', .i c', .i g', .i w]) (ρ := []) (vals := [.agg #[.int .i64 s, .int .i64 c, .int .i64 g], .agg #[.int .i64 s', .int .i64 c', .int .i64 g'], .int .u64 w]) rfl ⟨_, _, _, _, _, _, _, rfl, hw⟩ rfl ⟨fun _ _ => rfl, ⟨⟨trivial, trivial, trivial, trivial⟩, ⟨trivial, trivial, trivial, trivial⟩, trivial, trivial⟩⟩ (Sat.inputs rfl (by intro n e h; simp [cJBack] at h))
end Go.Proofs.Ytdabdbbgaekmdaa
