/- Words of states of jobs: the contracts hold; the walk of JobWords. -/
import Derived.Test.YtdabdbbgaekmdaaJwT
namespace Go.Proofs.Ytdabdbbgaekmdaa
set_option linter.unusedVariables false
set_option linter.unusedSimpArgs false
set_option linter.unusedSectionVars false
open Go Go.RowKit

theorem wrapX {n : Int} (h : 0 ≤ n) (h' : n < 18446744073709551616) : IntKind.u64.wrap n = n := by simp [IntKind.wrap, IntKind.signed, IntKind.bits]; omega
theorem shrX (w : Int) (n : Nat) (hn : n < 64) : binDen .shr .u64 w (n : Int) = w / 2 ^ n := by
  show w.fdiv (2 ^ min (n : Int).toNat 64) = w / 2 ^ n
  rw [Int.toNat_natCast, Nat.min_eq_left (by omega), Int.fdiv_eq_ediv_of_nonneg _ (Int.le_of_lt (Int.pow_pos (by omega)))]
theorem shlX {w : Int} (n : Nat) (hn : n < 64) (h : 0 ≤ w) (h' : w * 2 ^ n < 18446744073709551616) : binDen .shl .u64 w (n : Int) = w * 2 ^ n := by
  show IntKind.u64.wrap (w * 2 ^ min (n : Int).toNat 64) = w * 2 ^ n
  rw [Int.toNat_natCast, Nat.min_eq_left (by omega), wrapX (Int.mul_nonneg h (Int.le_of_lt (Int.pow_pos (by omega)))) h']
theorem jobBits {s c g : Int} (h : ¬ (s < 1 ∨ 5 < s ∨ c < 0 ∨ 64 ≤ c ∨ g < 0 ∨ 4294967295 < g)) :
    binDen .or .u64 (binDen .or .u64 (IntKind.u64.wrap s) (binDen .shl .u64 (IntKind.u64.wrap c) 8)) (binDen .shl .u64 (IntKind.u64.wrap g) 32) = s + 256 * c + 4294967296 * g := by
  rw [wrapX (n := s) (by omega) (by omega), wrapX (n := c) (by omega) (by omega), wrapX (n := g) (by omega) (by omega)]
  have e1 := shlX (w := c) 8 (by decide) (by omega) (by omega)
  have e2 := shlX (w := g) 32 (by decide) (by omega) (by omega)
  have e3 := or_add 8 s c (by omega) (by omega) (by omega) (by omega) (by omega)
  have e4 := or_add 32 (s + 256 * c) g (by omega) (by omega) (by omega) (by omega) (by omega)
  have f1 : binDen .shl .u64 c 8 = 2 ^ 8 * c := by rw [Int.mul_comm]; exact e1
  have f2 : binDen .shl .u64 g 32 = 2 ^ 32 * g := by rw [Int.mul_comm]; exact e2
  rw [f1, f2]
  show bits .or .u64 (bits .or .u64 s (2 ^ 8 * c)) (2 ^ 32 * g) = _
  rw [e3]
  exact e4
theorem jl3 {s c g : Int} (h : s < 1 ∨ 5 < s ∨ c < 0 ∨ 64 ≤ c ∨ g < 0 ∨ 4294967295 < g) : ([.i 0, .i 3] : List (EV U)) = [.i (jobW s c g), .i (jobE s c g)] := by
  have e : jobE s c g = 3 := if_pos h
  rw [jobW, e]; rfl
theorem jl5 {s c g : Int} (h : ¬ (s < 1 ∨ 5 < s ∨ c < 0 ∨ 64 ≤ c ∨ g < 0 ∨ 4294967295 < g)) (h2 : c ≠ 0 ∧ s ≠ 4) : ([.i 0, .i 5] : List (EV U)) = [.i (jobW s c g), .i (jobE s c g)] := by
  have e : jobE s c g = 5 := by unfold jobE; rw [if_neg h, if_pos h2]
  rw [jobW, e]; rfl
theorem jl0 {s c g x : Int} (h : ¬ (s < 1 ∨ 5 < s ∨ c < 0 ∨ 64 ≤ c ∨ g < 0 ∨ 4294967295 < g)) (h2 : ¬ (c ≠ 0 ∧ s ≠ 4)) (hx : x = s + 256 * c + 4294967296 * g) : ([.i x, .i 0] : List (EV U)) = [.i (jobW s c g), .i (jobE s c g)] := by
  have e : jobE s c g = 0 := by unfold jobE; rw [if_neg h, if_neg h2]
  rw [jobW, e, hx]; rfl
theorem jobT {X : Cx U} {R : List (EV U) → List (EV U) → Prop} {s c g : Int} (h : ∀ o, o = [.i (jobW s c g), .i (jobE s c g)] → R [.i s, .i c, .i g] o) (t : Tree) (ht : t = tJPut ∨ t = tQPut) : t.sat X R [.i s, .i c, .i g] := by
  rcases ht with rfl | rfl
  all_goals
    simp only [tJPut, tQPut, Tree.sat, Bx.den, Ex.den, Bnd.den, gI, List.map_cons, List.map_nil, List.getElem?_cons_zero, List.getElem?_cons_succ, cmp_eql_t, cmp_eql_f, cmp_lss_t, cmp_lss_f, cmp_geq_t, cmp_geq_f, cmp_gtr_t, cmp_gtr_f, cmp_leq_t, cmp_leq_f, Bool.false_eq_true, ne_eq]
    repeat' (first | apply And.intro | intro _)
    all_goals first
      | exact h _ (jl3 (by omega))
      | exact h _ (jl5 (by omega) (by omega))
      | exact h _ (jl0 (by omega) (by omega) (jobBits (by omega)))
      | (exfalso; omega)
set_option maxRecDepth 100000 in
theorem hJPut : cJPut.Holds objs Try.prog := runCtr_holds (X := cxJ Try.prog []) (fuel := 40) (opens := []) (folds := []) objsOk mixed noCts (callable _ Try.func44 (by kernel_rfl) (by kernel_rfl)) (by rintro ins _ ⟨_, _, _, rfl⟩; rfl) (by
  rintro ins _ ⟨s, c, g, rfl⟩
  rw [rJPut]
  exact jobT (fun o ho => ho) _ (.inl rfl))
set_option maxRecDepth 100000 in
theorem hQPut : cQPut.Holds objs Try.prog := runCtr_holds (X := cxJ Try.prog []) (fuel := 40) (opens := []) (folds := []) objsOk mixed noCts (callable _ Try.func45 (by kernel_rfl) (by kernel_rfl)) (by rintro ins _ ⟨_, _, _, rfl⟩; rfl) (by
  rintro ins _ ⟨s, c, g, rfl⟩
  rw [rQPut]
  exact jobT (fun o ho => ho) _ (.inr rfl))
theorem hctsJW : ∀ (ci : Nat) (c : Ctr U), ctsJW[ci]? = some c → c.Holds objs Try.prog := by
  intro ci c h
  match ci, h with
  | 0, h => cases h; exact hJPut
  | 1, h => cases h; exact hQPut
  | n + 2, h => cases h
theorem readX {w : Int} (hw : isW w) : IntKind.i64.wrap (binDen .and .u64 w 255) = w % 256 ∧ IntKind.i64.wrap (binDen .and .u64 (binDen .shr .u64 w 8) 255) = w / 256 % 256 ∧ IntKind.i64.wrap (binDen .shr .u64 w 32) = w / 4294967296 ∧
    IntKind.i64.wrap (binDen .rem .u64 w 256) = w % 256 ∧ IntKind.i64.wrap (binDen .rem .u64 (binDen .quo .u64 w 256) 256) = w / 256 % 256 := by
  obtain ⟨h0, h1⟩ := hw
  have e1 : binDen .and .u64 w 255 = w % 256 := and_mod 8 w (by decide) h0 h1
  have e2 : binDen .shr .u64 w 8 = w / 256 := shrX w 8 (by decide)
  have e3 : binDen .and .u64 (w / 256) 255 = w / 256 % 256 := and_mod 8 (w / 256) (by decide) (by omega) (by omega)
  have e4 : binDen .shr .u64 w 32 = w / 4294967296 := shrX w 32 (by decide)
  have e5 : binDen .rem .u64 w 256 = w % 256 := Int.tmod_eq_emod_of_nonneg h0
  have e6 : binDen .quo .u64 w 256 = w / 256 := by
    show IntKind.u64.wrap (w.tdiv 256) = _
    rw [Int.tdiv_eq_ediv_of_nonneg h0, wrapX (by omega) (by omega)]
  have e7 : binDen .rem .u64 (w / 256) 256 = w / 256 % 256 := Int.tmod_eq_emod_of_nonneg (by omega)
  rw [e1, e2, e3, e4, e5, e6, e7]
  exact ⟨wrap_small (by omega) (by omega), wrap_small (by omega) (by omega), wrap_small (by omega) (by omega), wrap_small (by omega) (by omega), wrap_small (by omega) (by omega)⟩
theorem jg0 {w : Int} (h1 : jobE (w % 256) (w / 256 % 256) (w / 4294967296) = 0) (h2 : jobW (w % 256) (w / 256 % 256) (w / 4294967296) = w) : ([.i (w % 256), .i (w / 256 % 256), .i (w / 4294967296), .i 0] : List (EV U)) = jobG w := by
  rw [jobW, if_pos h1] at h2
  exact (if_pos ⟨h1, h2⟩).symm
theorem jg5 {w : Int} (h : jobE (w % 256) (w / 256 % 256) (w / 4294967296) = 0 → jobW (w % 256) (w / 256 % 256) (w / 4294967296) ≠ w) : ([.i 0, .i 0, .i 0, .i 5] : List (EV U)) = jobG w := by
  refine (if_neg ?_).symm
  rintro ⟨h1, h2⟩
  refine h h1 ?_
  rw [jobW, if_pos h1]
  exact h2
theorem jobG_or (w : Int) : ∃ a b c d, jobG w = [.i a, .i b, .i c, .i d] := by
  unfold jobG
  split <;> exact ⟨_, _, _, _, rfl⟩
theorem jobG_len (w : Int) : (jobG w).length = 4 := by
  obtain ⟨a, b, c, d, e⟩ := jobG_or w
  rw [e]; rfl
theorem getT {R : List (EV U) → List (EV U) → Prop} {w : Int} (hw : isW w) (h : ∀ xs o, o = jobG w → R (.i w :: xs) o) (t : Tree) (ht : t = tJGet ∨ t = tQGet) : t.sat (cxJ Try.prog ctsJW) R [.i w] := by
  obtain ⟨e1, e2, e3, e4, e5⟩ := readX hw
  rcases ht with rfl | rfl
  all_goals
    simp only [tJGet, tQGet, Tree.sat, cxJ, cx, ctsJW, cJPut, cQPut, cJPutF, List.getElem?_cons_zero, List.getElem?_cons_succ, Bx.den, Ex.den, Bnd.den, gI, List.map_cons, List.map_nil, List.cons_append, List.nil_append, e1, e2, e3, e4, e5, cmp_eql_t, cmp_eql_f, ne_eq]
    refine ⟨⟨_, _, _, rfl⟩, fun h1 => ⟨fun h2 => h _ _ (jg0 h1 h2), fun h2 => h _ _ (jg5 fun _ => h2)⟩, fun h1 => h _ _ (jg5 fun h2 => absurd h2 h1)⟩
theorem may_get {w : Int} {xs o : List (EV U)} {f : FuncId} (ho : o = jobG w) : ctrR (cJGetF f) (.i w :: xs) o := by
  simp only [ctrR, Ctr.may, cJGetF, List.take_succ_cons, List.take_zero, gI, List.getElem?_cons_zero]
  exact ho
theorem vJGet : ∀ ins, ins.length = cJGet.nin → cJGet.pre ins → tJGet.sat (cxJ Try.prog ctsJW) (ctrR cJGet) ins := by
  rintro ins _ ⟨w, rfl, hw⟩
  exact getT (R := ctrR cJGet) hw (fun xs o ho => may_get ho) tJGet (.inl rfl)
theorem vQGet : ∀ ins, ins.length = cQGet.nin → cQGet.pre ins → tQGet.sat (cxJ Try.prog ctsJW) (ctrR cQGet) ins := by
  rintro ins _ ⟨w, rfl, hw⟩
  exact getT (R := ctrR cQGet) hw (fun xs o ho => may_get ho) tQGet (.inr rfl)
theorem len_get {f : FuncId} : ∀ ins, ins.length = (cJGetF f).nin → (cJGetF f).pre ins → ((cJGetF f).out ins).length = (cJGetF f).nout := by
  rintro ins _ ⟨w, rfl, _⟩
  simp only [cJGetF, gI, List.getElem?_cons_zero, jobG_len]
set_option maxRecDepth 100000 in
theorem hJGet : cJGet.Holds objs Try.prog := runCtr_holds (X := cxJ Try.prog ctsJW) (fuel := 40) (opens := []) (folds := []) objsOk mixed hctsJW (callable _ Try.func46 (by kernel_rfl) (by kernel_rfl)) len_get (by rw [rJGet]; exact vJGet)
set_option maxRecDepth 100000 in
theorem hQGet : cQGet.Holds objs Try.prog := runCtr_holds (X := cxJ Try.prog ctsJW) (fuel := 40) (opens := []) (folds := []) objsOk mixed hctsJW (callable _ Try.func47 (by kernel_rfl) (by kernel_rfl)) len_get (by rw [rQGet]; exact vQGet)
theorem hctsJX : ∀ (ci : Nat) (c : Ctr U), ctsJX[ci]? = some c → c.Holds objs Try.prog := by
  intro ci c h
  match ci, h with
  | 0, h => cases h; exact hJPut
  | 1, h => cases h; exact hQPut
  | 2, h => cases h; exact hJGet
  | 3, h => cases h; exact hQGet
  | 4, h => cases h; exact hJb
  | n + 5, h => cases h
theorem vJWords : ∀ ins, ins.length = cJWords.nin → cJWords.pre ins → tJWords.sat (cxJ Try.prog ctsJX) (ctrR cJWords) ins := by
  rintro ins _ ⟨s, c, g, w, rfl, hw⟩
  obtain ⟨p0, p1, p2, p3, e⟩ := jobG_or w
  simp only [tJWords, Tree.sat, cxJ, cx, ctsJX, cJPut, cQPut, cJPutF, cJGet, cQGet, cJGetF, boolC, cJWords, ctrR, Ctr.may, List.take_succ_cons, List.take_zero, List.getElem?_cons_zero, List.getElem?_cons_succ, Bx.den, Ex.den, Bnd.den, gI, gB, List.map_cons, List.map_nil, List.cons_append, List.nil_append, e, cmpDen, beq_self_eq_true, Bool.and_self, Bool.true_eq_false, false_implies, and_true, true_implies]
  exact ⟨⟨_, _, _, rfl⟩, ⟨_, _, _, rfl⟩, ⟨_, rfl, hw⟩, ⟨_, rfl, hw⟩⟩
set_option maxRecDepth 100000 in
theorem hJWords : cJWords.Holds objs Try.prog := runCtr_holds (X := cxJ Try.prog ctsJX) (fuel := 40) (opens := []) (folds := []) objsOk mixed hctsJX (callable _ Try.func8 (by kernel_rfl) (by kernel_rfl)) (by rintro ins _ ⟨_, _, _, _, rfl, _⟩; rfl) (by rw [rJWords]; exact vJWords)
theorem jobWords_walk (s c g w : Int) (W : World) (hw : isW w) : Calls Try.prog 8 #[.agg #[.int .i64 s, .int .i64 c, .int .i64 g], .int .u64 w] W fun e W' => e = .returned (.bool true) ∧ Below W.heap.size W W' :=
  hJWords.law rfl (ins := [.i s, .i c, .i g, .i w]) (ρ := []) (vals := [.agg #[.int .i64 s, .int .i64 c, .int .i64 g], .int .u64 w]) rfl ⟨_, _, _, _, rfl, hw⟩ rfl ⟨fun _ _ => rfl, ⟨⟨trivial, trivial, trivial, trivial⟩, trivial, trivial⟩⟩ (Sat.inputs rfl (by intro n e h; simp [cJWords] at h))
end Go.Proofs.Ytdabdbbgaekmdaa
