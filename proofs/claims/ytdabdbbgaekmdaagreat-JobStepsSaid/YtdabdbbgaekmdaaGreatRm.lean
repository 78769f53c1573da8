/- The document's memories as objects: contracts. -/
import Derived.Test.YtdabdbbgaekmdaaGreatCwV
namespace Go.Proofs.YtdabdbbgaekmdaaGreat
set_option linter.unusedVariables false
set_option linter.unusedSimpArgs false
set_option linter.unusedSectionVars false
open Go

section
variable {M : MemSt} {at_ x y : Int}
theorem load_in (h : 0 ≤ at_) (h' : at_ < M.W.length) : M.load at_ = ⟨M.W, 1, at_, M.W[at_.toNat]?.getD 0, M.W[at_.toNat]?.getD 0, false, IntKind.i64.wrap (M.N + 1)⟩ := by
  have e : M.is at_ = true := by simp [MemSt.is]; omega
  have h1 : M.W.set at_.toNat (M.W[at_.toNat]?.getD 0) = M.W := by
    apply List.ext_getElem?
    intro j
    by_cases hj : at_.toNat = j
    · subst hj
      rw [List.getElem?_set_self (by omega), List.getElem?_eq_getElem (by omega)]
      rfl
    · rw [List.getElem?_set_ne hj]
  simp [MemSt.load, MemSt.acc, e, MemSt.word, List.getD, h1]
theorem load_out (h : at_ < 0 ∨ M.W.length ≤ at_) : M.load at_ = ⟨M.W, 1, at_, 0, 0, false, IntKind.i64.wrap (M.N + 1)⟩ := by
  have e : M.is at_ = false := by simp [MemSt.is]; omega
  simp [MemSt.load, MemSt.acc, e]
theorem store_in (h : 0 ≤ at_) (h' : at_ < M.W.length) : M.store at_ x = ⟨M.W.set at_.toNat x, 2, at_, M.W[at_.toNat]?.getD 0, x, true, IntKind.i64.wrap (M.N + 1)⟩ := by
  have e : M.is at_ = true := by simp [MemSt.is]; omega
  simp [MemSt.store, MemSt.acc, e, MemSt.word, List.getD]
theorem store_out (h : at_ < 0 ∨ M.W.length ≤ at_) : M.store at_ x = ⟨M.W, 2, at_, 0, 0, false, IntKind.i64.wrap (M.N + 1)⟩ := by
  have e : M.is at_ = false := by simp [MemSt.is]; omega
  simp [MemSt.store, MemSt.acc, e]
theorem add_in (h : 0 ≤ at_) (h' : at_ < M.W.length) : M.add at_ x = ⟨M.W.set at_.toNat (IntKind.u64.wrap (M.W[at_.toNat]?.getD 0 + x)), 4, at_, M.W[at_.toNat]?.getD 0, IntKind.u64.wrap (M.W[at_.toNat]?.getD 0 + x), true, IntKind.i64.wrap (M.N + 1)⟩ := by
  have e : M.is at_ = true := by simp [MemSt.is]; omega
  simp [MemSt.add, MemSt.acc, e, MemSt.word, List.getD]
theorem add_out (h : at_ < 0 ∨ M.W.length ≤ at_) : M.add at_ x = ⟨M.W, 4, at_, 0, 0, false, IntKind.i64.wrap (M.N + 1)⟩ := by
  have e : M.is at_ = false := by simp [MemSt.is]; omega
  simp [MemSt.add, MemSt.acc, e]
theorem cas_is (h : 0 ≤ at_) (h' : at_ < M.W.length) (hx : M.W[at_.toNat]?.getD 0 = x) : M.cas at_ x y = ⟨M.W.set at_.toNat y, 3, at_, x, y, true, IntKind.i64.wrap (M.N + 1)⟩ := by
  have e : M.is at_ = true := by simp [MemSt.is]; omega
  simp [MemSt.cas, MemSt.acc, e, MemSt.word, List.getD, hx]
theorem cas_not (h : 0 ≤ at_) (h' : at_ < M.W.length) (hx : ¬ M.W[at_.toNat]?.getD 0 = x) : M.cas at_ x y = ⟨M.W, 3, at_, M.W[at_.toNat]?.getD 0, M.W[at_.toNat]?.getD 0, false, IntKind.i64.wrap (M.N + 1)⟩ := by
  have e : M.is at_ = true := by simp [MemSt.is]; omega
  have h1 : M.W.set at_.toNat (M.W[at_.toNat]?.getD 0) = M.W := by
    apply List.ext_getElem?
    intro j
    by_cases hj : at_.toNat = j
    · subst hj
      rw [List.getElem?_set_self (by omega), List.getElem?_eq_getElem (by omega)]
      rfl
    · rw [List.getElem?_set_ne hj]
  simp [MemSt.cas, MemSt.acc, e, MemSt.word, List.getD, hx, h1]
theorem cas_out (h : at_ < 0 ∨ M.W.length ≤ at_) : M.cas at_ x y = ⟨M.W, 3, at_, 0, 0, false, IntKind.i64.wrap (M.N + 1)⟩ := by
  have e : M.is at_ = false := by simp [MemSt.is]; omega
  unfold MemSt.cas
  split <;> simp [MemSt.acc, e]
end


theorem cmp_is {a b : Int} (h : a = b) : cmpDen .eql a b = true := (cmp_eql_t _ _).mpr h
theorem cmp_isnt {a b : Int} (h : ¬ a = b) : cmpDen .eql a b = false := (cmp_eql_f _ _).mpr h
theorem set_get {W : List Int} {j : Nat} {x : Int} (h : j < W.length) : (W.set j x)[j]?.getD 0 = x := by rw [List.getElem?_set_self h]; rfl

def cQNew : Ctr U :=
  { fn := 60, nin := 1, args := [.int .i64 (.var 0)], heap := []
    pre := fun ins => ∃ n, ins = [.i n], nout := 2
    out := fun ins => match ins with | [.i n] => if 1 ≤ n ∧ n ≤ 4096 then [.u (.rmem (.new n)), .i 0] else [.u .rmemNil, .i 3] | _ => []
    ret := .tuple [.hnd 0, .int .i64 (.var 2)], post := [.abs 1] }
def cQLoad : Ctr U :=
  { fn := 109, nin := 2, args := [.hnd 0, .int .i64 (.var 1)], heap := [.abs 0]
    pre := fun ins => ∃ M at_, ins = [.u (.rmem M), .i at_] ∧ M.W.length ≤ 4096, nout := 2
    out := fun ins => match ins with | [.u (.rmem M), .i at_] => [.u (.rmem (M.load at_)), .i (M.load at_).n] | _ => []
    ret := .int .u64 (.var 3), post := [.abs 2] }
def cQStore : Ctr U :=
  { fn := 63, nin := 3, args := [.hnd 0, .int .i64 (.var 1), .int .u64 (.var 2)], heap := [.abs 0]
    pre := fun ins => ∃ M at_ x, ins = [.u (.rmem M), .i at_, .i x] ∧ M.W.length ≤ 4096, nout := 1
    out := fun ins => match ins with | [.u (.rmem M), .i at_, .i x] => [.u (.rmem (M.store at_ x))] | _ => []
    ret := .tuple [], post := [.abs 3] }
def cQCAS : Ctr U :=
  { fn := 111, nin := 4, args := [.hnd 0, .int .i64 (.var 1), .int .u64 (.var 2), .int .u64 (.var 3)], heap := [.abs 0]
    pre := fun ins => ∃ M at_ x y, ins = [.u (.rmem M), .i at_, .i x, .i y] ∧ M.W.length ≤ 4096, nout := 2
    out := fun ins => match ins with | [.u (.rmem M), .i at_, .i x, .i y] => [.u (.rmem (M.cas at_ x y)), .b (M.cas at_ x y).h] | _ => []
    ret := .bool (.var 5), post := [.abs 4] }
def cQAt : Ctr U :=
  { fn := 116, nin := 2, args := [.hnd 0, .int .i64 (.var 1)], heap := [.abs 0]
    pre := fun ins => ∃ M at_, ins = [.u (.rmem M), .i at_] ∧ M.W.length ≤ 4096, nout := 2
    out := fun ins => match ins with | [.u (.rmem M), .i at_] => [.u (.rmem M), .i (if 0 ≤ at_ ∧ at_ < M.W.length then M.W[at_.toNat]?.getD 0 else 0)] | _ => []
    ret := .int .u64 (.var 3), post := [.abs 2] }
def cQLast : Ctr U :=
  { fn := 23, nin := 1, args := [.hnd 0], heap := [.abs 0]
    pre := fun ins => ∃ M, ins = [.u (.rmem M)], nout := 6
    out := fun ins => match ins with | [.u (.rmem M)] => [.u (.rmem M), .i M.k, .i M.a, .i M.o, .i M.n, .b M.h] | _ => []
    ret := .agg [.int .i64 (.var 2), .int .i64 (.var 3), .int .u64 (.var 4), .int .u64 (.var 5), .bool (.var 6)], post := [.abs 1] }
def cQCount : Ctr U :=
  { fn := 25, nin := 1, args := [.hnd 0], heap := [.abs 0]
    pre := fun ins => ∃ M, ins = [.u (.rmem M)], nout := 2
    out := fun ins => match ins with | [.u (.rmem M)] => [.u (.rmem M), .i M.N] | _ => []
    ret := .int .i64 (.var 2), post := [.abs 1] }
def cQWords : Ctr U :=
  { fn := 28, nin := 1, args := [.hnd 0], heap := [.abs 0]
    pre := fun ins => ∃ M, ins = [.u (.rmem M)] ∧ 1 ≤ M.W.length ∧ M.W.length ≤ 4096, nout := 4
    out := fun _ => []
    many := some fun c ins => match ins with | [.u (.rmem M)] => [.u (.rmem M), .l (M.W ++ c), .i M.W.length, .i ((M.W.length + c.length : Nat) : Int)] | _ => []
    ret := .slice 1 (.var 3) (.var 4), post := [.abs 1, .row .u64 55 2] }
end Go.Proofs.YtdabdbbgaekmdaaGreat
