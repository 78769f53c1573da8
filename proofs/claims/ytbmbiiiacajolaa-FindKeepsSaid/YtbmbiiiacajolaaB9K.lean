/- Texts of this proof. -/
import Derived.Test.YtbmbiiiacajolaaWxK
import Derived.KernelRfl
namespace Go.Proofs.Ytbmbiiiacajolaa
set_option linter.unusedVariables false
set_option linter.unusedSimpArgs false
set_option linter.unusedSectionVars false
open Go
set_option maxRecDepth 100000
def tGR : Tree := (.and (.br (.cmp .lss (.bin .sub .i64 (.conv .i64 (.bin .and .u64 (.bin .shr .u64 (.var 0) (.lit 0)) (.lit 65535))) (.lit 1)) (.lit (-1)))
 (.ret [.ex (.lit 0), .ex (.lit 0), .bx (.lit false), .ex (.lit 5)])
 (.br (.cmp .gtr (.bin .sub .i64 (.conv .i64 (.bin .and .u64 (.bin .shr .u64 (.var 0) (.lit 0)) (.lit 65535))) (.lit 1)) (.lit 65534))
 (.ret [.ex (.lit 0), .ex (.lit 0), .bx (.lit false), .ex (.lit 5)])
 (.br (.cmp .lss (.conv .i64 (.bin .and .u64 (.bin .shr .u64 (.var 0) (.lit 16)) (.lit 4294967295))) (.lit 0))
 (.ret [.ex (.lit 0), .ex (.lit 0), .bx (.lit false), .ex (.lit 5)])
 (.br (.cmp .gtr (.conv .i64 (.bin .and .u64 (.bin .shr .u64 (.var 0) (.lit 16)) (.lit 4294967295))) (.lit 4294967295))
 (.ret [.ex (.lit 0), .ex (.lit 0), .bx (.lit false), .ex (.lit 5)])
 (.br (.cmp .eql (.bin .sub .i64 (.conv .i64 (.bin .and .u64 (.bin .shr .u64 (.var 0) (.lit 0)) (.lit 65535))) (.lit 1)) (.lit (-1)))
 (.br (.cmp .eql (.conv .i64 (.bin .and .u64 (.bin .shr .u64 (.var 0) (.lit 16)) (.lit 4294967295))) (.lit 0))
 (.and (.and (.and (.and (.and (.br (.cmp .eql (.bin .shr .u64 (.var 0) (.lit 63)) (.lit 1))
 (.br (.cmp .eql (.bin .or .u64 (.bin .or .u64 (.bin .or .u64 (.lit 0) (.bin .shl .u64 (.conv .u64 (.bin .add .i64 (.bin .sub .i64 (.conv .i64 (.bin .and .u64 (.bin .shr .u64 (.var 0) (.lit 0)) (.lit 65535))) (.lit 1)) (.lit 1))) (.lit 0))) (.bin .shl .u64 (.conv .u64 (.conv .i64 (.bin .and .u64 (.bin .shr .u64 (.var 0) (.lit 16)) (.lit 4294967295)))) (.lit 16))) (.lit 9223372036854775808)) (.var 0))
 (.ret [.ex (.bin .sub .i64 (.conv .i64 (.bin .and .u64 (.bin .shr .u64 (.var 0) (.lit 0)) (.lit 65535))) (.lit 1)), .ex (.conv .i64 (.bin .and .u64 (.bin .shr .u64 (.var 0) (.lit 16)) (.lit 4294967295))), .bx (.cmp .eql (.bin .shr .u64 (.var 0) (.lit 63)) (.lit 1)), .ex (.lit 0)])
 (.ret [.ex (.lit 0), .ex (.lit 0), .bx (.lit false), .ex (.lit 5)]))
 (.br (.cmp .eql (.bin .andNot .u64 (.bin .or .u64 (.bin .or .u64 (.lit 0) (.bin .shl .u64 (.conv .u64 (.bin .add .i64 (.bin .sub .i64 (.conv .i64 (.bin .and .u64 (.bin .shr .u64 (.var 0) (.lit 0)) (.lit 65535))) (.lit 1)) (.lit 1))) (.lit 0))) (.bin .shl .u64 (.conv .u64 (.conv .i64 (.bin .and .u64 (.bin .shr .u64 (.var 0) (.lit 16)) (.lit 4294967295)))) (.lit 16))) (.lit 9223372036854775808)) (.var 0))
 (.ret [.ex (.bin .sub .i64 (.conv .i64 (.bin .and .u64 (.bin .shr .u64 (.var 0) (.lit 0)) (.lit 65535))) (.lit 1)), .ex (.conv .i64 (.bin .and .u64 (.bin .shr .u64 (.var 0) (.lit 16)) (.lit 4294967295))), .bx (.cmp .eql (.bin .shr .u64 (.var 0) (.lit 63)) (.lit 1)), .ex (.lit 0)])
 (.ret [.ex (.lit 0), .ex (.lit 0), .bx (.lit false), .ex (.lit 5)]))) .ok) .ok) .ok) .ok) .ok)
 (.ret [.ex (.lit 0), .ex (.lit 0), .bx (.lit false), .ex (.lit 5)]))
 (.and (.and (.and (.and (.and (.br (.cmp .eql (.bin .shr .u64 (.var 0) (.lit 63)) (.lit 1))
 (.br (.cmp .eql (.bin .or .u64 (.bin .or .u64 (.bin .or .u64 (.lit 0) (.bin .shl .u64 (.conv .u64 (.bin .add .i64 (.bin .sub .i64 (.conv .i64 (.bin .and .u64 (.bin .shr .u64 (.var 0) (.lit 0)) (.lit 65535))) (.lit 1)) (.lit 1))) (.lit 0))) (.bin .shl .u64 (.conv .u64 (.conv .i64 (.bin .and .u64 (.bin .shr .u64 (.var 0) (.lit 16)) (.lit 4294967295)))) (.lit 16))) (.lit 9223372036854775808)) (.var 0))
 (.ret [.ex (.bin .sub .i64 (.conv .i64 (.bin .and .u64 (.bin .shr .u64 (.var 0) (.lit 0)) (.lit 65535))) (.lit 1)), .ex (.conv .i64 (.bin .and .u64 (.bin .shr .u64 (.var 0) (.lit 16)) (.lit 4294967295))), .bx (.cmp .eql (.bin .shr .u64 (.var 0) (.lit 63)) (.lit 1)), .ex (.lit 0)])
 (.ret [.ex (.lit 0), .ex (.lit 0), .bx (.lit false), .ex (.lit 5)]))
 (.br (.cmp .eql (.bin .andNot .u64 (.bin .or .u64 (.bin .or .u64 (.lit 0) (.bin .shl .u64 (.conv .u64 (.bin .add .i64 (.bin .sub .i64 (.conv .i64 (.bin .and .u64 (.bin .shr .u64 (.var 0) (.lit 0)) (.lit 65535))) (.lit 1)) (.lit 1))) (.lit 0))) (.bin .shl .u64 (.conv .u64 (.conv .i64 (.bin .and .u64 (.bin .shr .u64 (.var 0) (.lit 16)) (.lit 4294967295)))) (.lit 16))) (.lit 9223372036854775808)) (.var 0))
 (.ret [.ex (.bin .sub .i64 (.conv .i64 (.bin .and .u64 (.bin .shr .u64 (.var 0) (.lit 0)) (.lit 65535))) (.lit 1)), .ex (.conv .i64 (.bin .and .u64 (.bin .shr .u64 (.var 0) (.lit 16)) (.lit 4294967295))), .bx (.cmp .eql (.bin .shr .u64 (.var 0) (.lit 63)) (.lit 1)), .ex (.lit 0)])
 (.ret [.ex (.lit 0), .ex (.lit 0), .bx (.lit false), .ex (.lit 5)]))) .ok) .ok) .ok) .ok) .ok))))))
 (.and (.and (.and (.and (.and .ok .ok) .ok)
 (.and (.and (.and .ok .ok) .ok) .ok))
 (.and (.and (.and (.and .ok .ok) .ok) .ok) .ok))
 (.and (.and (.and (.and (.and .ok .ok) .ok) .ok) .ok) .ok)))
theorem rGR : runCtr (cxJ Try.prog []) 40 cGetRef [] [] = tGR := by kernel_rfl
def tQGR : Tree := tGR
open Go Go.RowKit
theorem wrapX {n : Int} (h : 0 ≤ n) (h' : n < 18446744073709551616) : IntKind.u64.wrap n = n := by simp [IntKind.wrap, IntKind.signed, IntKind.bits]; omega
theorem shrX (w : Int) (n : Nat) (hn : n < 64) : binDen .shr .u64 w (n : Int) = w / 2 ^ n := by
 show w.fdiv (2 ^ min (n : Int).toNat 64) = w / 2 ^ n
 rw [Int.toNat_natCast, Nat.min_eq_left (by omega), Int.fdiv_eq_ediv_of_nonneg _ (Int.le_of_lt (Int.pow_pos (by omega)))]
theorem shlX {w : Int} (n : Nat) (hn : n < 64) (h : 0 ≤ w) (h' : w * 2 ^ n < 18446744073709551616) : binDen .shl .u64 w (n : Int) = w * 2 ^ n := by
 show IntKind.u64.wrap (w * 2 ^ min (n : Int).toNat 64) = w * 2 ^ n
 rw [Int.toNat_natCast, Nat.min_eq_left (by omega), wrapX (Int.mul_nonneg h (Int.le_of_lt (Int.pow_pos (by omega)))) h']
theorem topX {a : Int} (h0 : 0 ≤ a) (h1 : a < 9223372036854775808) : bits .or .u64 a 9223372036854775808 = a + 9223372036854775808 := by
 have := or_add 63 a 1 h0 (by omega) (by omega) (by omega) (by omega)
 simpa using this
theorem andNotX {a : Int} (h0 : 0 ≤ a) (h1 : a < 9223372036854775808) : bits .andNot .u64 a 9223372036854775808 = a := by
 rw [u64_andNot a _ h0 (by omega) (by omega) (by omega)]
 obtain ⟨y, rfl⟩ := Int.eq_ofNat_of_zero_le h0
 have e : (18446744073709551615 - (9223372036854775808 : Int).toNat) = 2 ^ 63 - 1 := by decide
 have e2 : ((y : Int)).toNat = y := by omega
 rw [e, e2, Nat.and_two_pow_sub_one_eq_mod]
 omega
theorem andX {a : Int} (h0 : 0 ≤ a) (h1 : a < 9223372036854775808) : bits .and .u64 a 9223372036854775807 = a := by
 have e := and_mod 63 a (by omega) h0 (by omega)
 have e2 : (2 : Int) ^ 63 - 1 = 9223372036854775807 := by decide
 rw [e2] at e
 rw [e]; omega
theorem refT (w : Int) (h0 : 0 ≤ w) (h1 : w < 18446744073709551616) :
 binDen .shr .u64 w 0 = w ∧ binDen .shr .u64 w 16 = w / 65536 ∧ binDen .shr .u64 w 63 = w / 9223372036854775808 ∧ binDen .and .u64 w 65535 = w % 65536 ∧ binDen .and .u64 (w / 65536) 4294967295 = w / 65536 % 4294967296 := by
 refine ⟨?_, ?_, ?_, and_mod 16 w (by decide) h0 h1, and_mod 32 (w / 65536) (by decide) (by omega) (by omega)⟩
 · have := shrX w 0 (by decide); simpa using this
 · exact shrX w 16 (by decide)
 · exact shrX w 63 (by decide)
theorem refL (w : Int) (h0 : 0 ≤ w) (h1 : w < 18446744073709551616) :
 IntKind.i64.wrap (w % 65536) = w % 65536 ∧ IntKind.i64.wrap (w % 65536 - 1) = w % 65536 - 1 ∧ IntKind.i64.wrap (w / 65536 % 4294967296) = w / 65536 % 4294967296 ∧ IntKind.i64.wrap (w % 65536 - 1 + 1) = w % 65536 ∧
 IntKind.u64.wrap (w % 65536) = w % 65536 ∧ IntKind.u64.wrap (w / 65536 % 4294967296) = w / 65536 % 4294967296 ∧ binDen .shl .u64 (w % 65536) 0 = w % 65536 ∧ binDen .shl .u64 (w / 65536 % 4294967296) 16 = w / 65536 % 4294967296 * 65536 ∧
 bits .or .u64 0 (w % 65536) = w % 65536 ∧ bits .or .u64 (w % 65536) (w / 65536 % 4294967296 * 65536) = w % 65536 + w / 65536 % 4294967296 * 65536 ∧
 bits .or .u64 (w % 65536 + w / 65536 % 4294967296 * 65536) 9223372036854775808 = w % 65536 + w / 65536 % 4294967296 * 65536 + 9223372036854775808 ∧
 bits .andNot .u64 (w % 65536 + w / 65536 % 4294967296 * 65536) 9223372036854775808 = w % 65536 + w / 65536 % 4294967296 * 65536 ∧ bits .and .u64 (w % 65536 + w / 65536 % 4294967296 * 65536) 9223372036854775807 = w % 65536 + w / 65536 % 4294967296 * 65536 := by
 refine ⟨wrap_small (by omega) (by omega), wrap_small (by omega) (by omega), wrap_small (by omega) (by omega), ?_, wrapX (by omega) (by omega), wrapX (by omega) (by omega), ?_, ?_, or_zero' _ (by omega) (by omega), ?_, topX (by omega) (by omega), andNotX (by omega) (by omega), andX (by omega) (by omega)⟩
 · rw [wrap_small (by omega) (by omega)]; omega
 · have := shlX (w := w % 65536) 0 (by decide) (by omega) (by omega); simpa using this
 · exact shlX (w := w / 65536 % 4294967296) 16 (by decide) (by omega) (by omega)
 · have := or_add 16 (w % 65536) (w / 65536 % 4294967296) (by omega) (by omega) (by omega) (by omega) (by omega)
   rw [show (2 : Int) ^ 16 = 65536 by rfl, Int.mul_comm] at this
   exact this
theorem refO_t {w : Int} (h : w / 281474976710656 % 32768 = 0 ∧ (w % 65536 = 0 → w / 65536 % 4294967296 = 0)) : refO w = [.i (w % 65536 - 1), .i (w / 65536 % 4294967296), .b (decide (w / 9223372036854775808 = 1)), .i 0] := by
 unfold refO refOk
 rw [decide_eq_true h]
 rfl
theorem refO_f {w : Int} (h : ¬ (w / 281474976710656 % 32768 = 0 ∧ (w % 65536 = 0 → w / 65536 % 4294967296 = 0))) : refO w = [.i 0, .i 0, .b false, .i 5] := by
 unfold refO refOk
 rw [decide_eq_false h]
 rfl
theorem refO_len (w : Int) : (refO w).length = 4 := by
 unfold refO
 cases refOk w <;> rfl
theorem eqdec (a b : Int) : (a == b) = decide (a = b) := rfl
set_option maxHeartbeats 4000000 in
theorem refTree {X : Cx U} {R : List (EV U) → List (EV U) → Prop} {w : Int} (h : ∀ o, o = refO w → R [.i w] o) (t : Tree) (ht : t = tGR ∨ t = tQGR) (hw : isW w) : t.sat X R [.i w] := by
 obtain ⟨h0, h1⟩ := hw
 obtain ⟨a1, a2, a3, a4, a5⟩ := refT w h0 h1
 obtain ⟨b1, b2, b3, b4, b5, b6, b7, b8, b9, b10, b11, b12, b13⟩ := refL w h0 h1
 have b7' : IntKind.u64.wrap (w % 65536 * 2 ^ min (Int.toNat 0) IntKind.u64.bits) = w % 65536 := b7
 have b8' : IntKind.u64.wrap (w / 65536 % 4294967296 * 2 ^ min (Int.toNat 16) IntKind.u64.bits) = w / 65536 % 4294967296 * 65536 := b8
 have a1' : w.fdiv (2 ^ min (Int.toNat 0) IntKind.u64.bits) = w := a1
 have a2' : w.fdiv (2 ^ min (Int.toNat 16) IntKind.u64.bits) = w / 65536 := a2
 have a3' : w.fdiv (2 ^ min (Int.toNat 63) IntKind.u64.bits) = w / 9223372036854775808 := a3
 have a4' : bits .and .u64 w 65535 = w % 65536 := a4
 have a5' : bits .and .u64 (w / 65536) 4294967295 = w / 65536 % 4294967296 := a5
 rcases ht with rfl | rfl
 all_goals
  simp only [tGR, tQGR, Tree.sat, Bx.den, Ex.den, Bnd.den, gI, List.map_cons, List.map_nil, List.getElem?_cons_zero, binDen, cmpDen, a1', a2', a3', a4', a5', b1, b2, b3, b4, b5, b6, b7', b8', b9, b10, b11, b12, b13, decide_eq_true_eq, decide_eq_false_iff_not, beq_iff_eq, beq_eq_false_iff_ne, ne_eq]
  clear a1 a2 a3 a4 a5 b1 b2 b3 b4 b5 b6 b7 b8 b9 b10 b11 b12 b13 b7' b8' a1' a2' a3' a4' a5'
  repeat' (first | apply And.intro | intro _)
  all_goals first
   | trivial
   | (refine h _ ?_; rw [refO_f (by omega)]; done)
   | (refine h _ ?_
      rw [refO_t (by omega), eqdec])
   | (exfalso; omega)
theorem may_ref {w : Int} {o : List (EV U)} {f : FuncId} (ho : o = refO w) : ctrR (cGetRefF f) [.i w] o := by
 simp only [ctrR, Ctr.may, cGetRefF, List.take_succ_cons, List.take_zero, gI, List.getElem?_cons_zero]
 exact ho
theorem vGR (P : Program) : ∀ ins, ins.length = cGetRef.nin → cGetRef.pre ins → tGR.sat (cxJ P []) (ctrR cGetRef) ins := by
 rintro ins _ ⟨w, rfl, hw⟩
 exact refTree (R := ctrR cGetRef) (fun o ho => may_ref ho) tGR (.inl rfl) hw
theorem len_ref {f : FuncId} : ∀ ins, ins.length = (cGetRefF f).nin → (cGetRefF f).pre ins → ((cGetRefF f).out ins).length = (cGetRefF f).nout := by
 rintro ins _ ⟨w, rfl, _⟩
 simp only [cGetRefF, gI, List.getElem?_cons_zero, refO_len]
set_option maxRecDepth 100000 in
theorem hGetRef : cGetRef.Holds objs Try.prog := runCtr_holds (X := cxJ Try.prog []) (fuel := 40) (opens := []) (folds := []) objsOk mixed noCts (callable _ Try.func92 (by kernel_rfl) (by kernel_rfl)) len_ref (by rw [rGR]; exact vGR _)
end Go.Proofs.Ytbmbiiiacajolaa
