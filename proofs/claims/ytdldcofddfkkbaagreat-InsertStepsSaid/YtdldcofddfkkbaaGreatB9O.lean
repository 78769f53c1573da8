/- Texts of this proof. -/
import Derived.Test.YtdldcofddfkkbaaGreatB7O
import Derived.KernelRfl
namespace Go.Proofs.YtdldcofddfkkbaaGreat
set_option linter.unusedVariables false
set_option linter.unusedSimpArgs false
set_option linter.unusedSectionVars false
open Go
set_option maxRecDepth 100000
def hsGetTop : List (Nat × Nat × List Nat) := [(81, 2, [0])]
def tGetTop : Tree := (.and (.and (.and (.ret [.ex (.bin .sub .i64 (.conv .i64 (.bin .and .u64 (.bin .shr .u64 (.var 0) (.lit 0)) (.lit 65535))) (.lit 1)), .ex (.conv .i64 (.bin .and .u64 (.bin .shr .u64 (.var 0) (.lit 16)) (.lit 281474976710655)))]) .ok) .ok) .ok)
theorem rGetTop : runCtr { (cx Tryz.prog []) with hints := hsGetTop } 20 cGetTop [] [] = tGetTop := by kernel_rfl
def hsPuT : List (Nat × Nat × List Nat) := []
def tPuT : Tree := (.br (.cmp .lss (.var 0) (.lit (-1))) (.ret [.ex (.lit 0), .ex (.lit 3)]) (.br (.cmp .gtr (.var 0) (.lit 65534)) (.ret [.ex (.lit 0), .ex (.lit 3)]) (.br (.cmp .lss (.var 1) (.lit 0)) (.ret [.ex (.lit 0), .ex (.lit 3)]) (.br (.cmp .gtr (.var 1) (.lit 281474976710655)) (.ret [.ex (.lit 0), .ex (.lit 3)]) (.and (.and (.and (.and (.ret [.ex (.bin .or .u64 (.bin .or .u64 (.lit 0) (.bin .shl .u64 (.conv .u64 (.bin .add .i64 (.var 0) (.lit 1))) (.lit 0))) (.bin .shl .u64 (.conv .u64 (.var 1)) (.lit 16))), .ex (.lit 0)]) .ok) .ok) .ok) .ok)))))
theorem rPuT : runCtr { (cx Tryz.prog []) with hints := hsPuT } 20 cPuT [] [] = tPuT := by kernel_rfl
def hsRead : List (Nat × Nat × List Nat) := []
def tRead : Tree := (.call 0 [.ex (.var 3)] (.br (.cmp .geq (.var 4) (.var 2)) (.ret [.ex (.lit (-1))]) (.ret [.ex (.var 4)])))
theorem rRead : runCtr { (cx Tryz.prog ctsKR) with hints := hsRead } 20 cRead [] [] = tRead := by kernel_rfl
def hsQIdx : List (Nat × Nat × List Nat) := []
def tQIdx : Tree := (.br (.cmp .geq (.bin .sub .i64 (.conv .i64 (.bin .rem .u64 (.var 3) (.lit 65536))) (.lit 1)) (.var 2)) (.ret [.ex (.lit (-1))]) (.ret [.ex (.bin .sub .i64 (.conv .i64 (.bin .rem .u64 (.var 3) (.lit 65536))) (.lit 1))]))
theorem rQIdx : runCtr { (cx Tryz.prog []) with hints := hsQIdx } 20 cQIdx [] [] = tQIdx := by kernel_rfl
def hsQTop : List (Nat × Nat × List Nat) := []
def tQTop : Tree := (.ret [.ex (.bin .or .u64 (.conv .u64 (.bin .add .i64 (.var 0) (.lit 1))) (.bin .shl .u64 (.bin .add .u64 (.bin .shr .u64 (.var 1) (.lit 16)) (.lit 1)) (.lit 16)))])
theorem rQTop : runCtr { (cx Tryz.prog []) with hints := hsQTop } 20 cQTop [] [] = tQTop := by kernel_rfl
def hsAdd : List (Nat × Nat × List Nat) := []
@[reducible] def tAddK0 : Tree := (.ext (.mk 0 [.var 3, .ex (.var 4), .ex (.lit 4), .ex (.var 1), .ex (.lit 0), .ex (.lit 0), .bx (.lit false), .ex (.bin .add .i64 (.var 10) (.lit 1))]) (.ret [.var 11, .ex (.lit 0)]))
def tAdd : Tree := (.and (.opn 0 0 (.br (.cmp .lss (.var 1) (.lit 0)) tAddK0 (.br (.cmp .geq (.var 1) (.var 4)) tAddK0 (.need (.cmp .leq (.lit 0) (.var 1)) (.need (.cmp .lss (.var 1) (.lit 4096)) (.need (.cmp .leq (.lit 0) (.var 1)) (.need (.cmp .lss (.var 1) (.len 3)) (.need (.cmp .leq (.lit 0) (.var 1)) (.need (.cmp .lss (.var 1) (.len 3)) (.need (.cmp .leq (.lit 0) (.var 1)) (.need (.cmp .lss (.var 1) (.len 3)) (.ext (.setl 3 (.var 1) (.bin .add .u64 (.nth 3 (.var 1)) (.var 2))) (.ext (.mk 0 [.var 11, .ex (.var 4), .ex (.lit 4), .ex (.var 1), .ex (.nth 3 (.var 1)), .ex (.bin .add .u64 (.nth 3 (.var 1)) (.var 2)), .bx (.lit true), .ex (.bin .add .i64 (.var 10) (.lit 1))]) (.ret [.var 12, .ex (.bin .add .u64 (.nth 3 (.var 1)) (.var 2))])))))))))))))) (.nomore 0 [0]))
theorem rAdd : runCtr { (cx Tryz.prog []) with hints := hsAdd } 20 cAdd [(0, [0])] [(0, [0])] = tAdd := by kernel_rfl
def hsQAdd : List (Nat × Nat × List Nat) := []
@[reducible] def tQAddK0 : Tree := (.ext (.mk 3 [.var 3, .ex (.var 4), .ex (.lit 4), .ex (.var 1), .ex (.lit 0), .ex (.lit 0), .bx (.lit false), .ex (.bin .add .i64 (.var 10) (.lit 1))]) (.ret [.var 11, .ex (.lit 0)]))
def tQAdd : Tree := (.and (.opn 0 3 (.br (.cmp .lss (.var 1) (.lit 0)) tQAddK0 (.need (.cmp .leq (.lit 0) (.var 4)) (.br (.cmp .geq (.var 1) (.var 4)) (.need (.cmp .leq (.lit 0) (.var 4)) tQAddK0) (.need (.cmp .leq (.lit 0) (.var 1)) (.need (.cmp .lss (.var 1) (.var 4)) (.need (.cmp .lss (.var 1) (.len 3)) (.need (.cmp .leq (.lit 0) (.var 1)) (.need (.cmp .lss (.var 1) (.len 3)) (.need (.cmp .leq (.lit 0) (.var 4)) (.need (.cmp .leq (.lit 0) (.var 1)) (.need (.cmp .lss (.var 1) (.var 4)) (.need (.cmp .lss (.var 1) (.len 3)) (.need (.cmp .leq (.lit 0) (.var 1)) (.need (.cmp .lss (.var 1) (.len 3)) (.need (.cmp .leq (.lit 0) (.var 1)) (.need (.cmp .lss (.var 1) (.var 4)) (.need (.cmp .lss (.var 1) (.len 3)) (.need (.cmp .leq (.lit 0) (.var 1)) (.need (.cmp .lss (.var 1) (.len 3)) (.ext (.setl 3 (.var 1) (.bin .add .u64 (.nth 3 (.var 1)) (.var 2))) (.need (.cmp .leq (.lit 0) (.var 1)) (.need (.cmp .lss (.var 1) (.var 4)) (.need (.cmp .lss (.var 1) (.len 11)) (.need (.cmp .leq (.lit 0) (.var 1)) (.need (.cmp .lss (.var 1) (.len 11)) (.ext (.mk 3 [.var 11, .ex (.var 4), .ex (.lit 4), .ex (.var 1), .ex (.nth 3 (.var 1)), .ex (.nth 11 (.var 1)), .bx (.lit true), .ex (.bin .add .i64 (.var 10) (.lit 1))]) (.ret [.var 12, .ex (.nth 11 (.var 1))])))))))))))))))))))))))))))) (.nomore 0 [3]))
theorem rQAdd : runCtr { (cx Tryz.prog []) with hints := hsQAdd } 20 cQAdd [(0, [3])] [(0, [3])] = tQAdd := by kernel_rfl
open Go Go.RowKit
theorem shr_0 (w : Int) : binDen .shr .u64 w 0 = w := by
 show w.fdiv (2 ^ min (0 : Int).toNat 64) = w
 simp
theorem shr_16 (w : Int) : binDen .shr .u64 w 16 = w / 65536 := by
 show w.fdiv (2 ^ min (16 : Int).toNat 64) = w / 65536
 rw [show (2 : Int) ^ min (16 : Int).toNat 64 = 65536 by rfl, Int.fdiv_eq_ediv_of_nonneg _ (by decide)]
theorem and_16 {w : Int} (h : isW w) : binDen .and .u64 w 65535 = w % 65536 := and_mod 16 w (by decide) h.1 h.2
theorem and_48 {w : Int} (h : isW w) : binDen .and .u64 w 281474976710655 = w % 281474976710656 := and_mod 48 w (by decide) h.1 h.2
theorem shl_0m {w : Int} (h : isW w) : binDen .shl .u64 w 0 = w := by
 show IntKind.u64.wrap (w * 2 ^ min (0 : Int).toNat 64) = w
 rw [show (2 : Int) ^ min (0 : Int).toNat 64 = 1 by rfl, Int.mul_one, wrap_u64' h.1 h.2]
theorem shl_16m {w : Int} (h : 0 ≤ w) (h' : w < 281474976710656) : binDen .shl .u64 w 16 = w * 65536 := by
 show IntKind.u64.wrap (w * 2 ^ min (16 : Int).toNat 64) = w * 65536
 rw [show (2 : Int) ^ min (16 : Int).toNat 64 = 65536 by rfl, wrap_u64' (by omega) (by omega)]
theorem or_16m {a b : Int} (h0 : 0 ≤ a) (h1 : a < 65536) (h2 : 0 ≤ b) (h3 : b < 281474976710656) : bits .or .u64 a (b * 65536) = a + b * 65536 := by
 rw [show b * 65536 = 2 ^ 16 * b by omega]
 exact or_add 16 a b h0 h1 h2 (by omega) (by omega)
theorem vGetTop (P : Program) (hs : List (Nat × Nat × List Nat)) : ∀ ins, ins.length = cGetTop.nin → cGetTop.pre ins → tGetTop.sat { cx P [] with hints := hs } (ctrR cGetTop) ins := by
 rintro ins _ ⟨w, rfl, h⟩
 obtain ⟨h0, h1⟩ := h
 have e1 : IntKind.i64.wrap (w % 65536) = w % 65536 := wrap_small (by omega) (by omega)
 have e2 : IntKind.i64.wrap (w / 65536 % 281474976710656) = w / 65536 := by rw [wrap_small (by omega) (by omega)]; omega
 have e3 : IntKind.i64.wrap (w % 65536 - 1) = w % 65536 - 1 := wrap_small (by omega) (by omega)
 unfold tGetTop
 repeat' (first | with_reducible refine st_and ?_ ?_ | with_reducible exact st_ok)
 refine st_ret (a := ([.i (w % 65536 - 1), .i (w / 65536)] : List (EV U))) ?_ ?_
 · simp only [List.map_cons, List.map_nil, Bnd.den, Ex.den, gI, List.getElem?_cons_zero, shr_0, shr_16, and_16 ⟨h0, h1⟩, and_48 (w := w / 65536) ⟨by omega, by omega⟩, e1, e2]
   simp only [binDen, e3]
 · rfl
theorem vPuT (P : Program) (hs : List (Nat × Nat × List Nat)) : ∀ ins, ins.length = cPuT.nin → cPuT.pre ins → tPuT.sat { cx P [] with hints := hs } (ctrR cPuT) ins := by
 rintro ins _ ⟨i, t, rfl, h1, h2, h3, h4⟩
 have e1 : binDen .add .i64 i 1 = i + 1 := wrap_small (by omega) (by omega)
 have e2 : IntKind.u64.wrap (i + 1) = i + 1 := wrap_u64' (by omega) (by omega)
 have e3 : IntKind.u64.wrap t = t := wrap_u64' (by omega) (by omega)
 have e4 : binDen .or .u64 0 (i + 1) = i + 1 := or_zero' _ (by omega) (by omega)
 have e5 : binDen .or .u64 (i + 1) (t * 65536) = i + 1 + t * 65536 := or_16m (by omega) (by omega) h3 h4
 unfold tPuT
 repeat' (first
  | (first
    | (with_reducible refine st_need ?_ ?_
       focus (simp only [dn, reduceCtorEq, h1] <;> first | omega | assumption))
    | (with_reducible refine st_and ?_ ?_)
    | (with_reducible exact st_ok)
    | (with_reducible refine st_br (fun hc => ?_) (fun hc => ?_) <;> (simp only [dn, reduceCtorEq, h1] at hc) <;> (try (exfalso; first | contradiction | omega)))
    | (refine st_call (by rfl) (by simp only [dn, reduceCtorEq, h1] <;> rfl) ?_ (by rfl <;> rfl) (by simp only [dn] <;> rfl) ?_
       focus (first | rfl))
    | (with_reducible refine st_ret (by simp only [dn, reduceCtorEq, h1] <;> rfl) ?_
       (first | rfl | exact ⟨_, rfl⟩)))
  | (refine st_ret (a := ([.i (i + 1 + t * 65536), .i 0] : List (EV U))) ?_ ?_
     focus simp only [List.map_cons, List.map_nil, Bnd.den, Ex.den, gI, List.getElem?_cons_zero, List.getElem?_cons_succ, e1, e2, e3, shl_0m (w := i + 1) ⟨by omega, by omega⟩, shl_16m h3 h4, e4, e5]
     rfl))
theorem hGetTop : cGetTop.Holds objs Tryz.prog := runCtr_holds (X := { cx Tryz.prog [] with hints := hsGetTop }) objsOk mixed noCts (callable _ Tryz.func81 (by kernel_rfl) (by kernel_rfl)) (by rintro ins _ ⟨_, rfl, _⟩; rfl) (by rw [rGetTop]; exact vGetTop _ _)
theorem hPuT : cPuT.Holds objs Tryz.prog := runCtr_holds (X := { cx Tryz.prog [] with hints := hsPuT }) objsOk mixed noCts (callable _ Tryz.func314 (by kernel_rfl) (by kernel_rfl)) (by rintro ins _ ⟨_, _, rfl, _⟩; rfl) (by rw [rPuT]; exact vPuT _ _)
theorem hctsKR : ∀ (ci : Nat) (c : Ctr U), ctsKR[ci]? = some c → c.Holds objs Tryz.prog := by
 intro ci c h
 match ci, h with
 | 0, h => cases h; exact hGetTop
 | 1, h => cases h; exact hPuT
 | n + 2, h => cases h
theorem out_getTop (w : Int) : cGetTop.out [.i w] = [.i (w % 65536 - 1), .i (w / 65536)] := rfl
theorem out_puT (i t : Int) : cPuT.out [.i i, .i t] = [.i (i + 1 + t * 65536), .i 0] := rfl
theorem out_read (a b n w : Int) : cRead.out [.i a, .i b, .i n, .i w] = [.i (idxW n w)] := rfl
theorem vRead (P : Program) (hs : List (Nat × Nat × List Nat)) : ∀ ins, ins.length = cRead.nin → cRead.pre ins → tRead.sat { cx P ctsKR with hints := hs } (ctrR cRead) ins := by
 rintro ins _ ⟨a, b, n, w, rfl, h⟩
 unfold tRead
 by_cases hn : w % 65536 - 1 ≥ n
 · have e : idxW n w = -1 := if_pos hn
   repeat' (first
    | (first
      | (with_reducible refine st_need ?_ ?_
         focus (simp only [dn, reduceCtorEq, h] <;> first | omega | assumption))
      | (with_reducible refine st_and ?_ ?_)
      | (with_reducible exact st_ok)
      | (with_reducible refine st_br (fun hc => ?_) (fun hc => ?_) <;> (simp only [dn, reduceCtorEq, h] at hc) <;> (try (exfalso; first | contradiction | omega)))
      | (refine st_call (by rfl) (by simp only [dn, reduceCtorEq, h] <;> rfl) ?_ (by simp only [out_getTop] <;> rfl) (by simp only [dn] <;> rfl) ?_
         focus (first | exact ⟨_, rfl, h⟩))
      | (with_reducible refine st_ret (by simp only [dn, reduceCtorEq, h] <;> rfl) ?_
         (first | rfl | exact ⟨_, rfl⟩)))
    | (refine st_ret (by simp only [dn, reduceCtorEq, h] <;> rfl) ?_
       show _ = [EV.i (idxW n w)]
       rw [e]))
 · have e : idxW n w = w % 65536 - 1 := if_neg hn
   repeat' (first
    | (first
      | (with_reducible refine st_need ?_ ?_
         focus (simp only [dn, reduceCtorEq, h] <;> first | omega | assumption))
      | (with_reducible refine st_and ?_ ?_)
      | (with_reducible exact st_ok)
      | (with_reducible refine st_br (fun hc => ?_) (fun hc => ?_) <;> (simp only [dn, reduceCtorEq, h] at hc) <;> (try (exfalso; first | contradiction | omega)))
      | (refine st_call (by rfl) (by simp only [dn, reduceCtorEq, h] <;> rfl) ?_ (by simp only [out_getTop] <;> rfl) (by simp only [dn] <;> rfl) ?_
         focus (first | exact ⟨_, rfl, h⟩))
      | (with_reducible refine st_ret (by simp only [dn, reduceCtorEq, h] <;> rfl) ?_
         (first | rfl | exact ⟨_, rfl⟩)))
    | (refine st_ret (by simp only [dn, reduceCtorEq, h] <;> rfl) ?_
       show _ = [EV.i (idxW n w)]
       rw [e]))
theorem hRead : cRead.Holds objs Tryz.prog := runCtr_holds (X := { cx Tryz.prog ctsKR with hints := hsRead }) objsOk mixed hctsKR (callable _ Tryz.func288 (by kernel_rfl) (by kernel_rfl)) (by rintro ins _ ⟨_, _, _, _, rfl, _⟩; rfl) (by rw [rRead]; exact vRead _ _)
theorem u64_small {n : Int} (h : 0 ≤ n) (h' : n < 18446744073709551616) : IntKind.u64.wrap n = n := by simp [IntKind.wrap, IntKind.signed, IntKind.bits]; omega
theorem tmod16 {w : Int} (h : isW w) : IntKind.i64.wrap (w.tmod 65536) = w % 65536 := by
 rw [Int.tmod_eq_emod_of_nonneg h.1]; exact wrap_small (by omega) (by omega)
theorem low16 {w : Int} : IntKind.i64.wrap (w % 65536 - 1) = w % 65536 - 1 := wrap_small (by omega) (by omega)
theorem vQIdx (P : Program) (hs : List (Nat × Nat × List Nat)) : ∀ ins, ins.length = cQIdx.nin → cQIdx.pre ins → tQIdx.sat { cx P [] with hints := hs } (ctrR cQIdx) ins := by
 rintro ins _ ⟨a, b, n, w, rfl, hw⟩
 simp only [Tree.sat, Bx.den, Ex.den, Bnd.den, gI, gB, gL, gF, gN, gNil, List.map_cons, List.map_nil, List.cons_append, List.nil_append, List.getElem?_cons_zero, List.getElem?_cons_succ, List.getD, Option.getD_some, cmp_eql_t, cmp_eql_f, cmp_neq_t, cmp_neq_f, cmp_lss_t, cmp_lss_f, cmp_leq_t, cmp_leq_f, cmp_gtr_t, cmp_gtr_f, cmp_geq_t, cmp_geq_f, Bool.not_eq_true', Bool.not_eq_false', Bool.and_eq_true, Bool.and_eq_false_iff, binDen, ctrR, Ctr.may, List.take_succ_cons, List.take_zero, Option.some.injEq, EV.u.injEq, tQIdx, cx, cQIdx, idxW, tmod16 hw, low16, true_and, and_true, ne_eq, not_true_eq_false, not_false_eq_true, false_implies, true_implies, implies_true, List.append_assoc]
 repeat' (first | with_reducible apply And.intro | intro _)
 all_goals first
  | omega
  | (rw [if_pos (by omega)])
  | (rw [if_neg (by omega)])
theorem hQIdx : cQIdx.Holds objs Tryz.prog := runCtr_holds (X := { cx Tryz.prog [] with hints := hsQIdx }) objsOk mixed noCts (callable _ Tryz.func193 (by kernel_rfl) (by kernel_rfl)) (by rintro ins _ ⟨_, _, _, _, rfl, _⟩; rfl) (by rw [rQIdx]; exact vQIdx _ _)
theorem topQ {i w : Int} (h : -1 ≤ i) (h1 : i ≤ 65534) (hw : isW w) : bits .or .u64 (IntKind.u64.wrap (IntKind.i64.wrap (i + 1))) (binDen .shl .u64 (IntKind.u64.wrap (binDen .shr .u64 w 16 + 1)) 16) = topW i w := by
 obtain ⟨h2, h3⟩ := hw
 rw [shr_16, wrap_small (n := i + 1) (by omega) (by omega), u64_small (n := i + 1) (by omega) (by omega), u64_small (n := w / 65536 + 1) (by omega) (by omega)]
 have e : binDen .shl .u64 (w / 65536 + 1) 16 = (w / 65536 + 1) % 281474976710656 * 65536 := by
  show IntKind.u64.wrap ((w / 65536 + 1) * 2 ^ min (Int.toNat 16) IntKind.u64.bits) = _
  have e2 : (2 : Int) ^ min (Int.toNat 16) IntKind.u64.bits = 65536 := by decide
  rw [e2]
  simp [IntKind.wrap, IntKind.signed, IntKind.bits]
  omega
 rw [e, or_16m (by omega) (by omega) (by omega) (by omega)]
 rfl
theorem vQTop (P : Program) (hs : List (Nat × Nat × List Nat)) : ∀ ins, ins.length = cQTop.nin → cQTop.pre ins → tQTop.sat { cx P [] with hints := hs } (ctrR cQTop) ins := by
 rintro ins _ ⟨i, w, rfl, h, h1, hw⟩
 refine st_ret rfl ?_
 exact congrArg (fun x => [EV.i x]) (topQ h h1 hw)
theorem hQTop : cQTop.Holds objs Tryz.prog := runCtr_holds (X := { cx Tryz.prog [] with hints := hsQTop }) objsOk mixed noCts (callable _ Tryz.func256 (by kernel_rfl) (by kernel_rfl)) (by rintro ins _ ⟨_, _, rfl, _⟩; rfl) (by rw [rQTop]; exact vQTop _ _)
theorem ofInt_small (a : Nat) (ha : a < 18446744073709551616) : (BitVec.ofInt 64 (a : Int)).toNat = a := by
 rw [BitVec.ofInt_natCast, BitVec.toNat_ofNat]; exact Nat.mod_eq_of_lt (by omega)
theorem i64_and_nat (a b : Nat) (ha : a < 4611686018427387904) (hb : b < 18446744073709551616) : bits .and .i64 (a : Int) (b : Int) = ((a &&& b : Nat) : Int) := by
 have hx : a &&& b ≤ a := Nat.and_le_left
 show IntKind.i64.wrap ((BitVec.ofInt 64 (a : Int) &&& BitVec.ofInt 64 (b : Int)).toNat : Int) = _
 rw [BitVec.toNat_and, ofInt_small a (by omega), ofInt_small b hb]
 exact wrap_small (by omega) (by omega)
theorem and_mod_i (k : Nat) (a : Int) (hk : k < 64) (h0 : 0 ≤ a) (h1 : a < 4611686018427387904) : bits .and .i64 a (2 ^ k - 1) = a % 2 ^ k := by
 obtain ⟨x, rfl⟩ := Int.eq_ofNat_of_zero_le h0
 have hp : 0 < 2 ^ k := Nat.two_pow_pos k
 have hq : 2 ^ k ≤ 2 ^ 63 := Nat.pow_le_pow_right (by omega) (by omega)
 have e : (2 : Int) ^ k - 1 = ((2 ^ k - 1 : Nat) : Int) := by
  rw [Int.ofNat_sub hp]; simp
 rw [e, i64_and_nat x (2 ^ k - 1) (by omega) (by omega), Nat.and_two_pow_sub_one_eq_mod]
 simp
theorem and_i48 {x : Int} (h0 : 0 ≤ x) (h1 : x < 562949953421312) : binDen .and .i64 x 281474976710655 = x % 281474976710656 := and_mod_i 48 x (by decide) h0 (by omega)
theorem tag_next {w : Int} (h : isW w) : binDen .and .i64 (binDen .add .i64 (w / 65536) 1) 281474976710655 = (w / 65536 + 1) % 281474976710656 := by
 obtain ⟨h0, h1⟩ := h
 rw [show binDen .add .i64 (w / 65536) 1 = w / 65536 + 1 from wrap_small (by omega) (by omega), and_i48 (by omega) (by omega)]
theorem tag_next' {w : Int} (h : isW w) : bits .and .i64 (IntKind.i64.wrap (w / 65536 + 1)) 281474976710655 = (w / 65536 + 1) % 281474976710656 := tag_next h
theorem pre_puT {i w : Int} (h : -1 ≤ i) (h1 : i ≤ 65534) : cPuT.pre [.i i, .i ((w / 65536 + 1) % 281474976710656)] := ⟨_, _, rfl, h, h1, by omega, by omega⟩
theorem out_add (M : MemSt) (x y : Int) : cAdd.out [.u (.mem M), .i x, .i y] = [.u (.mem (M.add x y)), .i (M.add x y).n] := rfl
theorem fine_add {M : MemSt} (h : M.fine) (x y : Int) : (M.add x y).fine := fine_acc h ⟨wrap64_lo _, by simp [IntKind.wrap, IntKind.signed, IntKind.bits]; omega⟩
theorem len_add (M : MemSt) (x y : Int) : (M.add x y).W.length = M.W.length := len_acc _ _ _ _ _
set_option maxHeartbeats 1000000 in
theorem vAdd (P : Program) (hs : List (Nat × Nat × List Nat)) : ∀ ins, ins.length = cAdd.nin → cAdd.pre ins → tAdd.sat { cx P [] with hints := hs } (ctrR cAdd) ins := by
 rintro ins _ ⟨M, at_, x, rfl⟩
 simp only [Tree.sat, Bx.den, Ex.den, Bnd.den, gI, gB, gL, gF, gN, gNil, List.map_cons, List.map_nil, List.cons_append, List.nil_append, List.getElem?_cons_zero, List.getElem?_cons_succ, List.getD, Option.getD_some, cmp_eql_t, cmp_eql_f, cmp_neq_t, cmp_neq_f, cmp_lss_t, cmp_lss_f, cmp_leq_t, cmp_leq_f, cmp_gtr_t, cmp_gtr_f, cmp_geq_t, cmp_geq_f, Bool.not_eq_true', Bool.not_eq_false', Bool.and_eq_true, Bool.and_eq_false_iff, binDen, ctrR, Ctr.may, List.take_succ_cons, List.take_zero, Option.some.injEq, EV.u.injEq, tAdd, cx, objs]
 refine ⟨?_, nomore_mem⟩
 rintro ps hl ⟨l, s, k, a, o, n, h, N, rfl, h1, h2, h3⟩ he
 injection he with he; subst he
 simp only [Tree.sat, Bx.den, Ex.den, Bnd.den, gI, gB, gL, gF, gN, gNil, List.map_cons, List.map_nil, List.cons_append, List.nil_append, List.getElem?_cons_zero, List.getElem?_cons_succ, List.getD, Option.getD_some, cmp_eql_t, cmp_eql_f, cmp_neq_t, cmp_neq_f, cmp_lss_t, cmp_lss_f, cmp_leq_t, cmp_leq_f, cmp_gtr_t, cmp_gtr_f, cmp_geq_t, cmp_geq_f, Bool.not_eq_true', Bool.not_eq_false', Bool.and_eq_true, Bool.and_eq_false_iff, binDen, ctrR, Ctr.may, List.take_succ_cons, List.take_zero, Option.some.injEq, EV.u.injEq, memT, memObj, cAdd, List.length_set]
 refine ⟨fun g => ⟨memOk_mk h1 h2 h3, ?_⟩, fun g => ⟨fun g2 => ⟨memOk_mk h1 h2 h3, ?_⟩, fun g2 => ⟨by omega, by omega, by omega, by omega, by omega, by omega, by omega, by omega, memOk_mk (by simpa using h1) h2 h3, ?_⟩⟩⟩
 · rw [MemSt.add, mem_out h1 h2 h3 (.inl g)]
 · rw [MemSt.add, mem_out h1 h2 h3 (.inr g2)]
 · rw [MemSt.add, mem_word (by omega) (by omega), mem_in h1 h3 (by omega) (by omega)]
theorem hAdd : cAdd.Holds objs Tryz.prog := runCtr_holds (X := { cx Tryz.prog [] with hints := hsAdd }) objsOk mixed noCts (callable _ Tryz.func119 (by kernel_rfl) (by kernel_rfl)) (by rintro ins _ ⟨_, _, _, rfl⟩; rfl) (by rw [rAdd]; exact vAdd _ _)
set_option maxHeartbeats 1000000 in
theorem vQAdd (P : Program) (hs : List (Nat × Nat × List Nat)) : ∀ ins, ins.length = cQAdd.nin → cQAdd.pre ins → tQAdd.sat { cx P [] with hints := hs } (ctrR cQAdd) ins := by
 rintro ins _ ⟨M, at_, x, rfl, hM⟩
 simp only [Tree.sat, Bx.den, Ex.den, Bnd.den, gI, gB, gL, gF, gN, gNil, List.map_cons, List.map_nil, List.cons_append, List.nil_append, List.getElem?_cons_zero, List.getElem?_cons_succ, List.getD, Option.getD_some, cmp_eql_t, cmp_eql_f, cmp_neq_t, cmp_neq_f, cmp_lss_t, cmp_lss_f, cmp_leq_t, cmp_leq_f, cmp_gtr_t, cmp_gtr_f, cmp_geq_t, cmp_geq_f, Bool.not_eq_true', Bool.not_eq_false', Bool.and_eq_true, Bool.and_eq_false_iff, binDen, ctrR, Ctr.may, List.take_succ_cons, List.take_zero, Option.some.injEq, EV.u.injEq, tQAdd, cx, objs]
 refine ⟨?_, nomore_rmem⟩
 rintro ps hl ⟨l, s, k, a, o, n, h, N, rfl, hlen⟩ he
 injection he with he; subst he
 have hM : l.length ≤ 4096 := hM
 simp only [Tree.sat, Bx.den, Ex.den, Bnd.den, gI, gB, gL, gF, gN, gNil, List.map_cons, List.map_nil, List.cons_append, List.nil_append, List.getElem?_cons_zero, List.getElem?_cons_succ, List.getD, Option.getD_some, cmp_eql_t, cmp_eql_f, cmp_neq_t, cmp_neq_f, cmp_lss_t, cmp_lss_f, cmp_leq_t, cmp_leq_f, cmp_gtr_t, cmp_gtr_f, cmp_geq_t, cmp_geq_f, Bool.not_eq_true', Bool.not_eq_false', Bool.and_eq_true, Bool.and_eq_false_iff, binDen, ctrR, Ctr.may, List.take_succ_cons, List.take_zero, Option.some.injEq, EV.u.injEq, rmemT, rmemObj, cQAdd, List.length_set]
 repeat' (first | with_reducible apply And.intro | intro _)
 all_goals first
  | omega
  | exact rmemOk_mk (by simpa using hlen)
  | trivial
  | (rw [add_out (M := ⟨l, k, a, o, n, h, N⟩) (by show at_ < 0 ∨ (l.length : Int) ≤ at_; omega)])
  | (rw [add_in (M := ⟨l, k, a, o, n, h, N⟩) (by omega) (by show at_ < (l.length : Int); omega), set_get (by omega)])
theorem hQAdd : cQAdd.Holds objs Tryz.prog := runCtr_holds (X := { cx Tryz.prog [] with hints := hsQAdd }) objsOk mixed noCts (callable _ Tryz.func230 (by kernel_rfl) (by kernel_rfl)) (by rintro ins _ ⟨_, _, _, rfl, _⟩; rfl) (by rw [rQAdd]; exact vQAdd _ _)
end Go.Proofs.YtdldcofddfkkbaaGreat
