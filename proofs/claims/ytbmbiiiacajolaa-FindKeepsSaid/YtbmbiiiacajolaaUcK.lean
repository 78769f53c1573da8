/- Texts of this proof. -/
import Derived.Test.YtbmbiiiacajolaaUbTK
import Derived.Test.YtbmbiiiacajolaaYbVK
import Derived.Test.YtbmbiiiacajolaaXbK
namespace Go.Proofs.Ytbmbiiiacajolaa
set_option linter.unusedVariables false
set_option linter.unusedSimpArgs false
set_option linter.unusedSectionVars false
open Go Go.RowKit
section
variable {s H n ck ch ci cl l : Int} {M : MemSt} {ks hs is ls : List Int}
theorem rowL_in {i : Int} (h0 : 0 ≤ i) (h : i < n) (hl : l < nthL is i) : rowL n is l i = i :: rowL n is l (i + 1) := by
 unfold rowL
 have e : (n - i).toNat = (n - (i + 1)).toNat + 1 := by omega
 rw [e, upN, List.filter_cons]; simp [hl]
theorem rowL_no {i : Int} (h0 : 0 ≤ i) (h : i < n) (hl : ¬ l < nthL is i) : rowL n is l i = rowL n is l (i + 1) := by
 unfold rowL
 have e : (n - i).toNat = (n - (i + 1)).toNat + 1 := by omega
 rw [e, upN, List.filter_cons]; simp [hl]
theorem rowL_end {i : Int} (h : n ≤ i) : rowL n is l i = [] := by
 unfold rowL
 have e : (n - i).toNat = 0 := by omega
 rw [e]; rfl
theorem rowL_behind : rowL n is l 0 = (KL.mk' n H ks hs is).behind (-1) l := by
 show _ = (upN (n - 1 - -1).toNat (-1 + 1)).filter _
 have e : n - 1 - -1 = n - 0 := by omega
 rw [e]; rfl
theorem upN_len : ∀ (k : Nat) (a : Int), (upN k a).length = k
 | 0, _ => rfl
 | k + 1, a => by rw [upN, List.length_cons, upN_len k]
theorem rowL_len {i : Int} : (rowL n is l i).length ≤ (n - i).toNat := by
 unfold rowL
 exact Nat.le_trans (List.length_filter_le _ _) (by rw [upN_len]; omega)
theorem row_e (c : List Int) : (fun (c : List Int) (ins : List (EV U)) => ([.l (rowL (gI ins 13) (gL ins 21) (gI ins 23) 0 ++ c), .i (rowL (gI ins 13) (gL ins 21) (gI ins 23) 0).length, .i (((rowL (gI ins 13) (gL ins 21) (gI ins 23) 0).length + c.length : Nat) : Int)] : List (EV U))) c ((LsE.mk s H n ck ch ci cl M ks hs is ls).env ++ [.i l]) = [.l (rowL n is l 0 ++ c), .i (rowL n is l 0).length, .i (((rowL n is l 0).length + c.length : Nat) : Int)] := rfl
theorem row_ret {xs R : List Int} {m cap : Int} (h : xs.take m.toNat = R) (m0 : 0 ≤ m) (h1 : m ≤ xs.length) (hc : cap = xs.length) : ∃ c : List Int, ([.l xs, .i m, .i cap] : List (EV U)) = [.l (R ++ c), .i R.length, .i ((R.length + c.length : Nat) : Int)] := by
 have hR : R.length = m.toNat := by rw [← h, List.length_take]; omega
 refine ⟨xs.drop m.toNat, ?_⟩
 rw [← h, List.take_append_drop, List.length_take, List.length_drop, hc]
 have a : ((min m.toNat xs.length : Nat) : Int) = m := by omega
 have b : ((min m.toNat xs.length + (xs.length - m.toNat) : Nat) : Int) = xs.length := by omega
 rw [a, b]
end
set_option maxRecDepth 10000
set_option maxHeartbeats 8000000
theorem bLRow (P : Program) (hs' : List (Nat × Nat × List Nat)) : ∀ env, lrInv env → tLRowL0.sat { cxUr P [lLRow] with hints := hs' } (ctrR cLRow) env := by
 rintro env ⟨E, l, i, m, xs, cap, rfl, hE, l0, l1, i0, i1, m0, m1, hcap, mc, hx⟩
 obtain ⟨s, H, n, ck, ch, ci, cl, M, ks, hs, is, ls⟩ := E
 obtain ⟨hX, hs0, hk, hh, hi, hl, hM, hkw⟩ := id hE
 have hX : (KL.mk' n H ks hs is).ok := hX
 have n0 : 0 ≤ n := hX.n0
 have n9 : n ≤ 9 := hX.n9
 have H1 : 1 ≤ H := hX.H1
 have H4 : H ≤ 4 := hX.H4
 have hs1 : s = if n < 1 then 1 else n := hs0
 have hs2 : 1 ≤ s ∧ s ≤ 9 ∧ n ≤ s := by split at hs1 <;> omega
 have hk : n ≤ ks.length := hk
 have hh : n ≤ hs.length := hh
 have hi : n ≤ is.length := hi
 have hl : n ≤ ls.length := hl
 have i1 : i ≤ n := i1
 have hx : xs.take m.toNat ++ rowL n is l i = rowL n is l 0 := hx
 simp only [LsE.env, List.cons_append, List.nil_append]
 unfold tLRowL0
 repeat' (first
  | (first
    | (with_reducible refine st_need ?_ ?_
       focus (simp only [dn, reduceCtorEq, va_map] <;> first | omega | assumption))
    | (with_reducible refine st_and ?_ ?_)
    | (with_reducible exact st_ok)
    | (with_reducible refine st_br (fun hc => ?_) (fun hc => ?_) <;> (simp only [dn, reduceCtorEq, va_map] at hc) <;> (try (exfalso; first | contradiction | omega)))
    | (refine st_call (by rfl) (by simp only [dn, reduceCtorEq, va_map] <;> rfl) ?_ (by rfl <;> rfl) (by simp only [dn] <;> rfl) ?_
       focus (first | rfl)))
  | (refine st_app (by rfl) (by simp only [dn, reduceCtorEq, va_map] <;> rfl) (by simp only [dn, reduceCtorEq, va_map] <;> rfl) (fun rr env' he => ?_)
     simp only [List.cons_append, List.nil_append] at he
     subst he)
  | (refine st_back (by rfl) (by simp only [dn, reduceCtorEq, va_map] <;> rfl) (by simp only [dn] <;> rfl) (by rfl) ?_ ?_
     focus (rw [wrap_small (n := i + 1) (by omega) (by omega)]
            first
             | (rw [wrap_small (n := m + 1) (by omega) (by omega)]
                refine ⟨⟨s, H, n, ck, ch, ci, cl, M, ks, hs, is, ls⟩, l, _, _, _, _, rfl, hE, l0, l1, by omega, by show i + 1 ≤ n; omega, by omega, by omega, ?_, by omega, ?_⟩
                focus (rw [len_app (by omega)])
                focus (show _ ++ rowL n is l (i + 1) = rowL n is l 0
                       rw [← hx, rowL_in i0 (by omega) (by assumption), toNat_succ m0, take_app rfl (by omega), List.append_assoc]; rfl))
             | (refine ⟨⟨s, H, n, ck, ch, ci, cl, M, ks, hs, is, ls⟩, l, _, _, _, _, rfl, hE, l0, l1, by omega, by show i + 1 ≤ n; omega, m0, by omega, hcap, mc, ?_⟩
                show _ ++ rowL n is l (i + 1) = rowL n is l 0
                rw [← hx, rowL_no (i := i) i0 (by omega) (by unfold nthL; omega)]))
     focus (rw [wrap_small (n := i + 1) (by omega) (by omega)]; show (n - (i + 1)).toNat < (n - i).toNat; omega))
  | (refine st_ret (by simp only [dn, reduceCtorEq, va_map] <;> rfl) ?_
     rw [rowL_end (by omega), List.append_nil] at hx
     exact row_ret hx m0 (by omega) hcap)
  | fail "no step")
theorem vLRow (P : Program) (hs' : List (Nat × Nat × List Nat)) : ∀ ins, ins.length = cLRow.nin → cLRow.pre ins → tLRow.sat { cxUr P [lLRow] with hints := hs' } (ctrR cLRow) ins := by
 rintro ins _ ⟨E, l, rfl, hE, l0, l1⟩
 obtain ⟨s, H, n, ck, ch, ci, cl, M, ks, hs, is, ls⟩ := E
 obtain ⟨hX, hs0, hk, hh, hi, hl, hM, hkw⟩ := id hE
 have hX : (KL.mk' n H ks hs is).ok := hX
 have n0 : 0 ≤ n := hX.n0
 have n9 : n ≤ 9 := hX.n9
 have H1 : 1 ≤ H := hX.H1
 have H4 : H ≤ 4 := hX.H4
 have hs1 : s = if n < 1 then 1 else n := hs0
 have hs2 : 1 ≤ s ∧ s ≤ 9 ∧ n ≤ s := by split at hs1 <;> omega
 have hk : n ≤ ks.length := hk
 have hh : n ≤ hs.length := hh
 have hi : n ≤ is.length := hi
 have hl : n ≤ ls.length := hl
 simp only [LsE.env, List.cons_append, List.nil_append]
 unfold tLRow
 repeat' (first
  | (refine st_lst (by simp only [dn] <;> rfl) ?_)
  | (refine st_loop (by rfl) (by simp only [dn, reduceCtorEq, va_map] <;> rfl) (by simp only [dn] <;> rfl) ?_ (fun env' h => bLRow P hs' env' h)
     exact ⟨⟨s, H, n, ck, ch, ci, cl, M, ks, hs, is, ls⟩, l, 0, 0, [], 0, rfl, hE, l0, l1, by omega, n0, by omega, by omega, rfl, by omega, rfl⟩)
  | (first
    | (with_reducible refine st_need ?_ ?_
       focus (simp only [dn, reduceCtorEq, va_map] <;> first | omega | assumption))
    | (with_reducible refine st_and ?_ ?_)
    | (with_reducible exact st_ok)
    | (with_reducible refine st_br (fun hc => ?_) (fun hc => ?_) <;> (simp only [dn, reduceCtorEq, va_map] at hc) <;> (try (exfalso; first | contradiction | omega)))
    | (refine st_call (by rfl) (by simp only [dn, reduceCtorEq, va_map] <;> rfl) ?_ (by rfl <;> rfl) (by simp only [dn] <;> rfl) ?_
       focus (first | rfl)))
  | fail "no step")
theorem hLRow : cLRow.Holds objs Try.prog := runCtr_holdsm (X := { cxUr Try.prog [lLRow] with hints := hsLRow }) objsOk mixed noCts (callable _ Try.func108 (by kernel_rfl) (by kernel_rfl)) (by rintro ins outs _ ⟨E, l, rfl, _⟩ ⟨c, rfl⟩; rfl) (by rw [rLRow]; exact vLRow _ _)
end Go.Proofs.Ytbmbiiiacajolaa
