/- Texts of this proof. -/
import Derived.Test.YtdldcofddfkkbaaGreatXaTO
namespace Go.Proofs.YtdldcofddfkkbaaGreat
set_option linter.unusedVariables false
set_option linter.unusedSimpArgs false
set_option linter.unusedSectionVars false
open Go Go.RowKit
theorem shl_0 {w : Int} (h : isW w) : binDen .shl .u64 w 0 = w := by
 show IntKind.u64.wrap (w * 2 ^ min (0 : Int).toNat 64) = w
 rw [show (2 : Int) ^ min (0 : Int).toNat 64 = 1 by rfl, Int.mul_one, wrap_u64' h.1 h.2]
theorem shl_16 {w : Int} (h : 0 ≤ w) (h' : w < 281474976710656) : binDen .shl .u64 w 16 = w * 65536 := by
 show IntKind.u64.wrap (w * 2 ^ min (16 : Int).toNat 64) = w * 65536
 rw [show (2 : Int) ^ min (16 : Int).toNat 64 = 65536 by rfl, wrap_u64' (by omega) (by omega)]
theorem or_16 {a b : Int} (h0 : 0 ≤ a) (h1 : a < 65536) (h2 : 0 ≤ b) (h3 : b < 281474976710656) : bits .or .u64 a (b * 65536) = a + b * 65536 := by
 rw [show b * 65536 = 2 ^ 16 * b by omega]
 exact or_add 16 a b h0 h1 h2 (by omega) (by omega)
theorem vPutTop (P : Program) (hs : List (Nat × Nat × List Nat)) : ∀ ins, ins.length = cPutTop.nin → cPutTop.pre ins → tPutTop.sat { cx P [] with hints := hs } (ctrR cPutTop) ins := by
 rintro ins _ ⟨i, t, rfl, h1, h2, h3, h4⟩
 have e1 : binDen .add .i64 i 1 = i + 1 := wrap_small (by omega) (by omega)
 have e2 : IntKind.u64.wrap (i + 1) = i + 1 := wrap_u64' (by omega) (by omega)
 have e3 : IntKind.u64.wrap t = t := wrap_u64' (by omega) (by omega)
 have e4 : binDen .or .u64 0 (i + 1) = i + 1 := or_zero' _ (by omega) (by omega)
 have e5 : binDen .or .u64 (i + 1) (t * 65536) = i + 1 + t * 65536 := or_16 (by omega) (by omega) h3 h4
 unfold tPutTop
 repeat' (first
  | (first
    | (with_reducible refine st_need ?_ ?_
       focus (simp only [dn, reduceCtorEq, h1] <;> first | omega | assumption))
    | (with_reducible refine st_and ?_ ?_)
    | (with_reducible exact st_ok)
    | (with_reducible refine st_br (fun hc => ?_) (fun hc => ?_) <;> (simp only [dn, reduceCtorEq, h1] at hc) <;> (try (exfalso; first | contradiction | omega)))
    | (refine st_call (by rfl) (by simp only [dn, reduceCtorEq, h1] <;> rfl) ?_ (by rfl <;> rfl) (by simp only [dn] <;> rfl) ?_
       focus (first | rfl))
    | (with_reducible refine st_ret (by simp only [dn, reduceCtorEq, h1] <;> rfl) ?_
       (first | rfl | exact ⟨_, rfl⟩)))
  | (refine st_ret (a := ([.i (i + 1 + t * 65536), .i 0] : List (EV U))) ?_ ?_
     focus simp only [List.map_cons, List.map_nil, Bnd.den, Ex.den, gI, List.getElem?_cons_zero, List.getElem?_cons_succ, e1, e2, e3, shl_0 (w := i + 1) ⟨by omega, by omega⟩, shl_16 h3 h4, e4, e5]
     rfl))
theorem hPutTop : cPutTop.Holds objs Tryz.prog := runCtr_holds (X := { cx Tryz.prog [] with hints := hsPutTop }) objsOk mixed noCts (callable _ Tryz.func314 (by kernel_rfl) (by kernel_rfl)) (by rintro ins _ ⟨_, _, rfl, _⟩; rfl) (by rw [rPutTop]; exact vPutTop _ _)
theorem out_putTop (i t : Int) : cPutTop.out [.i i, .i t] = [.i (i + 1 + t * 65536), .i 0] := rfl
section
variable {k : Tree} {env : List (EV U)} {X : Cx U} {R : List (EV U) → List (EV U) → Prop}
theorem st_rngX (hk : ∀ (L : Loop) (env' : List (EV U)), env ++ [.r L] = env' → k.sat X R env') : (Tree.rng k).sat X R env := fun L => hk L _ rfl
end
theorem out_SFill (M : MemSt) (a b n : Int) : cSFill.out [.u (.mem M), .i a, .i b, .i n] = [.u (.mem (fill10 M a b n))] := rfl
theorem out_QSFill (M : MemSt) (a b n : Int) : cQSFill.out [.u (.rmem M), .i a, .i b, .i n] = [.u (.rmem (fill10 M a b n))] := rfl
theorem out_AFill (M : MemSt) (t l s g w m : Int) : cAFill.out [.u (.mem M), .i t, .i l, .i s, .i g, .i w, .i m] = [.u (.mem (fill11 M t l s g w))] := rfl
theorem out_QAFill (M : MemSt) (t l s g w m : Int) : cQAFill.out [.u (.rmem M), .i t, .i l, .i s, .i g, .i w, .i m] = [.u (.rmem (fill11 M t l s g w))] := rfl
theorem out_EFill (M : MemSt) (a b n : Int) : cEFill.out [.u (.mem M), .i a, .i b, .i n] = [.u (.mem (fill12 M a b n))] := rfl
theorem out_QEFill (M : MemSt) (a b n : Int) : cQEFill.out [.u (.rmem M), .i a, .i b, .i n] = [.u (.rmem (fill12 M a b n))] := rfl
theorem out_LFill (M : MemSt) (t l s g w m ea ep ec tp : Int) : cLFill.out [.u (.mem M), .i t, .i l, .i s, .i g, .i w, .i m, .i ea, .i ep, .i ec, .i tp] = [.u (.mem (fill13 M t l s g w ea ep ec tp))] := rfl
theorem out_QLFill (M : MemSt) (t l s g w m ea ep ec tp : Int) : cQLFill.out [.u (.rmem M), .i t, .i l, .i s, .i g, .i w, .i m, .i ea, .i ep, .i ec, .i tp] = [.u (.rmem (fill13 M t l s g w ea ep ec tp))] := rfl
theorem out_TFill (M : MemSt) (n h a t l s g w m ea ep ec tp : Int) : cTFill.out [.u (.mem M), .i n, .i h, .i a, .i t, .i l, .i s, .i g, .i w, .i m, .i ea, .i ep, .i ec, .i tp] = [.u (.mem (fill15 M n h a t l s g w ea ep ec tp))] := rfl
theorem out_QTFill (M : MemSt) (n h a t l s g w m ea ep ec tp : Int) : cQTFill.out [.u (.rmem M), .i n, .i h, .i a, .i t, .i l, .i s, .i g, .i w, .i m, .i ea, .i ep, .i ec, .i tp] = [.u (.rmem (fill15 M n h a t l s g w ea ep ec tp))] := rfl
set_option maxHeartbeats 2000000 in
theorem vSFill (P : Program) (hs : List (Nat × Nat × List Nat)) : ∀ ins, ins.length = cSFill.nin → cSFill.pre ins → tSFill.sat { cxXS P with hints := hs } (ctrR cSFill) ins := by
 have hb : ∀ env, sfInv env → tSFillL0.sat { cxXS P with hints := hs } (ctrR cSFill) env := by
  rintro env ⟨M, a, b, n, x0, x1, x2, i, rfl, h1, hM, h2, h3, h4⟩
  have e0 : IntKind.i64.wrap (i + 1) = i + 1 := wrap_small (by omega) (by omega)
  unfold tSFillL0
  repeat' (first
   | (first
     | (with_reducible refine st_need ?_ ?_
        focus (simp only [dn, reduceCtorEq, e0] <;> first | omega | assumption))
     | (with_reducible refine st_and ?_ ?_)
     | (with_reducible exact st_ok)
     | (with_reducible refine st_br (fun hc => ?_) (fun hc => ?_) <;> (simp only [dn, reduceCtorEq, e0] at hc) <;> (try (exfalso; first | contradiction | omega)))
     | (refine st_call (by rfl) (by simp only [dn, reduceCtorEq, e0] <;> rfl) ?_ (by simp only [out_store, out_putTop] <;> rfl) (by simp only [dn] <;> rfl) ?_
        focus (first | exact ⟨_, _, _, rfl⟩ | exact ⟨_, _, _, _, rfl, by first | exact hM | (simp only [len_store, len_fillK, len_fillR, len_fill10, len_fill11, len_fill12, len_fill13]; exact hM)⟩ | exact ⟨_, _, _, _, _, _, _, rfl, by first | exact hM | (simp only [len_store, len_fillK, len_fillR, len_fill10, len_fill11, len_fill12, len_fill13]; exact hM)⟩ | exact ⟨_, _, _, _, _, _, _, _, _, _, _, rfl, by first | exact hM | (simp only [len_store, len_fillK, len_fillR, len_fill10, len_fill11, len_fill12, len_fill13]; exact hM)⟩ | exact ⟨_, _, _, _, _, _, _, _, _, _, _, _, _, rfl⟩ | exact ⟨_, _, rfl, by decide, by decide, by decide, by decide⟩ | exact ⟨_, _, rfl, by omega, by omega, by decide, by decide⟩)))
   | (refine st_back (by rfl) (by simp only [dn, reduceCtorEq, e0] <;> rfl) (by simp only [dn] <;> rfl) (by rfl) ?_ ?_
      focus (refine ⟨M, a, b, n, x0, x1, x2, i + 1, ?_, by omega, hM, by omega, h3, h4⟩
             rw [fillK_succ _ _ _ _ h1]
             first
              | (rw [if_pos (by omega)]; try rfl)
              | (rw [if_neg (by omega), show i + 1 + 1 + 0 * 65536 = i + 2 by omega]; try rfl))
      focus (show (n - (i + 1)).toNat < (n - i).toNat; omega))
   | (refine st_ret (by simp only [dn, reduceCtorEq, e0] <;> rfl) ?_
      have hi : i = n := by omega
      subst hi
      show _ = [EV.u (U.mem (fill10 M a b i))]
      rw [fill10, if_pos ⟨h3, h4⟩])
   | fail "no step")
 rintro ins _ ⟨M, a, b, n, rfl, hM⟩
 unfold tSFill
 repeat' (first
  | (first
    | (with_reducible refine st_need ?_ ?_
       focus (simp only [dn, reduceCtorEq, hb] <;> first | omega | assumption))
    | (with_reducible refine st_and ?_ ?_)
    | (with_reducible exact st_ok)
    | (with_reducible refine st_br (fun hc => ?_) (fun hc => ?_) <;> (simp only [dn, reduceCtorEq, hb] at hc) <;> (try (exfalso; first | contradiction | omega)))
    | (refine st_call (by rfl) (by simp only [dn, reduceCtorEq, hb] <;> rfl) ?_ (by simp only [out_store, out_putTop] <;> rfl) (by simp only [dn] <;> rfl) ?_
       focus (first | exact ⟨_, _, _, rfl⟩ | exact ⟨_, _, _, _, rfl, by first | exact hM | (simp only [len_store, len_fillK, len_fillR, len_fill10, len_fill11, len_fill12, len_fill13]; exact hM)⟩ | exact ⟨_, _, _, _, _, _, _, rfl, by first | exact hM | (simp only [len_store, len_fillK, len_fillR, len_fill10, len_fill11, len_fill12, len_fill13]; exact hM)⟩ | exact ⟨_, _, _, _, _, _, _, _, _, _, _, rfl, by first | exact hM | (simp only [len_store, len_fillK, len_fillR, len_fill10, len_fill11, len_fill12, len_fill13]; exact hM)⟩ | exact ⟨_, _, _, _, _, _, _, _, _, _, _, _, _, rfl⟩ | exact ⟨_, _, rfl, by decide, by decide, by decide, by decide⟩ | exact ⟨_, _, rfl, by omega, by omega, by decide, by decide⟩)))
  | (refine st_loop (by rfl) (by simp only [dn, reduceCtorEq, hb] <;> rfl) (by simp only [dn] <;> rfl) ?_ (fun env' h => hb env' h)
     exact ⟨_, _, _, _, _, _, _, 0, rfl, by omega, hM, by omega, by omega, by omega⟩)
  | (refine st_ret (by simp only [dn, reduceCtorEq, hb] <;> rfl) ?_
     show _ = [EV.u (U.mem (fill10 M a b n))]
     rw [fill10, if_neg (by omega)])
  | fail "no step")
theorem hctsXS : ∀ (ci : Nat) (c : Ctr U), ctsXS[ci]? = some c → c.Holds objs Tryz.prog := by
 intro ci c h
 match ci, h with
 | 0, h => cases h; exact hStore
 | 1, h => cases h; exact hPutTop
 | n + 2, h => cases h
theorem hSFill : cSFill.Holds objs Tryz.prog := runCtr_holds (X := { cxXS Tryz.prog with hints := hsSFill }) objsOk mixed hctsXS (callable _ Tryz.func252 (by kernel_rfl) (by kernel_rfl)) (by rintro ins _ ⟨_, _, _, _, rfl, _⟩; rfl) (by rw [rSFill]; exact vSFill _ _)
set_option maxHeartbeats 2000000 in
theorem vQSFill (P : Program) (hs : List (Nat × Nat × List Nat)) : ∀ ins, ins.length = cQSFill.nin → cQSFill.pre ins → tQSFill.sat { cxXQS P with hints := hs } (ctrR cQSFill) ins := by
 have hb : ∀ env, qsfInv env → tQSFillL0.sat { cxXQS P with hints := hs } (ctrR cQSFill) env := by
  rintro env ⟨M, a, b, n, x0, i, rfl, h1, hM, h2, h4⟩
  have e0 : IntKind.i64.wrap (i + 1) = i + 1 := wrap_small (by omega) (by omega)
  have e1 : IntKind.i64.wrap (i + 2) = i + 2 := wrap_small (by omega) (by omega)
  have e2 : IntKind.u64.wrap (i + 2) = i + 2 := wrap_u64' (by omega) (by omega)
  have e3 : IntKind.i64.wrap (n - 1) = n - 1 := wrap_small (by omega) (by omega)
  have e4 : IntKind.i64.wrap (IntKind.i64.wrap (b + n) - 1) = IntKind.i64.wrap (b + (n - 1)) := by simp only [IntKind.wrap_i64]; omega
  unfold tQSFillL0
  repeat' (first
   | (first
     | (with_reducible refine st_need ?_ ?_
        focus (simp only [dn, reduceCtorEq, e0, e1, e2, e3, e4] <;> first | omega | assumption))
     | (with_reducible refine st_and ?_ ?_)
     | (with_reducible exact st_ok)
     | (with_reducible refine st_br (fun hc => ?_) (fun hc => ?_) <;> (simp only [dn, reduceCtorEq, e0, e1, e2, e3, e4] at hc) <;> (try (exfalso; first | contradiction | omega)))
     | (refine st_call (by rfl) (by simp only [dn, reduceCtorEq, e0, e1, e2, e3, e4] <;> rfl) ?_ (by simp only [fo_store] <;> rfl) (by simp only [dn] <;> rfl) ?_
        focus (first | exact ⟨_, _, _, rfl, by first | exact hM | (simp only [len_store, len_fillK, len_fillR, len_fill10, len_fill11, len_fill12, len_fill13]; exact hM)⟩ | exact ⟨_, _, _, _, rfl, by first | exact hM | (simp only [len_store, len_fillK, len_fillR, len_fill10, len_fill11, len_fill12, len_fill13]; exact hM)⟩ | exact ⟨_, _, _, _, _, _, _, rfl, by first | exact hM | (simp only [len_store, len_fillK, len_fillR, len_fill10, len_fill11, len_fill12, len_fill13]; exact hM)⟩ | exact ⟨_, _, _, _, _, _, _, _, _, _, _, rfl, by first | exact hM | (simp only [len_store, len_fillK, len_fillR, len_fill10, len_fill11, len_fill12, len_fill13]; exact hM)⟩ | exact ⟨_, _, _, _, _, _, _, _, _, _, _, _, _, rfl⟩)))
   | (refine st_back (by rfl) (by simp only [dn, reduceCtorEq, e0, e1, e2, e3] <;> rfl) (by simp only [dn] <;> rfl) (by rfl) ?_ ?_
      focus (refine ⟨M, a, b, n, x0, i + 1, ?_, by omega, hM, by omega, h4⟩
             rw [fillK_succ _ _ _ _ h1, if_neg (by omega)]; rfl)
      focus (show (n - (i + 1)).toNat < (n - i).toNat; omega))
   | (refine st_ret (by simp only [dn, reduceCtorEq, e0] <;> rfl) ?_
      have hi : n = i + 1 := by omega
      subst hi
      show _ = [EV.u (U.rmem (fill10 M a b (i + 1)))]
      rw [fill10, if_pos ⟨by omega, h4⟩, fillK_succ _ _ _ _ h1, if_pos rfl, show i + 1 - 1 = i by omega])
   | fail "no step")
 rintro ins _ ⟨M, a, b, n, rfl, hM⟩
 unfold tQSFill
 repeat' (first
  | (first
    | (with_reducible refine st_need ?_ ?_
       focus (simp only [dn, reduceCtorEq, hb] <;> first | omega | assumption))
    | (with_reducible refine st_and ?_ ?_)
    | (with_reducible exact st_ok)
    | (with_reducible refine st_br (fun hc => ?_) (fun hc => ?_) <;> (simp only [dn, reduceCtorEq, hb] at hc) <;> (try (exfalso; first | contradiction | omega)))
    | (refine st_call (by rfl) (by simp only [dn, reduceCtorEq, hb] <;> rfl) ?_ (by simp only [fo_store] <;> rfl) (by simp only [dn] <;> rfl) ?_
       focus (first | exact ⟨_, _, _, rfl, by first | exact hM | (simp only [len_store, len_fillK, len_fillR, len_fill10, len_fill11, len_fill12, len_fill13]; exact hM)⟩ | exact ⟨_, _, _, _, rfl, by first | exact hM | (simp only [len_store, len_fillK, len_fillR, len_fill10, len_fill11, len_fill12, len_fill13]; exact hM)⟩ | exact ⟨_, _, _, _, _, _, _, rfl, by first | exact hM | (simp only [len_store, len_fillK, len_fillR, len_fill10, len_fill11, len_fill12, len_fill13]; exact hM)⟩ | exact ⟨_, _, _, _, _, _, _, _, _, _, _, rfl, by first | exact hM | (simp only [len_store, len_fillK, len_fillR, len_fill10, len_fill11, len_fill12, len_fill13]; exact hM)⟩ | exact ⟨_, _, _, _, _, _, _, _, _, _, _, _, _, rfl⟩)))
  | (refine st_loop (by rfl) (by simp only [dn, reduceCtorEq, hb] <;> rfl) (by simp only [dn] <;> rfl) ?_ (fun env' h => hb env' h)
     exact ⟨_, _, _, _, _, 0, rfl, by omega, hM, by omega, by omega⟩)
  | (refine st_ret (by simp only [dn, reduceCtorEq, hb] <;> rfl) ?_
     show _ = [EV.u (U.rmem (fill10 M a b n))]
     rw [fill10, if_neg (by omega)])
  | fail "no step")
theorem hctsXQS : ∀ (ci : Nat) (c : Ctr U), ctsXQS[ci]? = some c → c.Holds objs Tryz.prog := by
 intro ci c h
 match ci, h with
 | 0, h => cases h; exact hQStore
 | n + 1, h => cases h
theorem hQSFill : cQSFill.Holds objs Tryz.prog := runCtr_holds (X := { cxXQS Tryz.prog with hints := hsQSFill }) objsOk mixed hctsXQS (callable _ Tryz.func254 (by kernel_rfl) (by kernel_rfl)) (by rintro ins _ ⟨_, _, _, _, rfl, _⟩; rfl) (by rw [rQSFill]; exact vQSFill _ _)
set_option maxHeartbeats 2000000 in
theorem bAFill (P : Program) (hs : List (Nat × Nat × List Nat)) : ∀ env, afInv env → tAFillL0.sat { cxXA P with hints := hs } (ctrR cAFill) env := by
 rintro env ⟨M, t, l, s, g, w, m, x0, x1, i, rfl, h1, hM, h3, h4, h5⟩
 have e0 : IntKind.i64.wrap (i + 1) = i + 1 := wrap_small (by omega) (by omega)
 by_cases hi : i < s
 all_goals
  unfold tAFillL0
  repeat' (first
   | (first
     | (with_reducible refine st_need ?_ ?_
        focus (simp only [dn, reduceCtorEq, e0] <;> first | omega | assumption))
     | (with_reducible refine st_and ?_ ?_)
     | (with_reducible exact st_ok)
     | (with_reducible refine st_br (fun hc => ?_) (fun hc => ?_) <;> (simp only [dn, reduceCtorEq, e0] at hc) <;> (try (exfalso; first | contradiction | omega)))
     | (refine st_call (by rfl) (by simp only [dn, reduceCtorEq, e0] <;> rfl) ?_ (by simp only [out_store, out_SFill] <;> rfl) (by simp only [dn] <;> rfl) ?_
        focus (first | exact ⟨_, _, _, rfl⟩ | exact ⟨_, _, _, _, rfl, by first | exact hM | (simp only [len_store, len_fillK, len_fillR, len_fill10, len_fill11, len_fill12, len_fill13]; exact hM)⟩ | exact ⟨_, _, _, _, _, _, _, rfl, by first | exact hM | (simp only [len_store, len_fillK, len_fillR, len_fill10, len_fill11, len_fill12, len_fill13]; exact hM)⟩ | exact ⟨_, _, _, _, _, _, _, _, _, _, _, rfl, by first | exact hM | (simp only [len_store, len_fillK, len_fillR, len_fill10, len_fill11, len_fill12, len_fill13]; exact hM)⟩ | exact ⟨_, _, _, _, _, _, _, _, _, _, _, _, _, rfl⟩)))
   | (refine st_back (by rfl) (by simp only [dn, reduceCtorEq, e0] <;> rfl) (by simp only [dn] <;> rfl) (by rfl) ?_ ?_
      focus exact ⟨M, t, l, s, g, w, m, x0, x1, i + 1, by rw [fillR_succ _ _ _ h1]; rfl, by omega, hM, by omega, h4, h5⟩
      focus (show (s - (i + 1)).toNat < (s - i).toNat; omega))
   | (refine st_ret (by simp only [dn, reduceCtorEq, e0] <;> rfl) ?_
      focus (obtain rfl : i = s := by omega
             show _ = [EV.u (U.mem (fill11 M t l i g w))]
             rw [fill11, if_pos ⟨h4, h5⟩]))
   | fail "no step")
set_option maxHeartbeats 2000000 in
theorem vAFill (P : Program) (hs : List (Nat × Nat × List Nat)) : ∀ ins, ins.length = cAFill.nin → cAFill.pre ins → tAFill.sat { cxXA P with hints := hs } (ctrR cAFill) ins := by
 rintro ins _ ⟨M, t, l, s, g, w, m, rfl, hM⟩
 unfold tAFill
 repeat' (first
  | (first
    | (with_reducible refine st_need ?_ ?_
       focus (simp only [dn, reduceCtorEq, hM] <;> first | omega | assumption))
    | (with_reducible refine st_and ?_ ?_)
    | (with_reducible exact st_ok)
    | (with_reducible refine st_br (fun hc => ?_) (fun hc => ?_) <;> (simp only [dn, reduceCtorEq, hM] at hc) <;> (try (exfalso; first | contradiction | omega)))
    | (refine st_call (by rfl) (by simp only [dn, reduceCtorEq, hM] <;> rfl) ?_ (by simp only [out_store, out_SFill] <;> rfl) (by simp only [dn] <;> rfl) ?_
       focus (first | exact ⟨_, _, _, rfl⟩ | exact ⟨_, _, _, _, rfl, by first | exact hM | (simp only [len_store, len_fillK, len_fillR, len_fill10, len_fill11, len_fill12, len_fill13]; exact hM)⟩ | exact ⟨_, _, _, _, _, _, _, rfl, by first | exact hM | (simp only [len_store, len_fillK, len_fillR, len_fill10, len_fill11, len_fill12, len_fill13]; exact hM)⟩ | exact ⟨_, _, _, _, _, _, _, _, _, _, _, rfl, by first | exact hM | (simp only [len_store, len_fillK, len_fillR, len_fill10, len_fill11, len_fill12, len_fill13]; exact hM)⟩ | exact ⟨_, _, _, _, _, _, _, _, _, _, _, _, _, rfl⟩)))
  | (refine st_loop (by rfl) (by simp only [dn, reduceCtorEq, hM] <;> rfl) (by simp only [dn] <;> rfl) ?_ (fun env' h => bAFill P hs env' h)
     exact ⟨M, t, l, s, g, w, m, _, _, 0, rfl, by omega, hM, by omega, by omega, by omega⟩)
  | (refine st_ret (by simp only [dn, reduceCtorEq, hM] <;> rfl) ?_
     focus (show _ = [EV.u (U.mem (fill11 M t l s g w))]
            rw [fill11, if_neg (by omega)]))
  | fail "no step")
theorem hctsXA : ∀ (ci : Nat) (c : Ctr U), ctsXA[ci]? = some c → c.Holds objs Tryz.prog := by
 intro ci c h
 match ci, h with
 | 0, h => cases h; exact hStore
 | 1, h => cases h; exact hSFill
 | n + 2, h => cases h
theorem hAFill : cAFill.Holds objs Tryz.prog := runCtr_holds (X := { cxXA Tryz.prog with hints := hsAFill }) objsOk mixed hctsXA (callable _ Tryz.func169 (by kernel_rfl) (by kernel_rfl)) (by rintro ins _ ⟨_, _, _, _, _, _, _, rfl, _⟩; rfl) (by rw [rAFill]; exact vAFill _ _)
set_option maxHeartbeats 2000000 in
theorem bQAFill (P : Program) (hs : List (Nat × Nat × List Nat)) : ∀ env, qafInv env → tQAFillL0.sat { cxXQA P with hints := hs } (ctrR cQAFill) env := by
 rintro env ⟨M, t, l, s, g, w, m, x0, x1, i, rfl, h1, hM, h3, h4, h5⟩
 have e0 : IntKind.i64.wrap (i + 1) = i + 1 := wrap_small (by omega) (by omega)
 by_cases hi : i < s
 all_goals
  unfold tQAFillL0
  repeat' (first
   | (first
     | (with_reducible refine st_need ?_ ?_
        focus (simp only [dn, reduceCtorEq, e0] <;> first | omega | assumption))
     | (with_reducible refine st_and ?_ ?_)
     | (with_reducible exact st_ok)
     | (with_reducible refine st_br (fun hc => ?_) (fun hc => ?_) <;> (simp only [dn, reduceCtorEq, e0] at hc) <;> (try (exfalso; first | contradiction | omega)))
     | (refine st_call (by rfl) (by simp only [dn, reduceCtorEq, e0] <;> rfl) ?_ (by simp only [fo_store, out_QSFill] <;> rfl) (by simp only [dn] <;> rfl) ?_
        focus (first | exact ⟨_, _, _, rfl, by first | exact hM | (simp only [len_store, len_fillK, len_fillR, len_fill10, len_fill11, len_fill12, len_fill13]; exact hM)⟩ | exact ⟨_, _, _, _, rfl, by first | exact hM | (simp only [len_store, len_fillK, len_fillR, len_fill10, len_fill11, len_fill12, len_fill13]; exact hM)⟩ | exact ⟨_, _, _, _, _, _, _, rfl, by first | exact hM | (simp only [len_store, len_fillK, len_fillR, len_fill10, len_fill11, len_fill12, len_fill13]; exact hM)⟩ | exact ⟨_, _, _, _, _, _, _, _, _, _, _, rfl, by first | exact hM | (simp only [len_store, len_fillK, len_fillR, len_fill10, len_fill11, len_fill12, len_fill13]; exact hM)⟩ | exact ⟨_, _, _, _, _, _, _, _, _, _, _, _, _, rfl⟩)))
   | (refine st_back (by rfl) (by simp only [dn, reduceCtorEq, e0] <;> rfl) (by simp only [dn] <;> rfl) (by rfl) ?_ ?_
      focus exact ⟨M, t, l, s, g, w, m, x0, x1, i + 1, by rw [fillR_succ _ _ _ h1]; rfl, by omega, hM, by omega, h4, h5⟩
      focus (show (s - (i + 1)).toNat < (s - i).toNat; omega))
   | (refine st_ret (by simp only [dn, reduceCtorEq, e0] <;> rfl) ?_
      focus (obtain rfl : i = s := by omega
             show _ = [EV.u (U.rmem (fill11 M t l i g w))]
             rw [fill11, if_pos ⟨h4, h5⟩]))
   | fail "no step")
set_option maxHeartbeats 2000000 in
theorem vQAFill (P : Program) (hs : List (Nat × Nat × List Nat)) : ∀ ins, ins.length = cQAFill.nin → cQAFill.pre ins → tQAFill.sat { cxXQA P with hints := hs } (ctrR cQAFill) ins := by
 rintro ins _ ⟨M, t, l, s, g, w, m, rfl, hM⟩
 unfold tQAFill
 repeat' (first
  | (first
    | (with_reducible refine st_need ?_ ?_
       focus (simp only [dn, reduceCtorEq, hM] <;> first | omega | assumption))
    | (with_reducible refine st_and ?_ ?_)
    | (with_reducible exact st_ok)
    | (with_reducible refine st_br (fun hc => ?_) (fun hc => ?_) <;> (simp only [dn, reduceCtorEq, hM] at hc) <;> (try (exfalso; first | contradiction | omega)))
    | (refine st_call (by rfl) (by simp only [dn, reduceCtorEq, hM] <;> rfl) ?_ (by simp only [fo_store, out_QSFill] <;> rfl) (by simp only [dn] <;> rfl) ?_
       focus (first | exact ⟨_, _, _, rfl, by first | exact hM | (simp only [len_store, len_fillK, len_fillR, len_fill10, len_fill11, len_fill12, len_fill13]; exact hM)⟩ | exact ⟨_, _, _, _, rfl, by first | exact hM | (simp only [len_store, len_fillK, len_fillR, len_fill10, len_fill11, len_fill12, len_fill13]; exact hM)⟩ | exact ⟨_, _, _, _, _, _, _, rfl, by first | exact hM | (simp only [len_store, len_fillK, len_fillR, len_fill10, len_fill11, len_fill12, len_fill13]; exact hM)⟩ | exact ⟨_, _, _, _, _, _, _, _, _, _, _, rfl, by first | exact hM | (simp only [len_store, len_fillK, len_fillR, len_fill10, len_fill11, len_fill12, len_fill13]; exact hM)⟩ | exact ⟨_, _, _, _, _, _, _, _, _, _, _, _, _, rfl⟩)))
  | (refine st_loop (by rfl) (by simp only [dn, reduceCtorEq, hM] <;> rfl) (by simp only [dn] <;> rfl) ?_ (fun env' h => bQAFill P hs env' h)
     exact ⟨M, t, l, s, g, w, m, _, _, 0, rfl, by omega, hM, by omega, by omega, by omega⟩)
  | (refine st_ret (by simp only [dn, reduceCtorEq, hM] <;> rfl) ?_
     focus (show _ = [EV.u (U.rmem (fill11 M t l s g w))]
            rw [fill11, if_neg (by omega)]))
  | fail "no step")
theorem hctsXQA : ∀ (ci : Nat) (c : Ctr U), ctsXQA[ci]? = some c → c.Holds objs Tryz.prog := by
 intro ci c h
 match ci, h with
 | 0, h => cases h; exact hQStore
 | 1, h => cases h; exact hQSFill
 | n + 2, h => cases h
theorem hQAFill : cQAFill.Holds objs Tryz.prog := runCtr_holds (X := { cxXQA Tryz.prog with hints := hsQAFill }) objsOk mixed hctsXQA (callable _ Tryz.func171 (by kernel_rfl) (by kernel_rfl)) (by rintro ins _ ⟨_, _, _, _, _, _, _, rfl, _⟩; rfl) (by rw [rQAFill]; exact vQAFill _ _)
set_option maxHeartbeats 2000000 in
theorem bEFill (P : Program) (hs : List (Nat × Nat × List Nat)) : ∀ env, efInv env → tEFillL0.sat { cxXE P with hints := hs } (ctrR cEFill) env := by
 rintro env ⟨M, a, b, n, x0, x1, i, rfl, h1, hM, h3, h4, h5⟩
 have e0 : IntKind.i64.wrap (i + 1) = i + 1 := wrap_small (by omega) (by omega)
 by_cases hi : i < n
 all_goals
  unfold tEFillL0
  repeat' (first
   | (first
     | (with_reducible refine st_need ?_ ?_
        focus (simp only [dn, reduceCtorEq, e0] <;> first | omega | assumption))
     | (with_reducible refine st_and ?_ ?_)
     | (with_reducible exact st_ok)
     | (with_reducible refine st_br (fun hc => ?_) (fun hc => ?_) <;> (simp only [dn, reduceCtorEq, e0] at hc) <;> (try (exfalso; first | contradiction | omega)))
     | (refine st_call (by rfl) (by simp only [dn, reduceCtorEq, e0] <;> rfl) ?_ (by simp only [out_store] <;> rfl) (by simp only [dn] <;> rfl) ?_
        focus (first | exact ⟨_, _, _, rfl⟩ | exact ⟨_, _, _, _, rfl, by first | exact hM | (simp only [len_store, len_fillK, len_fillR, len_fill10, len_fill11, len_fill12, len_fill13]; exact hM)⟩ | exact ⟨_, _, _, _, _, _, _, rfl, by first | exact hM | (simp only [len_store, len_fillK, len_fillR, len_fill10, len_fill11, len_fill12, len_fill13]; exact hM)⟩ | exact ⟨_, _, _, _, _, _, _, _, _, _, _, rfl, by first | exact hM | (simp only [len_store, len_fillK, len_fillR, len_fill10, len_fill11, len_fill12, len_fill13]; exact hM)⟩ | exact ⟨_, _, _, _, _, _, _, _, _, _, _, _, _, rfl⟩)))
   | (refine st_back (by rfl) (by simp only [dn, reduceCtorEq, e0] <;> rfl) (by simp only [dn] <;> rfl) (by rfl) ?_ ?_
      focus exact ⟨M, a, b, n, x0, x1, i + 1, by rw [fillR_succ _ _ _ h1]; rfl, by omega, hM, by omega, h4, h5⟩
      focus (show (n - (i + 1)).toNat < (n - i).toNat; omega))
   | (refine st_ret (by simp only [dn, reduceCtorEq, e0] <;> rfl) ?_
      focus (obtain rfl : i = n := by omega
             show _ = [EV.u (U.mem (fill12 M a b i))]
             rw [fill12, if_pos ⟨h4, h5⟩]))
   | fail "no step")
set_option maxHeartbeats 2000000 in
theorem vEFill (P : Program) (hs : List (Nat × Nat × List Nat)) : ∀ ins, ins.length = cEFill.nin → cEFill.pre ins → tEFill.sat { cxXE P with hints := hs } (ctrR cEFill) ins := by
 rintro ins _ ⟨M, a, b, n, rfl, hM⟩
 unfold tEFill
 repeat' (first
  | (first
    | (with_reducible refine st_need ?_ ?_
       focus (simp only [dn, reduceCtorEq, hM] <;> first | omega | assumption))
    | (with_reducible refine st_and ?_ ?_)
    | (with_reducible exact st_ok)
    | (with_reducible refine st_br (fun hc => ?_) (fun hc => ?_) <;> (simp only [dn, reduceCtorEq, hM] at hc) <;> (try (exfalso; first | contradiction | omega)))
    | (refine st_call (by rfl) (by simp only [dn, reduceCtorEq, hM] <;> rfl) ?_ (by simp only [out_store] <;> rfl) (by simp only [dn] <;> rfl) ?_
       focus (first | exact ⟨_, _, _, rfl⟩ | exact ⟨_, _, _, _, rfl, by first | exact hM | (simp only [len_store, len_fillK, len_fillR, len_fill10, len_fill11, len_fill12, len_fill13]; exact hM)⟩ | exact ⟨_, _, _, _, _, _, _, rfl, by first | exact hM | (simp only [len_store, len_fillK, len_fillR, len_fill10, len_fill11, len_fill12, len_fill13]; exact hM)⟩ | exact ⟨_, _, _, _, _, _, _, _, _, _, _, rfl, by first | exact hM | (simp only [len_store, len_fillK, len_fillR, len_fill10, len_fill11, len_fill12, len_fill13]; exact hM)⟩ | exact ⟨_, _, _, _, _, _, _, _, _, _, _, _, _, rfl⟩)))
  | (refine st_rngX (fun LL env' he => ?_)
     simp only [List.cons_append, List.nil_append] at he
     subst he)
  | (refine st_loop (by rfl) (by simp only [dn, reduceCtorEq, hM] <;> rfl) (by simp only [dn] <;> rfl) ?_ (fun env' h => bEFill P hs env' h)
     exact ⟨M, a, b, n, _, _, 0, rfl, by omega, hM, by omega, by omega, by omega⟩)
  | (refine st_ret (by simp only [dn, reduceCtorEq, hM] <;> rfl) ?_
     focus (show _ = [EV.u (U.mem (fill12 M a b n))]
            rw [fill12, if_neg (by omega)]))
  | fail "no step")
theorem hctsXE : ∀ (ci : Nat) (c : Ctr U), ctsXE[ci]? = some c → c.Holds objs Tryz.prog := by
 intro ci c h
 match ci, h with
 | 0, h => cases h; exact hStore
 | n + 1, h => cases h
theorem hEFill : cEFill.Holds objs Tryz.prog := runCtr_holds (X := { cxXE Tryz.prog with hints := hsEFill }) objsOk mixed hctsXE (callable _ Tryz.func170 (by kernel_rfl) (by kernel_rfl)) (by rintro ins _ ⟨_, _, _, _, rfl, _⟩; rfl) (by rw [rEFill]; exact vEFill _ _)
set_option maxHeartbeats 2000000 in
theorem bQEFill (P : Program) (hs : List (Nat × Nat × List Nat)) : ∀ env, qefInv env → tQEFillL0.sat { cxXQE P with hints := hs } (ctrR cQEFill) env := by
 rintro env ⟨M, a, b, n, x0, i, rfl, h1, hM, h3, h4, h5⟩
 have e0 : IntKind.i64.wrap (i + 1) = i + 1 := wrap_small (by omega) (by omega)
 by_cases hi : i < n
 all_goals
  unfold tQEFillL0
  repeat' (first
   | (first
     | (with_reducible refine st_need ?_ ?_
        focus (simp only [dn, reduceCtorEq, e0] <;> first | omega | assumption))
     | (with_reducible refine st_and ?_ ?_)
     | (with_reducible exact st_ok)
     | (with_reducible refine st_br (fun hc => ?_) (fun hc => ?_) <;> (simp only [dn, reduceCtorEq, e0] at hc) <;> (try (exfalso; first | contradiction | omega)))
     | (refine st_call (by rfl) (by simp only [dn, reduceCtorEq, e0] <;> rfl) ?_ (by simp only [fo_store] <;> rfl) (by simp only [dn] <;> rfl) ?_
        focus (first | exact ⟨_, _, _, rfl, by first | exact hM | (simp only [len_store, len_fillK, len_fillR, len_fill10, len_fill11, len_fill12, len_fill13]; exact hM)⟩ | exact ⟨_, _, _, _, rfl, by first | exact hM | (simp only [len_store, len_fillK, len_fillR, len_fill10, len_fill11, len_fill12, len_fill13]; exact hM)⟩ | exact ⟨_, _, _, _, _, _, _, rfl, by first | exact hM | (simp only [len_store, len_fillK, len_fillR, len_fill10, len_fill11, len_fill12, len_fill13]; exact hM)⟩ | exact ⟨_, _, _, _, _, _, _, _, _, _, _, rfl, by first | exact hM | (simp only [len_store, len_fillK, len_fillR, len_fill10, len_fill11, len_fill12, len_fill13]; exact hM)⟩ | exact ⟨_, _, _, _, _, _, _, _, _, _, _, _, _, rfl⟩)))
   | (refine st_back (by rfl) (by simp only [dn, reduceCtorEq, e0] <;> rfl) (by simp only [dn] <;> rfl) (by rfl) ?_ ?_
      focus exact ⟨M, a, b, n, x0, i + 1, by rw [fillR_succ _ _ _ h1]; rfl, by omega, hM, by omega, h4, h5⟩
      focus (show (n - (i + 1)).toNat < (n - i).toNat; omega))
   | (refine st_ret (by simp only [dn, reduceCtorEq, e0] <;> rfl) ?_
      focus (obtain rfl : i = n := by omega
             show _ = [EV.u (U.rmem (fill12 M a b i))]
             rw [fill12, if_pos ⟨h4, h5⟩]))
   | fail "no step")
set_option maxHeartbeats 2000000 in
theorem vQEFill (P : Program) (hs : List (Nat × Nat × List Nat)) : ∀ ins, ins.length = cQEFill.nin → cQEFill.pre ins → tQEFill.sat { cxXQE P with hints := hs } (ctrR cQEFill) ins := by
 rintro ins _ ⟨M, a, b, n, rfl, hM⟩
 unfold tQEFill
 repeat' (first
  | (first
    | (with_reducible refine st_need ?_ ?_
       focus (simp only [dn, reduceCtorEq, hM] <;> first | omega | assumption))
    | (with_reducible refine st_and ?_ ?_)
    | (with_reducible exact st_ok)
    | (with_reducible refine st_br (fun hc => ?_) (fun hc => ?_) <;> (simp only [dn, reduceCtorEq, hM] at hc) <;> (try (exfalso; first | contradiction | omega)))
    | (refine st_call (by rfl) (by simp only [dn, reduceCtorEq, hM] <;> rfl) ?_ (by simp only [fo_store] <;> rfl) (by simp only [dn] <;> rfl) ?_
       focus (first | exact ⟨_, _, _, rfl, by first | exact hM | (simp only [len_store, len_fillK, len_fillR, len_fill10, len_fill11, len_fill12, len_fill13]; exact hM)⟩ | exact ⟨_, _, _, _, rfl, by first | exact hM | (simp only [len_store, len_fillK, len_fillR, len_fill10, len_fill11, len_fill12, len_fill13]; exact hM)⟩ | exact ⟨_, _, _, _, _, _, _, rfl, by first | exact hM | (simp only [len_store, len_fillK, len_fillR, len_fill10, len_fill11, len_fill12, len_fill13]; exact hM)⟩ | exact ⟨_, _, _, _, _, _, _, _, _, _, _, rfl, by first | exact hM | (simp only [len_store, len_fillK, len_fillR, len_fill10, len_fill11, len_fill12, len_fill13]; exact hM)⟩ | exact ⟨_, _, _, _, _, _, _, _, _, _, _, _, _, rfl⟩)))
  | (refine st_loop (by rfl) (by simp only [dn, reduceCtorEq, hM] <;> rfl) (by simp only [dn] <;> rfl) ?_ (fun env' h => bQEFill P hs env' h)
     exact ⟨M, a, b, n, _, 0, rfl, by omega, hM, by omega, by omega, by omega⟩)
  | (refine st_ret (by simp only [dn, reduceCtorEq, hM] <;> rfl) ?_
     focus (show _ = [EV.u (U.rmem (fill12 M a b n))]
            rw [fill12, if_neg (by omega)]))
  | fail "no step")
theorem hctsXQE : ∀ (ci : Nat) (c : Ctr U), ctsXQE[ci]? = some c → c.Holds objs Tryz.prog := by
 intro ci c h
 match ci, h with
 | 0, h => cases h; exact hQStore
 | n + 1, h => cases h
theorem hQEFill : cQEFill.Holds objs Tryz.prog := runCtr_holds (X := { cxXQE Tryz.prog with hints := hsQEFill }) objsOk mixed hctsXQE (callable _ Tryz.func172 (by kernel_rfl) (by kernel_rfl)) (by rintro ins _ ⟨_, _, _, _, rfl, _⟩; rfl) (by rw [rQEFill]; exact vQEFill _ _)
set_option maxHeartbeats 2000000 in
theorem vLFill (P : Program) (hs : List (Nat × Nat × List Nat)) : ∀ ins, ins.length = cLFill.nin → cLFill.pre ins → tLFill.sat { cxXL P with hints := hs } (ctrR cLFill) ins := by
 rintro ins _ ⟨M, t, l, s, g, w, m, ea, ep, ec, tp, rfl, hM⟩
 unfold tLFill
 repeat' (first
  | (first
    | (with_reducible refine st_need ?_ ?_
       focus (simp only [dn, reduceCtorEq, hM] <;> first | omega | assumption))
    | (with_reducible refine st_and ?_ ?_)
    | (with_reducible exact st_ok)
    | (with_reducible refine st_br (fun hc => ?_) (fun hc => ?_) <;> (simp only [dn, reduceCtorEq, hM] at hc) <;> (try (exfalso; first | contradiction | omega)))
    | (refine st_call (by rfl) (by simp only [dn, reduceCtorEq, hM] <;> rfl) ?_ (by simp only [out_store, out_AFill, out_EFill] <;> rfl) (by simp only [dn] <;> rfl) ?_
       focus (first | exact ⟨_, _, _, rfl⟩ | exact ⟨_, _, _, _, rfl, by first | exact hM | (simp only [len_store, len_fillK, len_fillR, len_fill10, len_fill11, len_fill12, len_fill13]; exact hM)⟩ | exact ⟨_, _, _, _, _, _, _, rfl, by first | exact hM | (simp only [len_store, len_fillK, len_fillR, len_fill10, len_fill11, len_fill12, len_fill13]; exact hM)⟩ | exact ⟨_, _, _, _, _, _, _, _, _, _, _, rfl, by first | exact hM | (simp only [len_store, len_fillK, len_fillR, len_fill10, len_fill11, len_fill12, len_fill13]; exact hM)⟩ | exact ⟨_, _, _, _, _, _, _, _, _, _, _, _, _, rfl⟩)))
  | (refine st_ret (by simp only [dn, reduceCtorEq, hM] <;> rfl) ?_
     focus (show _ = [EV.u (U.mem (fill13 M t l s g w ea ep ec tp))]
            rfl))
  | fail "no step")
theorem hctsXL : ∀ (ci : Nat) (c : Ctr U), ctsXL[ci]? = some c → c.Holds objs Tryz.prog := by
 intro ci c h
 match ci, h with
 | 0, h => cases h; exact hStore
 | 1, h => cases h; exact hAFill
 | 2, h => cases h; exact hEFill
 | n + 3, h => cases h
theorem hLFill : cLFill.Holds objs Tryz.prog := runCtr_holds (X := { cxXL Tryz.prog with hints := hsLFill }) objsOk mixed hctsXL (callable _ Tryz.func93 (by kernel_rfl) (by kernel_rfl)) (by rintro ins _ ⟨_, _, _, _, _, _, _, _, _, _, _, rfl, _⟩; rfl) (by rw [rLFill]; exact vLFill _ _)
set_option maxHeartbeats 2000000 in
theorem vQLFill (P : Program) (hs : List (Nat × Nat × List Nat)) : ∀ ins, ins.length = cQLFill.nin → cQLFill.pre ins → tQLFill.sat { cxXQL P with hints := hs } (ctrR cQLFill) ins := by
 rintro ins _ ⟨M, t, l, s, g, w, m, ea, ep, ec, tp, rfl, hM⟩
 unfold tQLFill
 repeat' (first
  | (first
    | (with_reducible refine st_need ?_ ?_
       focus (simp only [dn, reduceCtorEq, hM] <;> first | omega | assumption))
    | (with_reducible refine st_and ?_ ?_)
    | (with_reducible exact st_ok)
    | (with_reducible refine st_br (fun hc => ?_) (fun hc => ?_) <;> (simp only [dn, reduceCtorEq, hM] at hc) <;> (try (exfalso; first | contradiction | omega)))
    | (refine st_call (by rfl) (by simp only [dn, reduceCtorEq, hM] <;> rfl) ?_ (by simp only [fo_store, out_QAFill, out_QEFill] <;> rfl) (by simp only [dn] <;> rfl) ?_
       focus (first | exact ⟨_, _, _, rfl, by first | exact hM | (simp only [len_store, len_fillK, len_fillR, len_fill10, len_fill11, len_fill12, len_fill13]; exact hM)⟩ | exact ⟨_, _, _, _, rfl, by first | exact hM | (simp only [len_store, len_fillK, len_fillR, len_fill10, len_fill11, len_fill12, len_fill13]; exact hM)⟩ | exact ⟨_, _, _, _, _, _, _, rfl, by first | exact hM | (simp only [len_store, len_fillK, len_fillR, len_fill10, len_fill11, len_fill12, len_fill13]; exact hM)⟩ | exact ⟨_, _, _, _, _, _, _, _, _, _, _, rfl, by first | exact hM | (simp only [len_store, len_fillK, len_fillR, len_fill10, len_fill11, len_fill12, len_fill13]; exact hM)⟩ | exact ⟨_, _, _, _, _, _, _, _, _, _, _, _, _, rfl⟩)))
  | (refine st_ret (by simp only [dn, reduceCtorEq, hM] <;> rfl) ?_
     focus (show _ = [EV.u (U.rmem (fill13 M t l s g w ea ep ec tp))]
            rfl))
  | fail "no step")
theorem hctsXQL : ∀ (ci : Nat) (c : Ctr U), ctsXQL[ci]? = some c → c.Holds objs Tryz.prog := by
 intro ci c h
 match ci, h with
 | 0, h => cases h; exact hQStore
 | 1, h => cases h; exact hQAFill
 | 2, h => cases h; exact hQEFill
 | n + 3, h => cases h
theorem hQLFill : cQLFill.Holds objs Tryz.prog := runCtr_holds (X := { cxXQL Tryz.prog with hints := hsQLFill }) objsOk mixed hctsXQL (callable _ Tryz.func94 (by kernel_rfl) (by kernel_rfl)) (by rintro ins _ ⟨_, _, _, _, _, _, _, _, _, _, _, rfl, _⟩; rfl) (by rw [rQLFill]; exact vQLFill _ _)
set_option maxHeartbeats 2000000 in
theorem bTFill (P : Program) (hs : List (Nat × Nat × List Nat)) : ∀ env, tfInv env → tTFillL0.sat { cxXT P with hints := hs } (ctrR cTFill) env := by
 rintro env ⟨M, n, h, a, t, l, s, g, w, m, ea, ep, ec, tp, x0, x1, i, rfl, h1, hM, h3, h4⟩
 have hk := okT_facts h4
 have e0 : IntKind.i64.wrap (i + 1) = i + 1 := wrap_small (by omega) (by omega)
 by_cases hi : i < a
 all_goals
  unfold tTFillL0
  repeat' (first
   | (first
     | (with_reducible refine st_need ?_ ?_
        focus (simp only [dn, reduceCtorEq, e0] <;> first | omega | assumption))
     | (with_reducible refine st_and ?_ ?_)
     | (with_reducible exact st_ok)
     | (with_reducible refine st_br (fun hc => ?_) (fun hc => ?_) <;> (simp only [dn, reduceCtorEq, e0] at hc) <;> (try (exfalso; first | contradiction | omega)))
     | (refine st_call (by rfl) (by simp only [dn, reduceCtorEq, e0] <;> rfl) ?_ (by simp only [out_store, out_LFill, out_Snd15] <;> rfl) (by simp only [dn] <;> rfl) ?_
        focus (first | exact ⟨_, _, _, rfl⟩ | exact ⟨_, _, _, _, rfl, by first | exact hM | (simp only [len_store, len_fillK, len_fillR, len_fill10, len_fill11, len_fill12, len_fill13]; exact hM)⟩ | exact ⟨_, _, _, _, _, _, _, rfl, by first | exact hM | (simp only [len_store, len_fillK, len_fillR, len_fill10, len_fill11, len_fill12, len_fill13]; exact hM)⟩ | exact ⟨_, _, _, _, _, _, _, _, _, _, _, rfl, by first | exact hM | (simp only [len_store, len_fillK, len_fillR, len_fill10, len_fill11, len_fill12, len_fill13]; exact hM)⟩ | exact ⟨_, _, _, _, _, _, _, _, _, _, _, _, _, rfl⟩)))
   | (refine st_back (by rfl) (by simp only [dn, reduceCtorEq, e0] <;> rfl) (by simp only [dn] <;> rfl) (by rfl) ?_ ?_
      focus exact ⟨M, n, h, a, t, l, s, g, w, m, ea, ep, ec, tp, x0, x1, i + 1, by rw [fillR_succ _ _ _ h1]; rfl, by omega, hM, by omega, h4⟩
      focus (show (a - (i + 1)).toNat < (a - i).toNat; omega))
   | (refine st_ret (by simp only [dn, reduceCtorEq, e0] <;> rfl) ?_
      focus (obtain rfl : i = a := by omega
             show _ = [EV.u (U.mem (fill15 M n h i t l s g w ea ep ec tp))]
             rw [fill15, if_pos h4]))
   | fail "no step")
set_option maxHeartbeats 2000000 in
theorem vTFill (P : Program) (hs : List (Nat × Nat × List Nat)) : ∀ ins, ins.length = cTFill.nin → cTFill.pre ins → tTFill.sat { cxXT P with hints := hs } (ctrR cTFill) ins := by
 rintro ins _ ⟨M, n, h, a, t, l, s, g, w, m, ea, ep, ec, tp, rfl, hM⟩
 cases ho : okT n h a s
 all_goals try have hk := okT_facts ho
 all_goals
  unfold tTFill
  repeat' (first
   | (first
     | (with_reducible refine st_need ?_ ?_
        focus (simp only [dn, reduceCtorEq, ho] <;> first | omega | assumption))
     | (with_reducible refine st_and ?_ ?_)
     | (with_reducible exact st_ok)
     | (with_reducible refine st_br (fun hc => ?_) (fun hc => ?_) <;> (simp only [dn, reduceCtorEq, ho] at hc) <;> (try (exfalso; first | contradiction | omega)))
     | (refine st_call (by rfl) (by simp only [dn, reduceCtorEq, ho] <;> rfl) ?_ (by simp only [out_store, out_LFill, out_Snd15, ho] <;> rfl) (by simp only [dn] <;> rfl) ?_
        focus (first | exact ⟨_, _, _, rfl⟩ | exact ⟨_, _, _, _, rfl, by first | exact hM | (simp only [len_store, len_fillK, len_fillR, len_fill10, len_fill11, len_fill12, len_fill13]; exact hM)⟩ | exact ⟨_, _, _, _, _, _, _, rfl, by first | exact hM | (simp only [len_store, len_fillK, len_fillR, len_fill10, len_fill11, len_fill12, len_fill13]; exact hM)⟩ | exact ⟨_, _, _, _, _, _, _, _, _, _, _, rfl, by first | exact hM | (simp only [len_store, len_fillK, len_fillR, len_fill10, len_fill11, len_fill12, len_fill13]; exact hM)⟩ | exact ⟨_, _, _, _, _, _, _, _, _, _, _, _, _, rfl⟩)))
   | (refine st_loop (by rfl) (by simp only [dn, reduceCtorEq, ho] <;> rfl) (by simp only [dn] <;> rfl) ?_ (fun env' h => bTFill P hs env' h)
      exact ⟨M, n, h, a, t, l, s, g, w, m, ea, ep, ec, tp, _, _, 0, rfl, by omega, hM, by omega, ho⟩)
   | (refine st_ret (by simp only [dn, reduceCtorEq, ho] <;> rfl) ?_
      focus (show _ = [EV.u (U.mem (fill15 M n h a t l s g w ea ep ec tp))]
             rw [fill15, ho, if_neg (by decide)]))
   | fail "no step")
theorem hctsXT : ∀ (ci : Nat) (c : Ctr U), ctsXT[ci]? = some c → c.Holds objs Tryz.prog := by
 intro ci c h
 match ci, h with
 | 0, h => cases h; exact hStore
 | 1, h => cases h; exact hSnd15
 | 2, h => cases h; exact hLFill
 | n + 3, h => cases h
theorem hTFill : cTFill.Holds objs Tryz.prog := runCtr_holds (X := { cxXT Tryz.prog with hints := hsTFill }) objsOk mixed hctsXT (callable _ Tryz.func111 (by kernel_rfl) (by kernel_rfl)) (by rintro ins _ ⟨_, _, _, _, _, _, _, _, _, _, _, _, _, _, rfl, _⟩; rfl) (by rw [rTFill]; exact vTFill _ _)
set_option maxHeartbeats 2000000 in
theorem bQTFill (P : Program) (hs : List (Nat × Nat × List Nat)) : ∀ env, qtfInv env → tQTFillL0.sat { cxXQT P with hints := hs } (ctrR cQTFill) env := by
 rintro env ⟨M, n, h, a, t, l, s, g, w, m, ea, ep, ec, tp, x0, x1, i, rfl, h1, hM, h3, h4⟩
 have hk := okT_facts h4
 have e0 : IntKind.i64.wrap (i + 1) = i + 1 := wrap_small (by omega) (by omega)
 by_cases hi : i < a
 all_goals
  unfold tQTFillL0
  repeat' (first
   | (first
     | (with_reducible refine st_need ?_ ?_
        focus (simp only [dn, reduceCtorEq, e0] <;> first | omega | assumption))
     | (with_reducible refine st_and ?_ ?_)
     | (with_reducible exact st_ok)
     | (with_reducible refine st_br (fun hc => ?_) (fun hc => ?_) <;> (simp only [dn, reduceCtorEq, e0] at hc) <;> (try (exfalso; first | contradiction | omega)))
     | (refine st_call (by rfl) (by simp only [dn, reduceCtorEq, e0] <;> rfl) ?_ (by simp only [fo_store, out_QLFill, out_DSnd] <;> rfl) (by simp only [dn] <;> rfl) ?_
        focus (first | exact ⟨_, _, _, rfl, by first | exact hM | (simp only [len_store, len_fillK, len_fillR, len_fill10, len_fill11, len_fill12, len_fill13]; exact hM)⟩ | exact ⟨_, _, _, _, rfl, by first | exact hM | (simp only [len_store, len_fillK, len_fillR, len_fill10, len_fill11, len_fill12, len_fill13]; exact hM)⟩ | exact ⟨_, _, _, _, _, _, _, rfl, by first | exact hM | (simp only [len_store, len_fillK, len_fillR, len_fill10, len_fill11, len_fill12, len_fill13]; exact hM)⟩ | exact ⟨_, _, _, _, _, _, _, _, _, _, _, rfl, by first | exact hM | (simp only [len_store, len_fillK, len_fillR, len_fill10, len_fill11, len_fill12, len_fill13]; exact hM)⟩ | exact ⟨_, _, _, _, _, _, _, _, _, _, _, _, _, rfl⟩)))
   | (refine st_back (by rfl) (by simp only [dn, reduceCtorEq, e0] <;> rfl) (by simp only [dn] <;> rfl) (by rfl) ?_ ?_
      focus exact ⟨M, n, h, a, t, l, s, g, w, m, ea, ep, ec, tp, x0, x1, i + 1, by rw [fillR_succ _ _ _ h1]; rfl, by omega, hM, by omega, h4⟩
      focus (show (a - (i + 1)).toNat < (a - i).toNat; omega))
   | (refine st_ret (by simp only [dn, reduceCtorEq, e0] <;> rfl) ?_
      focus (obtain rfl : i = a := by omega
             show _ = [EV.u (U.rmem (fill15 M n h i t l s g w ea ep ec tp))]
             rw [fill15, if_pos h4]))
   | fail "no step")
set_option maxHeartbeats 2000000 in
theorem vQTFill (P : Program) (hs : List (Nat × Nat × List Nat)) : ∀ ins, ins.length = cQTFill.nin → cQTFill.pre ins → tQTFill.sat { cxXQT P with hints := hs } (ctrR cQTFill) ins := by
 rintro ins _ ⟨M, n, h, a, t, l, s, g, w, m, ea, ep, ec, tp, rfl, hM⟩
 cases ho : okT n h a s
 all_goals try have hk := okT_facts ho
 all_goals
  unfold tQTFill
  repeat' (first
   | (first
     | (with_reducible refine st_need ?_ ?_
        focus (simp only [dn, reduceCtorEq, ho] <;> first | omega | assumption))
     | (with_reducible refine st_and ?_ ?_)
     | (with_reducible exact st_ok)
     | (with_reducible refine st_br (fun hc => ?_) (fun hc => ?_) <;> (simp only [dn, reduceCtorEq, ho] at hc) <;> (try (exfalso; first | contradiction | omega)))
     | (refine st_call (by rfl) (by simp only [dn, reduceCtorEq, ho] <;> rfl) ?_ (by simp only [fo_store, out_QLFill, out_DSnd, ho] <;> rfl) (by simp only [dn] <;> rfl) ?_
        focus (first | exact ⟨_, _, _, rfl, by first | exact hM | (simp only [len_store, len_fillK, len_fillR, len_fill10, len_fill11, len_fill12, len_fill13]; exact hM)⟩ | exact ⟨_, _, _, _, rfl, by first | exact hM | (simp only [len_store, len_fillK, len_fillR, len_fill10, len_fill11, len_fill12, len_fill13]; exact hM)⟩ | exact ⟨_, _, _, _, _, _, _, rfl, by first | exact hM | (simp only [len_store, len_fillK, len_fillR, len_fill10, len_fill11, len_fill12, len_fill13]; exact hM)⟩ | exact ⟨_, _, _, _, _, _, _, _, _, _, _, rfl, by first | exact hM | (simp only [len_store, len_fillK, len_fillR, len_fill10, len_fill11, len_fill12, len_fill13]; exact hM)⟩ | exact ⟨_, _, _, _, _, _, _, _, _, _, _, _, _, rfl⟩)))
   | (refine st_loop (by rfl) (by simp only [dn, reduceCtorEq, ho] <;> rfl) (by simp only [dn] <;> rfl) ?_ (fun env' h => bQTFill P hs env' h)
      exact ⟨M, n, h, a, t, l, s, g, w, m, ea, ep, ec, tp, _, _, 0, rfl, by omega, hM, by omega, ho⟩)
   | (refine st_ret (by simp only [dn, reduceCtorEq, ho] <;> rfl) ?_
      focus (show _ = [EV.u (U.rmem (fill15 M n h a t l s g w ea ep ec tp))]
             rw [fill15, ho, if_neg (by decide)]))
   | fail "no step")
theorem hctsXQT : ∀ (ci : Nat) (c : Ctr U), ctsXQT[ci]? = some c → c.Holds objs Tryz.prog := by
 intro ci c h
 match ci, h with
 | 0, h => cases h; exact hQStore
 | 1, h => cases h; exact hDSnd
 | 2, h => cases h; exact hQLFill
 | n + 3, h => cases h
theorem hQTFill : cQTFill.Holds objs Tryz.prog := runCtr_holds (X := { cxXQT Tryz.prog with hints := hsQTFill }) objsOk mixed hctsXQT (callable _ Tryz.func123 (by kernel_rfl) (by kernel_rfl)) (by rintro ins _ ⟨_, _, _, _, _, _, _, _, _, _, _, _, _, _, rfl, _⟩; rfl) (by rw [rQTFill]; exact vQTFill _ _)
end Go.Proofs.YtdldcofddfkkbaaGreat
