/- Texts of this proof. -/
import Derived.Test.YtbmbiiiacajolaaXaTK
namespace Go.Proofs.Ytbmbiiiacajolaa
set_option linter.unusedVariables false
set_option linter.unusedSimpArgs false
set_option linter.unusedSectionVars false
open Go Go.RowKit
theorem shl_0 {w : Int} (h : isW w) : binDen .shl .u64 w 0 = w := by
 show IntKind.u64.wrap (w * 2 ^ min (0 : Int).toNat 64) = w
 rw [show (2 : Int) ^ min (0 : Int).toNat 64 = 1 by rfl, Int.mul_one, wrap_u64' h.1 h.2]
theorem shl_16 {w : Int} (h : 0 ≤ w) (h' : w < 281474976710656) : binDen .shl .u64 w 16 = w * 65536 := by
 show IntKind.u64.wrap (w * 2 ^ min (16 : Int).toNat 64) = w * 65536
 rw [show (2 : Int) ^ min (16 : Int).toNat 64 = 65536 by rfl, wrap_u64' (by omega) (by omega)]
theorem or_16 {a b : Int} (h0 : 0 ≤ a) (h1 : a < 65536) (h2 : 0 ≤ b) (h3 : b < 281474976710656) : bits .or .u64 a (b * 65536) = a + b * 65536 := by
 rw [show b * 65536 = 2 ^ 16 * b by omega]
 exact or_add 16 a b h0 h1 h2 (by omega) (by omega)
theorem vPutTop (P : Program) (hs : List (Nat × Nat × List Nat)) : ∀ ins, ins.length = cPutTop.nin → cPutTop.pre ins → tPutTop.sat { cx P [] with hints := hs } (ctrR cPutTop) ins := by
 rintro ins _ ⟨i, t, rfl, h1, h2, h3, h4⟩
 have e1 : binDen .add .i64 i 1 = i + 1 := wrap_small (by omega) (by omega)
 have e2 : IntKind.u64.wrap (i + 1) = i + 1 := wrap_u64' (by omega) (by omega)
 have e3 : IntKind.u64.wrap t = t := wrap_u64' (by omega) (by omega)
 have e4 : binDen .or .u64 0 (i + 1) = i + 1 := or_zero' _ (by omega) (by omega)
 have e5 : binDen .or .u64 (i + 1) (t * 65536) = i + 1 + t * 65536 := or_16 (by omega) (by omega) h3 h4
 unfold tPutTop
 repeat' (first
  | (first
    | (with_reducible refine st_need ?_ ?_
       focus (simp only [dn, reduceCtorEq, h1] <;> first | omega | assumption))
    | (with_reducible refine st_and ?_ ?_)
    | (with_reducible exact st_ok)
    | (with_reducible refine st_br (fun hc => ?_) (fun hc => ?_) <;> (simp only [dn, reduceCtorEq, h1] at hc) <;> (try (exfalso; first | contradiction | omega)))
    | (refine st_call (by rfl) (by simp only [dn, reduceCtorEq, h1] <;> rfl) ?_ (by rfl <;> rfl) (by simp only [dn] <;> rfl) ?_
       focus (first | rfl))
    | (with_reducible refine st_ret (by simp only [dn, reduceCtorEq, h1] <;> rfl) ?_
       (first | rfl | exact ⟨_, rfl⟩)))
  | (refine st_ret (a := ([.i (i + 1 + t * 65536), .i 0] : List (EV U))) ?_ ?_
     focus simp only [List.map_cons, List.map_nil, Bnd.den, Ex.den, gI, List.getElem?_cons_zero, List.getElem?_cons_succ, e1, e2, e3, shl_0 (w := i + 1) ⟨by omega, by omega⟩, shl_16 h3 h4, e4, e5]
     rfl))
theorem hPutTop : cPutTop.Holds objs Try.prog := runCtr_holds (X := { cx Try.prog [] with hints := hsPutTop }) objsOk mixed noCts (callable _ Try.func128 (by kernel_rfl) (by kernel_rfl)) (by rintro ins _ ⟨_, _, rfl, _⟩; rfl) (by rw [rPutTop]; exact vPutTop _ _)
theorem out_putTop (i t : Int) : cPutTop.out [.i i, .i t] = [.i (i + 1 + t * 65536), .i 0] := rfl
section
variable {k : Tree} {env : List (EV U)} {X : Cx U} {R : List (EV U) → List (EV U) → Prop}
theorem st_rngX (hk : ∀ (L : Loop) (env' : List (EV U)), env ++ [.r L] = env' → k.sat X R env') : (Tree.rng k).sat X R env := fun L => hk L _ rfl
end
theorem out_SFill (M : MemSt) (a b n : Int) : cSFill.out [.u (.mem M), .i a, .i b, .i n] = [.u (.mem (fill10 M a b n))] := rfl
theorem out_AFill (M : MemSt) (t l s g w m : Int) : cAFill.out [.u (.mem M), .i t, .i l, .i s, .i g, .i w, .i m] = [.u (.mem (fill11 M t l s g w))] := rfl
theorem out_EFill (M : MemSt) (a b n : Int) : cEFill.out [.u (.mem M), .i a, .i b, .i n] = [.u (.mem (fill12 M a b n))] := rfl
theorem out_LFill (M : MemSt) (t l s g w m ea ep ec tp : Int) : cLFill.out [.u (.mem M), .i t, .i l, .i s, .i g, .i w, .i m, .i ea, .i ep, .i ec, .i tp] = [.u (.mem (fill13 M t l s g w ea ep ec tp))] := rfl
theorem out_TFill (M : MemSt) (n h a t l s g w m ea ep ec tp : Int) : cTFill.out [.u (.mem M), .i n, .i h, .i a, .i t, .i l, .i s, .i g, .i w, .i m, .i ea, .i ep, .i ec, .i tp] = [.u (.mem (fill15 M n h a t l s g w ea ep ec tp))] := rfl
set_option maxHeartbeats 2000000 in
theorem vSFill (P : Program) (hs : List (Nat × Nat × List Nat)) : ∀ ins, ins.length = cSFill.nin → cSFill.pre ins → tSFill.sat { cxXS P with hints := hs } (ctrR cSFill) ins := by
 have hb : ∀ env, sfInv env → tSFillL0.sat { cxXS P with hints := hs } (ctrR cSFill) env := by
  rintro env ⟨M, a, b, n, x0, x1, x2, i, rfl, h1, hM, h2, h3, h4⟩
  have e0 : IntKind.i64.wrap (i + 1) = i + 1 := wrap_small (by omega) (by omega)
  unfold tSFillL0
  repeat' (first
   | (first
     | (with_reducible refine st_need ?_ ?_
        focus (simp only [dn, reduceCtorEq, e0] <;> first | omega | assumption))
     | (with_reducible refine st_and ?_ ?_)
     | (with_reducible exact st_ok)
     | (with_reducible refine st_br (fun hc => ?_) (fun hc => ?_) <;> (simp only [dn, reduceCtorEq, e0] at hc) <;> (try (exfalso; first | contradiction | omega)))
     | (refine st_call (by rfl) (by simp only [dn, reduceCtorEq, e0] <;> rfl) ?_ (by simp only [out_store, out_putTop] <;> rfl) (by simp only [dn] <;> rfl) ?_
        focus (first | exact ⟨_, _, _, rfl⟩ | exact ⟨_, _, _, _, rfl, by first | exact hM | (simp only [len_store, len_fillK, len_fillR, len_fill10, len_fill11, len_fill12, len_fill13]; exact hM)⟩ | exact ⟨_, _, _, _, _, _, _, rfl, by first | exact hM | (simp only [len_store, len_fillK, len_fillR, len_fill10, len_fill11, len_fill12, len_fill13]; exact hM)⟩ | exact ⟨_, _, _, _, _, _, _, _, _, _, _, rfl, by first | exact hM | (simp only [len_store, len_fillK, len_fillR, len_fill10, len_fill11, len_fill12, len_fill13]; exact hM)⟩ | exact ⟨_, _, _, _, _, _, _, _, _, _, _, _, _, rfl⟩ | exact ⟨_, _, rfl, by decide, by decide, by decide, by decide⟩ | exact ⟨_, _, rfl, by omega, by omega, by decide, by decide⟩)))
   | (refine st_back (by rfl) (by simp only [dn, reduceCtorEq, e0] <;> rfl) (by simp only [dn] <;> rfl) (by rfl) ?_ ?_
      focus (refine ⟨M, a, b, n, x0, x1, x2, i + 1, ?_, by omega, hM, by omega, h3, h4⟩
             rw [fillK_succ _ _ _ _ h1]
             first
              | (rw [if_pos (by omega)]; try rfl)
              | (rw [if_neg (by omega), show i + 1 + 1 + 0 * 65536 = i + 2 by omega]; try rfl))
      focus (show (n - (i + 1)).toNat < (n - i).toNat; omega))
   | (refine st_ret (by simp only [dn, reduceCtorEq, e0] <;> rfl) ?_
      have hi : i = n := by omega
      subst hi
      show _ = [EV.u (U.mem (fill10 M a b i))]
      rw [fill10, if_pos ⟨h3, h4⟩])
   | fail "no step")
 rintro ins _ ⟨M, a, b, n, rfl, hM⟩
 unfold tSFill
 repeat' (first
  | (first
    | (with_reducible refine st_need ?_ ?_
       focus (simp only [dn, reduceCtorEq, hb] <;> first | omega | assumption))
    | (with_reducible refine st_and ?_ ?_)
    | (with_reducible exact st_ok)
    | (with_reducible refine st_br (fun hc => ?_) (fun hc => ?_) <;> (simp only [dn, reduceCtorEq, hb] at hc) <;> (try (exfalso; first | contradiction | omega)))
    | (refine st_call (by rfl) (by simp only [dn, reduceCtorEq, hb] <;> rfl) ?_ (by simp only [out_store, out_putTop] <;> rfl) (by simp only [dn] <;> rfl) ?_
       focus (first | exact ⟨_, _, _, rfl⟩ | exact ⟨_, _, _, _, rfl, by first | exact hM | (simp only [len_store, len_fillK, len_fillR, len_fill10, len_fill11, len_fill12, len_fill13]; exact hM)⟩ | exact ⟨_, _, _, _, _, _, _, rfl, by first | exact hM | (simp only [len_store, len_fillK, len_fillR, len_fill10, len_fill11, len_fill12, len_fill13]; exact hM)⟩ | exact ⟨_, _, _, _, _, _, _, _, _, _, _, rfl, by first | exact hM | (simp only [len_store, len_fillK, len_fillR, len_fill10, len_fill11, len_fill12, len_fill13]; exact hM)⟩ | exact ⟨_, _, _, _, _, _, _, _, _, _, _, _, _, rfl⟩ | exact ⟨_, _, rfl, by decide, by decide, by decide, by decide⟩ | exact ⟨_, _, rfl, by omega, by omega, by decide, by decide⟩)))
  | (refine st_loop (by rfl) (by simp only [dn, reduceCtorEq, hb] <;> rfl) (by simp only [dn] <;> rfl) ?_ (fun env' h => hb env' h)
     exact ⟨_, _, _, _, _, _, _, 0, rfl, by omega, hM, by omega, by omega, by omega⟩)
  | (refine st_ret (by simp only [dn, reduceCtorEq, hb] <;> rfl) ?_
     show _ = [EV.u (U.mem (fill10 M a b n))]
     rw [fill10, if_neg (by omega)])
  | fail "no step")
theorem hctsXS : ∀ (ci : Nat) (c : Ctr U), ctsXS[ci]? = some c → c.Holds objs Try.prog := by
 intro ci c h
 match ci, h with
 | 0, h => cases h; exact hStore
 | 1, h => cases h; exact hPutTop
 | n + 2, h => cases h
theorem hSFill : cSFill.Holds objs Try.prog := runCtr_holds (X := { cxXS Try.prog with hints := hsSFill }) objsOk mixed hctsXS (callable _ Try.func117 (by kernel_rfl) (by kernel_rfl)) (by rintro ins _ ⟨_, _, _, _, rfl, _⟩; rfl) (by rw [rSFill]; exact vSFill _ _)
set_option maxHeartbeats 2000000 in
theorem bAFill (P : Program) (hs : List (Nat × Nat × List Nat)) : ∀ env, afInv env → tAFillL0.sat { cxXA P with hints := hs } (ctrR cAFill) env := by
 rintro env ⟨M, t, l, s, g, w, m, x0, x1, i, rfl, h1, hM, h3, h4, h5⟩
 have e0 : IntKind.i64.wrap (i + 1) = i + 1 := wrap_small (by omega) (by omega)
 by_cases hi : i < s
 all_goals
  unfold tAFillL0
  repeat' (first
   | (first
     | (with_reducible refine st_need ?_ ?_
        focus (simp only [dn, reduceCtorEq, e0] <;> first | omega | assumption))
     | (with_reducible refine st_and ?_ ?_)
     | (with_reducible exact st_ok)
     | (with_reducible refine st_br (fun hc => ?_) (fun hc => ?_) <;> (simp only [dn, reduceCtorEq, e0] at hc) <;> (try (exfalso; first | contradiction | omega)))
     | (refine st_call (by rfl) (by simp only [dn, reduceCtorEq, e0] <;> rfl) ?_ (by simp only [out_store, out_SFill] <;> rfl) (by simp only [dn] <;> rfl) ?_
        focus (first | exact ⟨_, _, _, rfl⟩ | exact ⟨_, _, _, _, rfl, by first | exact hM | (simp only [len_store, len_fillK, len_fillR, len_fill10, len_fill11, len_fill12, len_fill13]; exact hM)⟩ | exact ⟨_, _, _, _, _, _, _, rfl, by first | exact hM | (simp only [len_store, len_fillK, len_fillR, len_fill10, len_fill11, len_fill12, len_fill13]; exact hM)⟩ | exact ⟨_, _, _, _, _, _, _, _, _, _, _, rfl, by first | exact hM | (simp only [len_store, len_fillK, len_fillR, len_fill10, len_fill11, len_fill12, len_fill13]; exact hM)⟩ | exact ⟨_, _, _, _, _, _, _, _, _, _, _, _, _, rfl⟩)))
   | (refine st_back (by rfl) (by simp only [dn, reduceCtorEq, e0] <;> rfl) (by simp only [dn] <;> rfl) (by rfl) ?_ ?_
      focus exact ⟨M, t, l, s, g, w, m, x0, x1, i + 1, by rw [fillR_succ _ _ _ h1]; rfl, by omega, hM, by omega, h4, h5⟩
      focus (show (s - (i + 1)).toNat < (s - i).toNat; omega))
   | (refine st_ret (by simp only [dn, reduceCtorEq, e0] <;> rfl) ?_
      focus (obtain rfl : i = s := by omega
             show _ = [EV.u (U.mem (fill11 M t l i g w))]
             rw [fill11, if_pos ⟨h4, h5⟩]))
   | fail "no step")
set_option maxHeartbeats 2000000 in
theorem vAFill (P : Program) (hs : List (Nat × Nat × List Nat)) : ∀ ins, ins.length = cAFill.nin → cAFill.pre ins → tAFill.sat { cxXA P with hints := hs } (ctrR cAFill) ins := by
 rintro ins _ ⟨M, t, l, s, g, w, m, rfl, hM⟩
 unfold tAFill
 repeat' (first
  | (first
    | (with_reducible refine st_need ?_ ?_
       focus (simp only [dn, reduceCtorEq, hM] <;> first | omega | assumption))
    | (with_reducible refine st_and ?_ ?_)
    | (with_reducible exact st_ok)
    | (with_reducible refine st_br (fun hc => ?_) (fun hc => ?_) <;> (simp only [dn, reduceCtorEq, hM] at hc) <;> (try (exfalso; first | contradiction | omega)))
    | (refine st_call (by rfl) (by simp only [dn, reduceCtorEq, hM] <;> rfl) ?_ (by simp only [out_store, out_SFill] <;> rfl) (by simp only [dn] <;> rfl) ?_
       focus (first | exact ⟨_, _, _, rfl⟩ | exact ⟨_, _, _, _, rfl, by first | exact hM | (simp only [len_store, len_fillK, len_fillR, len_fill10, len_fill11, len_fill12, len_fill13]; exact hM)⟩ | exact ⟨_, _, _, _, _, _, _, rfl, by first | exact hM | (simp only [len_store, len_fillK, len_fillR, len_fill10, len_fill11, len_fill12, len_fill13]; exact hM)⟩ | exact ⟨_, _, _, _, _, _, _, _, _, _, _, rfl, by first | exact hM | (simp only [len_store, len_fillK, len_fillR, len_fill10, len_fill11, len_fill12, len_fill13]; exact hM)⟩ | exact ⟨_, _, _, _, _, _, _, _, _, _, _, _, _, rfl⟩)))
  | (refine st_loop (by rfl) (by simp only [dn, reduceCtorEq, hM] <;> rfl) (by simp only [dn] <;> rfl) ?_ (fun env' h => bAFill P hs env' h)
     exact ⟨M, t, l, s, g, w, m, _, _, 0, rfl, by omega, hM, by omega, by omega, by omega⟩)
  | (refine st_ret (by simp only [dn, reduceCtorEq, hM] <;> rfl) ?_
     focus (show _ = [EV.u (U.mem (fill11 M t l s g w))]
            rw [fill11, if_neg (by omega)]))
  | fail "no step")
theorem hctsXA : ∀ (ci : Nat) (c : Ctr U), ctsXA[ci]? = some c → c.Holds objs Try.prog := by
 intro ci c h
 match ci, h with
 | 0, h => cases h; exact hStore
 | 1, h => cases h; exact hSFill
 | n + 2, h => cases h
theorem hAFill : cAFill.Holds objs Try.prog := runCtr_holds (X := { cxXA Try.prog with hints := hsAFill }) objsOk mixed hctsXA (callable _ Try.func101 (by kernel_rfl) (by kernel_rfl)) (by rintro ins _ ⟨_, _, _, _, _, _, _, rfl, _⟩; rfl) (by rw [rAFill]; exact vAFill _ _)
set_option maxHeartbeats 2000000 in
theorem bEFill (P : Program) (hs : List (Nat × Nat × List Nat)) : ∀ env, efInv env → tEFillL0.sat { cxXE P with hints := hs } (ctrR cEFill) env := by
 rintro env ⟨M, a, b, n, x0, x1, i, rfl, h1, hM, h3, h4, h5⟩
 have e0 : IntKind.i64.wrap (i + 1) = i + 1 := wrap_small (by omega) (by omega)
 by_cases hi : i < n
 all_goals
  unfold tEFillL0
  repeat' (first
   | (first
     | (with_reducible refine st_need ?_ ?_
        focus (simp only [dn, reduceCtorEq, e0] <;> first | omega | assumption))
     | (with_reducible refine st_and ?_ ?_)
     | (with_reducible exact st_ok)
     | (with_reducible refine st_br (fun hc => ?_) (fun hc => ?_) <;> (simp only [dn, reduceCtorEq, e0] at hc) <;> (try (exfalso; first | contradiction | omega)))
     | (refine st_call (by rfl) (by simp only [dn, reduceCtorEq, e0] <;> rfl) ?_ (by simp only [out_store] <;> rfl) (by simp only [dn] <;> rfl) ?_
        focus (first | exact ⟨_, _, _, rfl⟩ | exact ⟨_, _, _, _, rfl, by first | exact hM | (simp only [len_store, len_fillK, len_fillR, len_fill10, len_fill11, len_fill12, len_fill13]; exact hM)⟩ | exact ⟨_, _, _, _, _, _, _, rfl, by first | exact hM | (simp only [len_store, len_fillK, len_fillR, len_fill10, len_fill11, len_fill12, len_fill13]; exact hM)⟩ | exact ⟨_, _, _, _, _, _, _, _, _, _, _, rfl, by first | exact hM | (simp only [len_store, len_fillK, len_fillR, len_fill10, len_fill11, len_fill12, len_fill13]; exact hM)⟩ | exact ⟨_, _, _, _, _, _, _, _, _, _, _, _, _, rfl⟩)))
   | (refine st_back (by rfl) (by simp only [dn, reduceCtorEq, e0] <;> rfl) (by simp only [dn] <;> rfl) (by rfl) ?_ ?_
      focus exact ⟨M, a, b, n, x0, x1, i + 1, by rw [fillR_succ _ _ _ h1]; rfl, by omega, hM, by omega, h4, h5⟩
      focus (show (n - (i + 1)).toNat < (n - i).toNat; omega))
   | (refine st_ret (by simp only [dn, reduceCtorEq, e0] <;> rfl) ?_
      focus (obtain rfl : i = n := by omega
             show _ = [EV.u (U.mem (fill12 M a b i))]
             rw [fill12, if_pos ⟨h4, h5⟩]))
   | fail "no step")
set_option maxHeartbeats 2000000 in
theorem vEFill (P : Program) (hs : List (Nat × Nat × List Nat)) : ∀ ins, ins.length = cEFill.nin → cEFill.pre ins → tEFill.sat { cxXE P with hints := hs } (ctrR cEFill) ins := by
 rintro ins _ ⟨M, a, b, n, rfl, hM⟩
 unfold tEFill
 repeat' (first
  | (first
    | (with_reducible refine st_need ?_ ?_
       focus (simp only [dn, reduceCtorEq, hM] <;> first | omega | assumption))
    | (with_reducible refine st_and ?_ ?_)
    | (with_reducible exact st_ok)
    | (with_reducible refine st_br (fun hc => ?_) (fun hc => ?_) <;> (simp only [dn, reduceCtorEq, hM] at hc) <;> (try (exfalso; first | contradiction | omega)))
    | (refine st_call (by rfl) (by simp only [dn, reduceCtorEq, hM] <;> rfl) ?_ (by simp only [out_store] <;> rfl) (by simp only [dn] <;> rfl) ?_
       focus (first | exact ⟨_, _, _, rfl⟩ | exact ⟨_, _, _, _, rfl, by first | exact hM | (simp only [len_store, len_fillK, len_fillR, len_fill10, len_fill11, len_fill12, len_fill13]; exact hM)⟩ | exact ⟨_, _, _, _, _, _, _, rfl, by first | exact hM | (simp only [len_store, len_fillK, len_fillR, len_fill10, len_fill11, len_fill12, len_fill13]; exact hM)⟩ | exact ⟨_, _, _, _, _, _, _, _, _, _, _, rfl, by first | exact hM | (simp only [len_store, len_fillK, len_fillR, len_fill10, len_fill11, len_fill12, len_fill13]; exact hM)⟩ | exact ⟨_, _, _, _, _, _, _, _, _, _, _, _, _, rfl⟩)))
  | (refine st_rngX (fun LL env' he => ?_)
     simp only [List.cons_append, List.nil_append] at he
     subst he)
  | (refine st_loop (by rfl) (by simp only [dn, reduceCtorEq, hM] <;> rfl) (by simp only [dn] <;> rfl) ?_ (fun env' h => bEFill P hs env' h)
     exact ⟨M, a, b, n, _, _, 0, rfl, by omega, hM, by omega, by omega, by omega⟩)
  | (refine st_ret (by simp only [dn, reduceCtorEq, hM] <;> rfl) ?_
     focus (show _ = [EV.u (U.mem (fill12 M a b n))]
            rw [fill12, if_neg (by omega)]))
  | fail "no step")
theorem hctsXE : ∀ (ci : Nat) (c : Ctr U), ctsXE[ci]? = some c → c.Holds objs Try.prog := by
 intro ci c h
 match ci, h with
 | 0, h => cases h; exact hStore
 | n + 1, h => cases h
theorem hEFill : cEFill.Holds objs Try.prog := runCtr_holds (X := { cxXE Try.prog with hints := hsEFill }) objsOk mixed hctsXE (callable _ Try.func102 (by kernel_rfl) (by kernel_rfl)) (by rintro ins _ ⟨_, _, _, _, rfl, _⟩; rfl) (by rw [rEFill]; exact vEFill _ _)
set_option maxHeartbeats 2000000 in
theorem vLFill (P : Program) (hs : List (Nat × Nat × List Nat)) : ∀ ins, ins.length = cLFill.nin → cLFill.pre ins → tLFill.sat { cxXL P with hints := hs } (ctrR cLFill) ins := by
 rintro ins _ ⟨M, t, l, s, g, w, m, ea, ep, ec, tp, rfl, hM⟩
 unfold tLFill
 repeat' (first
  | (first
    | (with_reducible refine st_need ?_ ?_
       focus (simp only [dn, reduceCtorEq, hM] <;> first | omega | assumption))
    | (with_reducible refine st_and ?_ ?_)
    | (with_reducible exact st_ok)
    | (with_reducible refine st_br (fun hc => ?_) (fun hc => ?_) <;> (simp only [dn, reduceCtorEq, hM] at hc) <;> (try (exfalso; first | contradiction | omega)))
    | (refine st_call (by rfl) (by simp only [dn, reduceCtorEq, hM] <;> rfl) ?_ (by simp only [out_store, out_AFill, out_EFill] <;> rfl) (by simp only [dn] <;> rfl) ?_
       focus (first | exact ⟨_, _, _, rfl⟩ | exact ⟨_, _, _, _, rfl, by first | exact hM | (simp only [len_store, len_fillK, len_fillR, len_fill10, len_fill11, len_fill12, len_fill13]; exact hM)⟩ | exact ⟨_, _, _, _, _, _, _, rfl, by first | exact hM | (simp only [len_store, len_fillK, len_fillR, len_fill10, len_fill11, len_fill12, len_fill13]; exact hM)⟩ | exact ⟨_, _, _, _, _, _, _, _, _, _, _, rfl, by first | exact hM | (simp only [len_store, len_fillK, len_fillR, len_fill10, len_fill11, len_fill12, len_fill13]; exact hM)⟩ | exact ⟨_, _, _, _, _, _, _, _, _, _, _, _, _, rfl⟩)))
  | (refine st_ret (by simp only [dn, reduceCtorEq, hM] <;> rfl) ?_
     focus (show _ = [EV.u (U.mem (fill13 M t l s g w ea ep ec tp))]
            rfl))
  | fail "no step")
theorem hctsXL : ∀ (ci : Nat) (c : Ctr U), ctsXL[ci]? = some c → c.Holds objs Try.prog := by
 intro ci c h
 match ci, h with
 | 0, h => cases h; exact hStore
 | 1, h => cases h; exact hAFill
 | 2, h => cases h; exact hEFill
 | n + 3, h => cases h
theorem hLFill : cLFill.Holds objs Try.prog := runCtr_holds (X := { cxXL Try.prog with hints := hsLFill }) objsOk mixed hctsXL (callable _ Try.func77 (by kernel_rfl) (by kernel_rfl)) (by rintro ins _ ⟨_, _, _, _, _, _, _, _, _, _, _, rfl, _⟩; rfl) (by rw [rLFill]; exact vLFill _ _)
set_option maxHeartbeats 2000000 in
theorem bTFill (P : Program) (hs : List (Nat × Nat × List Nat)) : ∀ env, tfInv env → tTFillL0.sat { cxXT P with hints := hs } (ctrR cTFill) env := by
 rintro env ⟨M, n, h, a, t, l, s, g, w, m, ea, ep, ec, tp, x0, x1, i, rfl, h1, hM, h3, h4⟩
 have hk := okT_facts h4
 have e0 : IntKind.i64.wrap (i + 1) = i + 1 := wrap_small (by omega) (by omega)
 by_cases hi : i < a
 all_goals
  unfold tTFillL0
  repeat' (first
   | (first
     | (with_reducible refine st_need ?_ ?_
        focus (simp only [dn, reduceCtorEq, e0] <;> first | omega | assumption))
     | (with_reducible refine st_and ?_ ?_)
     | (with_reducible exact st_ok)
     | (with_reducible refine st_br (fun hc => ?_) (fun hc => ?_) <;> (simp only [dn, reduceCtorEq, e0] at hc) <;> (try (exfalso; first | contradiction | omega)))
     | (refine st_call (by rfl) (by simp only [dn, reduceCtorEq, e0] <;> rfl) ?_ (by simp only [out_store, out_LFill, out_Snd15] <;> rfl) (by simp only [dn] <;> rfl) ?_
        focus (first | exact ⟨_, _, _, rfl⟩ | exact ⟨_, _, _, _, rfl, by first | exact hM | (simp only [len_store, len_fillK, len_fillR, len_fill10, len_fill11, len_fill12, len_fill13]; exact hM)⟩ | exact ⟨_, _, _, _, _, _, _, rfl, by first | exact hM | (simp only [len_store, len_fillK, len_fillR, len_fill10, len_fill11, len_fill12, len_fill13]; exact hM)⟩ | exact ⟨_, _, _, _, _, _, _, _, _, _, _, rfl, by first | exact hM | (simp only [len_store, len_fillK, len_fillR, len_fill10, len_fill11, len_fill12, len_fill13]; exact hM)⟩ | exact ⟨_, _, _, _, _, _, _, _, _, _, _, _, _, rfl⟩)))
   | (refine st_back (by rfl) (by simp only [dn, reduceCtorEq, e0] <;> rfl) (by simp only [dn] <;> rfl) (by rfl) ?_ ?_
      focus exact ⟨M, n, h, a, t, l, s, g, w, m, ea, ep, ec, tp, x0, x1, i + 1, by rw [fillR_succ _ _ _ h1]; rfl, by omega, hM, by omega, h4⟩
      focus (show (a - (i + 1)).toNat < (a - i).toNat; omega))
   | (refine st_ret (by simp only [dn, reduceCtorEq, e0] <;> rfl) ?_
      focus (obtain rfl : i = a := by omega
             show _ = [EV.u (U.mem (fill15 M n h i t l s g w ea ep ec tp))]
             rw [fill15, if_pos h4]))
   | fail "no step")
set_option maxHeartbeats 2000000 in
theorem vTFill (P : Program) (hs : List (Nat × Nat × List Nat)) : ∀ ins, ins.length = cTFill.nin → cTFill.pre ins → tTFill.sat { cxXT P with hints := hs } (ctrR cTFill) ins := by
 rintro ins _ ⟨M, n, h, a, t, l, s, g, w, m, ea, ep, ec, tp, rfl, hM⟩
 cases ho : okT n h a s
 all_goals try have hk := okT_facts ho
 all_goals
  unfold tTFill
  repeat' (first
   | (first
     | (with_reducible refine st_need ?_ ?_
        focus (simp only [dn, reduceCtorEq, ho] <;> first | omega | assumption))
     | (with_reducible refine st_and ?_ ?_)
     | (with_reducible exact st_ok)
     | (with_reducible refine st_br (fun hc => ?_) (fun hc => ?_) <;> (simp only [dn, reduceCtorEq, ho] at hc) <;> (try (exfalso; first | contradiction | omega)))
     | (refine st_call (by rfl) (by simp only [dn, reduceCtorEq, ho] <;> rfl) ?_ (by simp only [out_store, out_LFill, out_Snd15, ho] <;> rfl) (by simp only [dn] <;> rfl) ?_
        focus (first | exact ⟨_, _, _, rfl⟩ | exact ⟨_, _, _, _, rfl, by first | exact hM | (simp only [len_store, len_fillK, len_fillR, len_fill10, len_fill11, len_fill12, len_fill13]; exact hM)⟩ | exact ⟨_, _, _, _, _, _, _, rfl, by first | exact hM | (simp only [len_store, len_fillK, len_fillR, len_fill10, len_fill11, len_fill12, len_fill13]; exact hM)⟩ | exact ⟨_, _, _, _, _, _, _, _, _, _, _, rfl, by first | exact hM | (simp only [len_store, len_fillK, len_fillR, len_fill10, len_fill11, len_fill12, len_fill13]; exact hM)⟩ | exact ⟨_, _, _, _, _, _, _, _, _, _, _, _, _, rfl⟩)))
   | (refine st_loop (by rfl) (by simp only [dn, reduceCtorEq, ho] <;> rfl) (by simp only [dn] <;> rfl) ?_ (fun env' h => bTFill P hs env' h)
      exact ⟨M, n, h, a, t, l, s, g, w, m, ea, ep, ec, tp, _, _, 0, rfl, by omega, hM, by omega, ho⟩)
   | (refine st_ret (by simp only [dn, reduceCtorEq, ho] <;> rfl) ?_
      focus (show _ = [EV.u (U.mem (fill15 M n h a t l s g w ea ep ec tp))]
             rw [fill15, ho, if_neg (by decide)]))
   | fail "no step")
theorem hctsXT : ∀ (ci : Nat) (c : Ctr U), ctsXT[ci]? = some c → c.Holds objs Try.prog := by
 intro ci c h
 match ci, h with
 | 0, h => cases h; exact hStore
 | 1, h => cases h; exact hSnd15
 | 2, h => cases h; exact hLFill
 | n + 3, h => cases h
theorem hTFill : cTFill.Holds objs Try.prog := runCtr_holds (X := { cxXT Try.prog with hints := hsTFill }) objsOk mixed hctsXT (callable _ Try.func30 (by kernel_rfl) (by kernel_rfl)) (by rintro ins _ ⟨_, _, _, _, _, _, _, _, _, _, _, _, _, _, rfl, _⟩; rfl) (by rw [rTFill]; exact vTFill _ _)
end Go.Proofs.Ytbmbiiiacajolaa
