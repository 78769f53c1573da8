/- Texts of this proof. -/
import Derived.Test.YtbmbiiiacajolaaYbTK
import Derived.Test.YtbmbiiiacajolaaB6K
import Derived.Test.YtbmbiiiacajolaaB9K
namespace Go.Proofs.Ytbmbiiiacajolaa
set_option linter.unusedVariables false
set_option linter.unusedSimpArgs false
set_option linter.unusedSectionVars false
open Go Go.RowKit
theorem out_idxP (a0 a1 a2 a3 a4 a5 a6 a7 a8 a9 a10 a11 a12 w : Int) : cIdxP.out [.i a0, .i a1, .i a2, .i a3, .i a4, .i a5, .i a6, .i a7, .i a8, .i a9, .i a10, .i a11, .i a12, .i w] = [.i (idxW a5 w)] := rfl
theorem vIdxP (P : Program) (hs : List (Nat × Nat × List Nat)) : ∀ ins, ins.length = cIdxP.nin → cIdxP.pre ins → tIdxP.sat { cxQi P with hints := hs } (ctrR cIdxP) ins := by
 intro ins _ hp
 obtain ⟨a0, a1, a2, a3, a4, a5, a6, a7, a8, a9, a10, a11, a12, w, hi, hw⟩ := hp
 subst hi
 obtain ⟨h0, h1⟩ := hw
 have g6 : w.tmod 65536 = w % 65536 := Int.tmod_eq_emod_of_nonneg h0
 have g7 : IntKind.u64.wrap (w % 65536) = w % 65536 := wrapX (by omega) (by omega)
 obtain ⟨g1, g2, g3, g4, g5⟩ := refT w h0 h1
 obtain ⟨b1, b2, _⟩ := refL w h0 h1
 have g1' : w.fdiv (2 ^ min (Int.toNat 0) IntKind.u64.bits) = w := g1
 have g4' : bits .and .u64 w 65535 = w % 65536 := g4
 clear g2 g3 g5
 have ho : ∀ o, o = [EV.i (idxW a5 w)] → ctrR cIdxP [.i a0, .i a1, .i a2, .i a3, .i a4, .i a5, .i a6, .i a7, .i a8, .i a9, .i a10, .i a11, .i a12, .i w] o := fun o h => by subst h; rfl
 simp only [tIdxP, Tree.sat, Bx.den, Ex.den, Bnd.den, gI, List.map_cons, List.map_nil, List.getElem?_cons_zero, List.getElem?_cons_succ, List.getD, Option.getD_some, binDen, cmp_geq_t, cmp_geq_f, g1', g4', g6, g7, b1, b2]
 clear g1 g4 g1' g4' g6 g7 b1 b2
 repeat' (first | apply And.intro | intro _)
 all_goals first
  | trivial
  | exact ho _ (by rw [idxW, if_pos (by omega)])
  | exact ho _ (by rw [idxW, if_neg (by omega)])
theorem hIdxP : cIdxP.Holds objs Try.prog := runCtr_holds (X := { cxQi Try.prog with hints := hsIdxP }) objsOk mixed noCts (callable _ Try.func70 (by kernel_rfl) (by kernel_rfl)) (by rintro ins _ ⟨_, _, _, _, _, _, _, _, _, _, _, _, _, _, rfl, _⟩; rfl) (by rw [rIdxP]; exact vIdxP _ _)
theorem idxW_hi (s w : Int) : idxW s w ≤ 65534 := by unfold idxW; split <;> omega
theorem out_memAt (M : MemSt) (c k : Int) : cMemAt.out [.l M.W, .i M.W.length, .i c, .i k] = [.i (M.at0 k)] := rfl
theorem lev_step {M : MemSt} {n h a s l i : Int} {m k : Nat} (hi : 0 ≤ i) (hk : k < m) : levelK M n h a s l (m - k) i = i :: levelK M n h a s l (m - (k + 1)) (idxW s (M.at0 (nextT n h a s i l))) := by
 rw [show m - k = (m - (k + 1)) + 1 by omega, levelK, if_neg (by omega)]
theorem lev_end {M : MemSt} {n h a s l i : Int} {m : Nat} (hi : i < 0 ∨ m = 0) : levelK M n h a s l m i = [] := by
 rcases hi with hi | hi
 · cases m with
   | zero => rfl
   | succ m => rw [levelK, if_pos hi]
 · subst hi; rfl
theorem liv_next0 {M : MemSt} {n h a s i k : Int} {V W : List Int} (h1 : 0 ≤ k) (h5 : W ++ (levelK M n h a s 0 (s.toNat - k.toNat) i).filter (goesT M n h a s) = V) (hi : 0 ≤ i) (hk : k < s) (hg : goesT M n h a s i = false) :
 W ++ (levelK M n h a s 0 (s.toNat - (k + 1).toNat) (idxW s (M.at0 (nextT n h a s i 0)))).filter (goesT M n h a s) = V := by
 rw [lev_step hi (by omega), List.filter_cons_of_neg (by rw [hg]; decide)] at h5
 rw [toNat_succ h1, h5]
theorem liv_next1 {M : MemSt} {n h a s i k m : Int} {xs r V : List Int} (h1 : 0 ≤ k) (h2 : 0 ≤ m) (h4 : m.toNat ≤ xs.length) (h5 : xs.take m.toNat ++ (levelK M n h a s 0 (s.toNat - k.toNat) i).filter (goesT M n h a s) = V) (hi : 0 ≤ i) (hk : k < s) (hg : goesT M n h a s i = true) :
 (xs.take m.toNat ++ i :: r).take (m + 1).toNat ++ (levelK M n h a s 0 (s.toNat - (k + 1).toNat) (idxW s (M.at0 (nextT n h a s i 0)))).filter (goesT M n h a s) = V := by
 rw [lev_step hi (by omega), List.filter_cons_of_pos hg] at h5
 rw [toNat_succ h2, take_app rfl h4, toNat_succ h1, ← h5, List.append_assoc]
 rfl
theorem drop_step {L : List Int} {k : Nat} (h : k < L.length) : L.drop k = L[k]?.getD 0 :: L.drop (k + 1) := by
 rw [List.drop_eq_getElem_cons h, List.getElem?_eq_getElem h]
 rfl
theorem next_head {n h a s : Int} (e : okT n h a s = true) : 0 ≤ nextT n h a s (-1) 0 := by
 have g := okT_facts e
 unfold nextT atT
 rw [if_neg (by omega), if_pos ⟨e, by omega, by omega, by omega, by omega, by omega⟩, if_pos (by omega)]
 omega
theorem levelT_pos {M : MemSt} {n h a s l : Int} (e : 0 ≤ nextT n h a s (-1) l) : levelT M n h a s l = levelK M n h a s l s.toNat (idxW s (M.at0 (nextT n h a s (-1) l))) := by unfold levelT; rw [if_neg (by omega)]
theorem bit63 {w : Int} (h : isW w) : w / 9223372036854775808 = 0 ∨ w / 9223372036854775808 = 1 := by obtain ⟨h0, h1⟩ := h; omega
theorem goes_t {M : MemSt} {n h a s i : Int} (e : M.at0 (nextT n h a s i 0) / 9223372036854775808 = 0) : goesT M n h a s i = true := decide_eq_true e
theorem goes_f {M : MemSt} {n h a s i : Int} (e : M.at0 (nextT n h a s i 0) / 9223372036854775808 = 1) : goesT M n h a s i = false := decide_eq_false (by omega)
theorem row_end {xs V : List Int} {k c : Int} (h1 : 0 ≤ k) (h3 : c = xs.length) (h4 : k ≤ c) (h5 : xs.take k.toNat = V) (x : EV U) : ∃ cc, [x, .l xs, .i k, .i c] = rowOut x V cc := by
 obtain ⟨rr, hr⟩ := split_at h5
 refine ⟨rr, ?_⟩
 have hlen : V.length = k.toNat := by rw [← h5, List.length_take]; omega
 have hx : xs.length = k.toNat + rr.length := by rw [hr, List.length_append, hlen]
 unfold rowOut
 rw [← hr, hlen, ← hx, h3, show ((k.toNat : Nat) : Int) = k by omega]
set_option maxHeartbeats 1000000 in
theorem vMemAt (P : Program) (hs : List (Nat × Nat × List Nat)) : ∀ ins, ins.length = cMemAt.nin → cMemAt.pre ins → tMemAt.sat { cx P [] with hints := hs } (ctrR cMemAt) ins := by
 rintro ins _ ⟨W, c, k, rfl, h1⟩
 unfold tMemAt
 repeat' (first
  | (first
    | (with_reducible refine st_need ?_ ?_
       focus (simp only [dn, reduceCtorEq, h1] <;> first | omega | assumption))
    | (with_reducible refine st_and ?_ ?_)
    | (with_reducible exact st_ok)
    | (with_reducible refine st_br (fun hc => ?_) (fun hc => ?_) <;> (simp only [dn, reduceCtorEq, h1] at hc) <;> (try (exfalso; first | contradiction | omega)))
    | (refine st_call (by rfl) (by simp only [dn, reduceCtorEq, h1] <;> rfl) ?_ (by skip <;> rfl) (by simp only [dn] <;> rfl) ?_
       focus (first | exact ⟨_, rfl⟩)))
  | (refine st_ret (by simp only [dn, reduceCtorEq, h1] <;> rfl) ?_
     show _ = [EV.i (if 0 ≤ k ∧ k < W.length then W[k.toNat]?.getD 0 else 0)]
     first
      | (rw [if_neg (by omega)]; done)
      | (rw [if_pos (by omega)]; done))
  | fail "no step")
theorem hMemAt : cMemAt.Holds objs Try.prog := runCtr_holds (X := { cx Try.prog [] with hints := hsMemAt }) objsOk mixed noCts (callable _ Try.func74 (by kernel_rfl) (by kernel_rfl)) (by rintro ins _ ⟨_, _, _, rfl, _⟩; rfl) (by rw [rMemAt]; exact vMemAt _ _)
theorem hctsYb : ∀ (ci : Nat) (c : Ctr U), ctsYb[ci]? = some c → c.Holds objs Try.prog := by
 intro ci c h
 match ci, h with
 | 0, h => cases h; exact hWords
 | 1, h => cases h; exact hIdxP
 | 2, h => cases h; exact hNextP
 | 3, h => cases h; exact hSnd15
 | 4, h => cases h; exact hMemAt
 | n + 5, h => cases h
set_option maxHeartbeats 4000000 in
theorem vLive (P : Program) (hs : List (Nat × Nat × List Nat)) : ∀ ins, ins.length = cLive.nin → cLive.pre ins → tLive.sat { cxYb P [lLive] with hints := hs } (ctrR cLive) ins := by
 have hb : ∀ env, livInv env → tLiveL0.sat { cxYb P [lLive] with hints := hs } (ctrR cLive) env := by
  rintro env ⟨M, a0, a1, a2, a3, a4, a5, a6, a7, a8, a9, a10, a11, a12, x14, x18, x19, x20, x21, i, k, m, xs, c, rfl, hM, ht, h1, h2, h1', h2', h3, h4, h5, h6⟩
  have ha := okT_facts ht
  have hw63 := bit63 (fine_at0 hM (nextT a0 a1 a2 a5 i 0))
  unfold tLiveL0
  repeat' (first
   | (first
     | (with_reducible refine st_need ?_ ?_
        focus (simp only [dn, reduceCtorEq, hM, shr63, ht] <;> first | omega | assumption))
     | (with_reducible refine st_and ?_ ?_)
     | (with_reducible exact st_ok)
     | (with_reducible refine st_br (fun hc => ?_) (fun hc => ?_) <;> (simp only [dn, reduceCtorEq, hM, shr63, ht] at hc) <;> (try (exfalso; first | contradiction | omega)))
     | (refine st_call (by rfl) (by simp only [dn, reduceCtorEq, hM, shr63, ht] <;> rfl) ?_ (by simp only [out_words, out_memAt, out_nextP, out_idxP, out_Snd15] <;> rfl) (by simp only [dn] <;> rfl) ?_
        focus (first | exact ⟨_, rfl⟩ | exact ⟨_, _, _, rfl, hM.1⟩ | exact ⟨_, _, _, _, _, _, _, _, _, _, _, _, _, _, rfl, fine_at0 hM _⟩ | exact ⟨_, _, _, _, _, _, _, _, _, _, _, _, _, _, _, rfl⟩ | exact ⟨_, _, _, _, _, _, _, _, _, _, _, _, _, rfl⟩)))
   | (refine st_app (by rfl) (by simp only [dn, reduceCtorEq, hM] <;> rfl) (by simp only [dn, reduceCtorEq, hM] <;> rfl) (fun rr env' he => ?_)
      simp only [List.cons_append, List.nil_append] at he
      subst he)
   | (refine st_rng (fun LL env' he => ?_)
      simp only [List.cons_append, List.nil_append] at he
      subst he)
   | (refine st_lst (by simp only [List.map_cons, List.map_nil, List.cons_append, List.nil_append] <;> rfl) ?_)
   | (refine st_back (by rfl) (by simp only [dn, reduceCtorEq, hM, shr63] <;> rfl) (by simp only [dn] <;> rfl) (by rfl) ?_ ?_
      focus (rw [wrap_small (n := k + 1) (by omega) (by omega)]
             first
              | (refine ⟨M, a0, a1, a2, a3, a4, a5, a6, a7, a8, a9, a10, a11, a12, _, _, _, _, _, _, k + 1, m, _, _, rfl, hM, ht, by omega, by omega, by omega, by omega, h3, h4, liv_next0 h1 h5 (by omega) (by omega) (goes_f (by assumption)), idxW_hi _ _⟩; done)
              | (rw [wrap_small (n := m + 1) (by omega) (by omega)]
                 refine ⟨M, a0, a1, a2, a3, a4, a5, a6, a7, a8, a9, a10, a11, a12, _, _, _, _, _, _, k + 1, m + 1, _, _, rfl, hM, ht, by omega, by omega, by omega, by omega, by simp only [List.length_append, List.length_cons, List.length_take]; omega, by omega, liv_next1 h1 h1' (by omega) h5 (by omega) (by omega) (goes_t (by omega)), idxW_hi _ _⟩))
      focus (rw [wrap_small (n := k + 1) (by omega) (by omega)]; show (a5 - (k + 1)).toNat < (a5 - k).toNat; omega))
   | (refine st_ret (by simp only [dn, reduceCtorEq, hM] <;> rfl) ?_
      rw [lev_end (by omega), List.filter_nil, List.append_nil] at h5
      exact row_end h1' h3 h4 h5 _)
   | fail "no step")
 rintro ins _ ⟨M, a0, a1, a2, a3, a4, a5, a6, a7, a8, a9, a10, a11, a12, rfl, hM, ht⟩
 have ha := okT_facts ht
 unfold tLive
 repeat' (first
  | (first
    | (with_reducible refine st_need ?_ ?_
       focus (simp only [dn, reduceCtorEq, hM, shr63, ht] <;> first | omega | assumption))
    | (with_reducible refine st_and ?_ ?_)
    | (with_reducible exact st_ok)
    | (with_reducible refine st_br (fun hc => ?_) (fun hc => ?_) <;> (simp only [dn, reduceCtorEq, hM, shr63, ht] at hc) <;> (try (exfalso; first | contradiction | omega)))
    | (refine st_call (by rfl) (by simp only [dn, reduceCtorEq, hM, shr63, ht] <;> rfl) ?_ (by simp only [out_words, out_memAt, out_nextP, out_idxP, out_Snd15] <;> rfl) (by simp only [dn] <;> rfl) ?_
       focus (first | exact ⟨_, rfl⟩ | exact ⟨_, _, _, rfl, hM.1⟩ | exact ⟨_, _, _, _, _, _, _, _, _, _, _, _, _, _, rfl, fine_at0 hM _⟩ | exact ⟨_, _, _, _, _, _, _, _, _, _, _, _, _, _, _, rfl⟩ | exact ⟨_, _, _, _, _, _, _, _, _, _, _, _, _, rfl⟩)))
  | (refine st_app (by rfl) (by simp only [dn, reduceCtorEq, hM] <;> rfl) (by simp only [dn, reduceCtorEq, hM] <;> rfl) (fun rr env' he => ?_)
     simp only [List.cons_append, List.nil_append] at he
     subst he)
  | (refine st_rng (fun LL env' he => ?_)
     simp only [List.cons_append, List.nil_append] at he
     subst he)
  | (refine st_lst (by simp only [List.map_cons, List.map_nil, List.cons_append, List.nil_append] <;> rfl) ?_)
  | (refine st_loop (by rfl) (by simp only [dn, reduceCtorEq, hM] <;> rfl) (by simp only [dn] <;> rfl) ?_ (fun env' h => hb env' h)
     exact ⟨M, a0, a1, a2, a3, a4, a5, a6, a7, a8, a9, a10, a11, a12, _, _, _, _, _, _, 0, 0, _, _, rfl, hM, ht, by omega, by omega, by omega, by omega, rfl, by simp, by unfold liveT; rw [levelT_pos (next_head ht)]; rfl, idxW_hi _ _⟩)
  | fail
  | fail "no step")
theorem hLive : cLive.Holds objs Try.prog := runCtr_holdsm (X := { cxYb Try.prog [lLive] with hints := hsLive }) objsOk mixed hctsYb (callable _ Try.func29 (by kernel_rfl) (by kernel_rfl)) (by rintro ins outs _ ⟨_, _, _, _, _, _, _, _, _, _, _, _, _, _, rfl, _⟩ ⟨c, rfl⟩; rfl) (by rw [rLive]; exact vLive _ _)
section
variable {k : Tree} {env : List (EV U)} {X : Cx U} {R : List (EV U) → List (EV U) → Prop} {M : MemSt} {β : List Bnd} {ci : Nat}
end
end Go.Proofs.Ytbmbiiiacajolaa
