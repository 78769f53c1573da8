/- Texts of this proof. -/
import Derived.Test.YtdldcofddfkkbaaGreatVaTO
namespace Go.Proofs.YtdldcofddfkkbaaGreat
set_option linter.unusedVariables false
set_option linter.unusedSimpArgs false
set_option linter.unusedSectionVars false
open Go Go.RowKit
theorem out_Among (xs : List Int) (a c x : Int) : cAmong.out [.l xs, .i a, .i c, .i x] = [.b (decide (x ∈ xs.take a.toNat))] := rfl
theorem out_ApD (xs : List Int) (a c n : Int) : cApD.out [.l xs, .i a, .i c, .i n] = [.b (apartB (xs.take a.toNat) n)] := rfl
theorem out_DF10 (a b n s : Int) : cDF10.out [.i a, .i b, .i n, .i s] = [.i (fits10 a b n s)] := rfl
theorem out_DF12 (a b n s : Int) : cDF12.out [.i a, .i b, .i n, .i s] = [.i (fits12 a b n s)] := rfl
theorem out_DSnd (n h k t l s g w m ea ep ec tp : Int) : cDSnd.out [.i n, .i h, .i k, .i t, .i l, .i s, .i g, .i w, .i m, .i ea, .i ep, .i ec, .i tp] = [.b (okT n h k s)] := rfl
theorem out_DF11 (t l s g w m c : Int) : cDF11.out [.i t, .i l, .i s, .i g, .i w, .i m, .i c] = [.i (fits11D t l s g w m c)] := rfl
theorem out_DF13 (t l s g w m ea ep ec tp c : Int) : cDF13.out [.i t, .i l, .i s, .i g, .i w, .i m, .i ea, .i ep, .i ec, .i tp, .i c] = [.i (fits13D t l s g w m ea ep ec tp c)] := rfl
section
variable {k : Tree} {env : List (EV U)} {X : Cx U} {R : List (EV U) → List (EV U) → Prop} {ci : Nat} {β : List Bnd}
theorem st_appsG {i : Nat} {e : Ex} {xs : List Ex} {V vc ys : List Int} (hl : gL env i = V ++ vc) (hn : e.den env = (V.length : Int)) (hx : xs.map (Ex.den env) = ys)
 (hk : ∀ (r : List Int) (env' : List (EV U)), env ++ [.l ((V ++ ys) ++ r), .i (((V ++ ys).length + r.length : Nat) : Int)] = env' → k.sat X R env') : (Tree.apps (some i) e xs k).sat X R env := by
 intro r
 refine hk r _ ?_
 have hlen : xs.length = ys.length := by rw [← hx, List.length_map]
 simp only
 rw [hl, hn, Int.toNat_natCast, List.take_left' rfl, List.length_append]
 simp only [hx, hlen, List.append_assoc]
theorem st_apprP {i j : Nat} {e e2 : Ex} {V vc D dc : List Int} (hl : gL env i = V ++ vc) (hn : e.den env = (V.length : Int)) (hl2 : gL env j = D ++ dc) (hn2 : e2.den env = (D.length : Int))
 (hk : ∀ (r : List Int) (env' : List (EV U)), env ++ [.l ((V ++ D) ++ r), .i (((V ++ D).length + r.length : Nat) : Int)] = env' → k.sat X R env') : (Tree.appr (some i) e j e2 k).sat X R env := by
 intro r
 refine hk r _ ?_
 simp only
 rw [hl, hn, hl2, hn2, Int.toNat_natCast, Int.toNat_natCast, List.take_left' rfl, List.take_left' rfl, List.length_append, List.append_assoc]
theorem st_ce11 {t l s g w m : Int} (hc : X.cts[ci]? = some cCe11) (ha : β.map (Bnd.den env) = [.i t, .i l, .i s, .i g, .i w, .i m]) (h1 : s ≤ 4096)
 (hk : ∀ (d : List Int) (env' : List (EV U)), env ++ [.l (cells11D t l s g w ++ d), .i (cells11D t l s g w).length, .i (((cells11D t l s g w).length + d.length : Nat) : Int)] = env' → k.sat X R env') : (Tree.callm ci β k).sat X R env := by
 refine st_callm hc ha ⟨_, _, _, _, _, _, rfl, h1⟩ (fun o env' hr he => ?_)
 obtain ⟨t', l', s', g', w', m', d, e1, e2⟩ := hr
 simp only [List.cons.injEq, EV.i.injEq, and_true] at e1
 obtain ⟨rfl, rfl, rfl, rfl, rfl, rfl⟩ := e1
 subst e2
 exact hk d env' he
theorem st_ce13 {t l s g w m ea ep ec tp : Int} (hc : X.cts[ci]? = some cCe13) (ha : β.map (Bnd.den env) = [.i t, .i l, .i s, .i g, .i w, .i m, .i ea, .i ep, .i ec, .i tp]) (h1 : s ≤ 4096) (h2 : ec ≤ 64)
 (hk : ∀ (d : List Int) (env' : List (EV U)), env ++ [.l (held13D t l s g w ea ep ec tp ++ d), .i (held13D t l s g w ea ep ec tp).length, .i (((held13D t l s g w ea ep ec tp).length + d.length : Nat) : Int)] = env' → k.sat X R env') : (Tree.callm ci β k).sat X R env := by
 refine st_callm hc ha ⟨_, _, _, _, _, _, _, _, _, _, rfl, h1, h2⟩ (fun o env' hr he => ?_)
 obtain ⟨t', l', s', g', w', m', ea', ep', ec', tp', d, e1, e2⟩ := hr
 simp only [List.cons.injEq, EV.i.injEq, and_true] at e1
 obtain ⟨rfl, rfl, rfl, rfl, rfl, rfl, rfl, rfl, rfl, rfl⟩ := e1
 subst e2
 exact hk d env' he
theorem st_own {n h a t l s g w m ea ep ec tp : Int} (hc : X.cts[ci]? = some cOwn15) (ha : β.map (Bnd.den env) = [.i n, .i h, .i a, .i t, .i l, .i s, .i g, .i w, .i m, .i ea, .i ep, .i ec, .i tp]) (h1 : okT n h a s = true)
 (hk : ∀ (d : List Int) (env' : List (EV U)), env ++ [.l (own15 n h a s ++ d), .i (own15 n h a s).length, .i (((own15 n h a s).length + d.length : Nat) : Int)] = env' → k.sat X R env') : (Tree.callm ci β k).sat X R env := by
 refine st_callm hc ha ⟨_, _, _, _, _, _, _, _, _, _, _, _, _, rfl, h1⟩ (fun o env' hr he => ?_)
 obtain ⟨n', h', a', t', l', s', g', w', m', ea', ep', ec', tp', d, e1, e2⟩ := hr
 simp only [List.cons.injEq, EV.i.injEq, and_true] at e1
 obtain ⟨rfl, rfl, rfl, rfl, rfl, rfl, rfl, rfl, rfl, rfl, rfl, rfl, rfl⟩ := e1
 subst e2
 exact hk d env' he
end
set_option maxHeartbeats 4000000 in
theorem bAmong (P : Program) (hs : List (Nat × Nat × List Nat)) : ∀ env, amInv env → tAmongL0.sat { cxVa P with hints := hs } (ctrR cAmong) env := by
 rintro env ⟨xs, a, c, x, k, rfl, h1, h2, h3, h4, h5, h6⟩
 by_cases hk : k < a
 · have hga := get_at h4 (show k < xs.length by omega)
   have hwk : IntKind.i64.wrap (k + 1) = k + 1 := wrap_small (by omega) (by omega)
   by_cases hx : xs[k.toNat]?.getD 0 = x
   · have hm : x ∈ xs.take a.toNat := by
      have : x ∈ xs.take (k + 1).toNat := by rw [hga.2, hx]; simp
      exact List.mem_of_mem_take (i := (k + 1).toNat) (by rw [List.take_take, Nat.min_eq_left (by omega)]; exact this)
     unfold tAmongL0
     repeat' (first
      | (first
        | (with_reducible refine st_need ?_ ?_
           focus (simp only [dn, reduceCtorEq, hx] <;> first | omega | assumption))
        | (with_reducible refine st_and ?_ ?_)
        | (with_reducible exact st_ok)
        | (with_reducible refine st_br (fun hc => ?_) (fun hc => ?_) <;> (simp only [dn, reduceCtorEq, hx] at hc) <;> (try (exfalso; first | contradiction | omega)))
        | (refine st_call (by rfl) (by simp only [dn, reduceCtorEq, hx] <;> rfl) ?_ (by rfl <;> rfl) (by simp only [dn] <;> rfl) ?_
           focus (first | rfl)))
      | (refine st_ret (by simp only [dn, reduceCtorEq, hx] <;> rfl) ?_
         focus (show [EV.b _] = [EV.b _]; rw [decide_eq_true hm]))
      | fail "no step")
   · unfold tAmongL0
     repeat' (first
      | (first
        | (with_reducible refine st_need ?_ ?_
           focus (simp only [dn, reduceCtorEq, hx] <;> first | omega | assumption))
        | (with_reducible refine st_and ?_ ?_)
        | (with_reducible exact st_ok)
        | (with_reducible refine st_br (fun hc => ?_) (fun hc => ?_) <;> (simp only [dn, reduceCtorEq, hx] at hc) <;> (try (exfalso; first | contradiction | omega)))
        | (refine st_call (by rfl) (by simp only [dn, reduceCtorEq, hx] <;> rfl) ?_ (by rfl <;> rfl) (by simp only [dn] <;> rfl) ?_
           focus (first | rfl)))
      | (refine st_back (by rfl) (by simp only [dn, reduceCtorEq, hwk] <;> rfl) (by simp only [dn] <;> rfl) (by rfl) ?_ ?_
         focus exact ⟨xs, a, c, x, k + 1, rfl, h1, h2, h3, by omega, by omega, by rw [hga.2, List.mem_append, List.mem_singleton]; rintro (h | h); exact h6 h; exact hx h.symm⟩
         focus (show (a - (k + 1)).toNat < (a - k).toNat; omega))
      | fail "no step")
 · obtain rfl : k = a := by omega
   unfold tAmongL0
   repeat' (first
    | (first
      | (with_reducible refine st_need ?_ ?_
         focus (simp only [dn, reduceCtorEq, h1] <;> first | omega | assumption))
      | (with_reducible refine st_and ?_ ?_)
      | (with_reducible exact st_ok)
      | (with_reducible refine st_br (fun hc => ?_) (fun hc => ?_) <;> (simp only [dn, reduceCtorEq, h1] at hc) <;> (try (exfalso; first | contradiction | omega)))
      | (refine st_call (by rfl) (by simp only [dn, reduceCtorEq, h1] <;> rfl) ?_ (by rfl <;> rfl) (by simp only [dn] <;> rfl) ?_
         focus (first | rfl)))
    | (refine st_ret (by simp only [dn, reduceCtorEq, h1] <;> rfl) ?_
       focus (show [EV.b _] = [EV.b _]; rw [decide_eq_false h6]))
    | fail "no step")
set_option maxHeartbeats 4000000 in
theorem vAmong (P : Program) (hs : List (Nat × Nat × List Nat)) : ∀ ins, ins.length = cAmong.nin → cAmong.pre ins → tAmong.sat { cxVa P with hints := hs } (ctrR cAmong) ins := by
 rintro ins _ ⟨xs, a, c, x, rfl, h1, h2, h3⟩
 unfold tAmong
 refine st_loop (by rfl) (by simp only [dn, reduceCtorEq, h1] <;> rfl) (by simp only [dn] <;> rfl) ?_ (fun env' h => bAmong P hs env' h)
 exact ⟨xs, a, c, x, 0, rfl, h1, h2, h3, by omega, by omega, by simp⟩
theorem hAmong : cAmong.Holds objs Tryz.prog := runCtr_holds (X := { cxVa Tryz.prog with hints := hsAmong }) objsOk mixed noCts (callable _ Tryz.func67 (by kernel_rfl) (by kernel_rfl)) (by rintro ins _ ⟨_, _, _, _, rfl, _⟩; rfl) (by rw [rAmong]; exact vAmong _ _)
theorem hctsVb : ∀ (ci : Nat) (c : Ctr U), [cAmong][ci]? = some c → c.Holds objs Tryz.prog := by
 intro ci c h
 match ci, h with
 | 0, h => cases h; exact hAmong
 | n + 1, h => cases h
theorem apart_no {L : List Int} {n : Int} (h : (∃ x ∈ L, ¬ (0 ≤ x ∧ x < n)) ∨ ¬ L.Nodup) : apartB L n = false := by
 rcases h with ⟨x, hx, h⟩ | h
 · have : ¬ ∀ x ∈ L, 0 ≤ x ∧ x < n := fun g => h (g x hx)
   simp [apartB, this]
 · simp [apartB, h]
theorem apart_yes {L : List Int} {n : Int} (h : ∀ x ∈ L, 0 ≤ x ∧ x < n) (h' : L.Nodup) : apartB L n = true := by
 simp only [apartB, decide_eq_true h, decide_eq_true h', Bool.and_self]
set_option maxHeartbeats 8000000 in
theorem bApD (P : Program) (hs : List (Nat × Nat × List Nat)) : ∀ env, apdInv env → tApDL0.sat { cxVb P with hints := hs } (ctrR cApD) env := by
 rintro env ⟨xs, a, c, n, k, rfl, h1, h2, h3, h4, h5, h6, h7, h8⟩
 by_cases hk : k < a
 · have hga := get_at h5 (show k < xs.length by omega)
   have hwk : IntKind.i64.wrap (k + 1) = k + 1 := wrap_small (by omega) (by omega)
   obtain ⟨x, hx⟩ : ∃ x, xs[k.toNat]?.getD 0 = x := ⟨_, rfl⟩
   rw [hx] at hga
   have htk : xs.take (k + 1).toNat ++ (xs.take a.toNat).drop (k + 1).toNat = xs.take a.toNat := by
    have := List.take_append_drop (k + 1).toNat (xs.take a.toNat)
    rwa [List.take_take, Nat.min_eq_left (by omega)] at this
   have hxm : x ∈ xs.take a.toNat := by rw [← htk, hga.2]; simp
   have hno : ¬ (0 ≤ x ∧ x < n) ∨ x ∈ xs.take k.toNat → apartB (xs.take a.toNat) n = false := fun h => by
    rcases h with h | h
    · exact apart_no (.inl ⟨x, hxm, h⟩)
    · exact apart_no (.inr (not_nodup h ⟨_, by rw [← hga.2]; exact htk.symm⟩))
   by_cases hxr : 0 ≤ x ∧ x < n
   · by_cases hm : x ∈ xs.take k.toNat
     · have hR := hno (.inr hm)
       unfold tApDL0
       repeat' (first
        | (first
          | (with_reducible refine st_need ?_ ?_
             focus (simp only [dn, reduceCtorEq, hx, hm, decide_true] <;> first | omega | assumption))
          | (with_reducible refine st_and ?_ ?_)
          | (with_reducible exact st_ok)
          | (with_reducible refine st_br (fun hc => ?_) (fun hc => ?_) <;> (simp only [dn, reduceCtorEq, hx, hm, decide_true] at hc) <;> (try (exfalso; first | contradiction | omega)))
          | (refine st_call (by rfl) (by simp only [dn, reduceCtorEq, hx, hm, decide_true] <;> rfl) ?_ (by simp only [out_Among, hx, hm, decide_true] <;> rfl) (by simp only [dn] <;> rfl) ?_
             focus (first | exact ⟨_, _, _, _, rfl, h5, by omega, by omega⟩)))
        | (refine st_ret (by simp only [dn, reduceCtorEq, hx] <;> rfl) ?_
           focus (show [EV.b _] = [EV.b _]; rw [hR]))
        | fail "no step")
     · unfold tApDL0
       repeat' (first
        | (first
          | (with_reducible refine st_need ?_ ?_
             focus (simp only [dn, reduceCtorEq, hx, hm, decide_false] <;> first | omega | assumption))
          | (with_reducible refine st_and ?_ ?_)
          | (with_reducible exact st_ok)
          | (with_reducible refine st_br (fun hc => ?_) (fun hc => ?_) <;> (simp only [dn, reduceCtorEq, hx, hm, decide_false] at hc) <;> (try (exfalso; first | contradiction | omega)))
          | (refine st_call (by rfl) (by simp only [dn, reduceCtorEq, hx, hm, decide_false] <;> rfl) ?_ (by simp only [out_Among, hx, hm, decide_false] <;> rfl) (by simp only [dn] <;> rfl) ?_
             focus (first | exact ⟨_, _, _, _, rfl, h5, by omega, by omega⟩)))
        | (refine st_back (by rfl) (by simp only [dn, reduceCtorEq, hwk] <;> rfl) (by simp only [dn] <;> rfl) (by rfl) ?_ ?_
           focus exact ⟨xs, a, c, n, k + 1, rfl, h1, h2, h3, h4, by omega, by omega, by rw [hga.2]; exact nodup_put h7 hm, by rw [hga.2]; intro z hz; rcases List.mem_append.1 hz with hz | hz; exact h8 z hz; rw [List.mem_singleton.1 hz]; exact hxr⟩
           focus (show (a - (k + 1)).toNat < (a - k).toNat; omega))
        | fail "no step")
   · have hR := hno (.inl hxr)
     unfold tApDL0
     repeat' (first
      | (first
        | (with_reducible refine st_need ?_ ?_
           focus (simp only [dn, reduceCtorEq, hx] <;> first | omega | assumption))
        | (with_reducible refine st_and ?_ ?_)
        | (with_reducible exact st_ok)
        | (with_reducible refine st_br (fun hc => ?_) (fun hc => ?_) <;> (simp only [dn, reduceCtorEq, hx] at hc) <;> (try (exfalso; first | contradiction | omega)))
        | (refine st_call (by rfl) (by simp only [dn, reduceCtorEq, hx] <;> rfl) ?_ (by rfl <;> rfl) (by simp only [dn] <;> rfl) ?_
           focus (first | rfl)))
      | (refine st_ret (by simp only [dn, reduceCtorEq, hx] <;> rfl) ?_
         focus (show [EV.b _] = [EV.b _]; rw [hR]))
      | fail "no step")
 · obtain rfl : k = a := by omega
   have hR := apart_yes h8 h7
   unfold tApDL0
   repeat' (first
    | (first
      | (with_reducible refine st_need ?_ ?_
         focus (simp only [dn, reduceCtorEq, h1] <;> first | omega | assumption))
      | (with_reducible refine st_and ?_ ?_)
      | (with_reducible exact st_ok)
      | (with_reducible refine st_br (fun hc => ?_) (fun hc => ?_) <;> (simp only [dn, reduceCtorEq, h1] at hc) <;> (try (exfalso; first | contradiction | omega)))
      | (refine st_call (by rfl) (by simp only [dn, reduceCtorEq, h1] <;> rfl) ?_ (by rfl <;> rfl) (by simp only [dn] <;> rfl) ?_
         focus (first | rfl)))
    | (refine st_ret (by simp only [dn, reduceCtorEq, h1] <;> rfl) ?_
       focus (show [EV.b _] = [EV.b _]; rw [hR]))
    | fail "no step")
set_option maxHeartbeats 4000000 in
theorem vApD (P : Program) (hs : List (Nat × Nat × List Nat)) : ∀ ins, ins.length = cApD.nin → cApD.pre ins → tApD.sat { cxVb P with hints := hs } (ctrR cApD) ins := by
 rintro ins _ ⟨xs, a, c, n, rfl, h1, h2, h3, h4⟩
 unfold tApD
 refine st_loop (by rfl) (by simp only [dn, reduceCtorEq, h1] <;> rfl) (by simp only [dn] <;> rfl) ?_ (fun env' h => bApD P hs env' h)
 exact ⟨xs, a, c, n, 0, rfl, h1, h2, h3, h4, by omega, by omega, by simp, by simp⟩
theorem hApD : cApD.Holds objs Tryz.prog := runCtr_holds (X := { cxVb Tryz.prog with hints := hsApD }) objsOk mixed hctsVb (callable _ Tryz.func90 (by kernel_rfl) (by kernel_rfl)) (by rintro ins _ ⟨_, _, _, _, rfl, _⟩; rfl) (by rw [rApD]; exact vApD _ _)
set_option maxHeartbeats 4000000 in
theorem bCe11 (P : Program) (hs : List (Nat × Nat × List Nat)) : ∀ env, ce11Inv env → tCe11L0.sat { cxVc P with hints := hs } (ctrR cCe11) env := by
 rintro env ⟨t, l, s, g, w, m, k, V, d, rfl, h1, h3, hV⟩
 have hvl : V.length ≤ 9000 := by rw [hV, List.length_append, runP_len]; simp; omega
 have hwk : IntKind.i64.wrap ((k : Int) + 1) = ((k + 1 : Nat) : Int) := by rw [wrap_small (by omega) (by omega)]; rfl
 have hla : (V ++ d).length = V.length + d.length := List.length_append
 have hw1 : IntKind.i64.wrap ((V.length : Int) + 2) = ((V ++ [IntKind.i64.wrap (l + k), IntKind.i64.wrap (g + k)]).length : Int) := by rw [wrap_small (by omega) (by omega), List.length_append]; rfl
 by_cases hk : (k : Int) < s
 all_goals
  unfold tCe11L0
  repeat' (first
   | (first
     | (with_reducible refine st_need ?_ ?_
        focus (simp only [dn, reduceCtorEq, hw1, hla, hwk] <;> first | omega | assumption))
     | (with_reducible refine st_and ?_ ?_)
     | (with_reducible exact st_ok)
     | (with_reducible refine st_br (fun hc => ?_) (fun hc => ?_) <;> (simp only [dn, reduceCtorEq, hw1, hla, hwk] at hc) <;> (try (exfalso; first | contradiction | omega)))
     | (refine st_call (by rfl) (by simp only [dn, reduceCtorEq, hw1, hla, hwk] <;> rfl) ?_ (by rfl <;> rfl) (by simp only [dn] <;> rfl) ?_
        focus (first | rfl)))
   | (refine st_appsG (V := V) (by rfl) (by rfl) (by simp only [List.map_cons, List.map_nil] <;> rfl) (fun rr env' he => ?_)
      simp only [List.cons_append, List.nil_append] at he
      subst he)
   | (refine st_back (by rfl) (by simp only [dn, reduceCtorEq, hw1, hwk] <;> rfl) (by simp only [dn] <;> rfl) (by rfl) ?_ ?_
      focus exact ⟨t, l, s, g, w, m, k + 1, V ++ [IntKind.i64.wrap (l + k), IntKind.i64.wrap (g + k)], rr, rfl, h1, by omega, by rw [he_step, hV]⟩
      focus (show (s - ((k + 1 : Nat) : Int)).toNat < (s - (k : Int)).toNat; omega))
   | (refine st_ret (by simp only [dn, reduceCtorEq, hw1] <;> rfl) ?_
      focus exact ⟨t, l, s, g, w, m, d, rfl, by rw [show cells11D t l s g w = V by rw [hV, show k = s.toNat by omega]; rfl]⟩)
   | fail "no step")
set_option maxHeartbeats 4000000 in
theorem vCe11 (P : Program) (hs : List (Nat × Nat × List Nat)) : ∀ ins, ins.length = cCe11.nin → cCe11.pre ins → tCe11.sat { cxVc P with hints := hs } (ctrR cCe11) ins := by
 rintro ins _ ⟨t, l, s, g, w, m, rfl, h1⟩
 unfold tCe11
 repeat' (first
  | (refine st_lst (by simp only [dn, reduceCtorEq, h1] <;> rfl) ?_)
  | (refine st_loop (by rfl) (by simp only [dn, reduceCtorEq, h1] <;> rfl) (by simp only [dn] <;> rfl) ?_ (fun env' h => bCe11 P hs env' h)
     exact ⟨t, l, s, g, w, m, 0, [t, w], [], rfl, h1, Nat.zero_le _, by simp [runP]⟩)
  | fail "no step")
theorem hCe11 : cCe11.Holds objs Tryz.prog := runCtr_holdsm (X := { cxVc Tryz.prog with hints := hsCe11 }) (fuel := 20) (opens := []) (folds := []) objsOk mixed noCts (callable _ Tryz.func167 (by kernel_rfl) (by kernel_rfl)) (by rintro ins outs _ _ ⟨_, _, _, _, _, _, _, _, rfl⟩; rfl) (by rw [rCe11]; exact vCe11 _ _)
theorem hctsVd : ∀ (ci : Nat) (c : Ctr U), [cCe11][ci]? = some c → c.Holds objs Tryz.prog := by
 intro ci c h
 match ci, h with
 | 0, h => cases h; exact hCe11
 | n + 1, h => cases h
set_option maxHeartbeats 4000000 in
theorem bCe13 (P : Program) (hs : List (Nat × Nat × List Nat)) : ∀ env, ce13Inv env → tCe13L0.sat { cxVd P with hints := hs } (ctrR cCe13) env := by
 rintro env ⟨t, l, s, g, w, m, ea, ep, ec, tp, x10, x11, x12, x13, x14, k, V, d, rfl, h1, h2, h3, hV⟩
 have hvl : V.length ≤ 9000 := by rw [hV, List.length_append, List.length_append, runI_len, cells11D, List.length_append, runP_len]; simp; omega
 have hwk : IntKind.i64.wrap ((k : Int) + 1) = ((k + 1 : Nat) : Int) := by rw [wrap_small (by omega) (by omega)]; rfl
 have hla : (V ++ d).length = V.length + d.length := List.length_append
 have hw1 : IntKind.i64.wrap ((V.length : Int) + 1) = ((V ++ [IntKind.i64.wrap (ep + k)]).length : Int) := by rw [wrap_small (by omega) (by omega), List.length_append]; rfl
 by_cases hk : (k : Int) < ec
 all_goals
  unfold tCe13L0
  repeat' (first
   | (first
     | (with_reducible refine st_need ?_ ?_
        focus (simp only [dn, reduceCtorEq, hw1, hla, hwk] <;> first | omega | assumption))
     | (with_reducible refine st_and ?_ ?_)
     | (with_reducible exact st_ok)
     | (with_reducible refine st_br (fun hc => ?_) (fun hc => ?_) <;> (simp only [dn, reduceCtorEq, hw1, hla, hwk] at hc) <;> (try (exfalso; first | contradiction | omega)))
     | (refine st_call (by rfl) (by simp only [dn, reduceCtorEq, hw1, hla, hwk] <;> rfl) ?_ (by rfl <;> rfl) (by simp only [dn] <;> rfl) ?_
        focus (first | rfl)))
   | (refine st_rowP (V := V) (by rfl) (by rfl) (by rfl) (fun rr env' he => ?_)
      simp only [List.cons_append, List.nil_append] at he
      subst he)
   | (refine st_back (by rfl) (by simp only [dn, reduceCtorEq, hw1, hwk] <;> rfl) (by simp only [dn] <;> rfl) (by rfl) ?_ ?_
      focus exact ⟨t, l, s, g, w, m, ea, ep, ec, tp, x10, x11, x12, x13, x14, k + 1, V ++ [IntKind.i64.wrap (ep + k)], rr, rfl, h1, h2, by omega, by rw [he_step1, hV]⟩
      focus (show (ec - ((k + 1 : Nat) : Int)).toNat < (ec - (k : Int)).toNat; omega))
   | (refine st_ret (by simp only [dn, reduceCtorEq, hw1] <;> rfl) ?_
      focus exact ⟨t, l, s, g, w, m, ea, ep, ec, tp, d, rfl, by rw [show held13D t l s g w ea ep ec tp = V by rw [hV, show k = ec.toNat by omega]; rfl]⟩)
   | fail "no step")
set_option maxHeartbeats 4000000 in
theorem vCe13 (P : Program) (hs : List (Nat × Nat × List Nat)) : ∀ ins, ins.length = cCe13.nin → cCe13.pre ins → tCe13.sat { cxVd P with hints := hs } (ctrR cCe13) ins := by
 rintro ins _ ⟨t, l, s, g, w, m, ea, ep, ec, tp, rfl, h1, h2⟩
 have hcl : (cells11D t l s g w).length ≤ 8200 := by rw [cells11D, List.length_append, runP_len]; simp; omega
 obtain ⟨C, hC⟩ : ∃ C, cells11D t l s g w = C := ⟨_, rfl⟩
 rw [hC] at hcl
 have hw4 : IntKind.i64.wrap ((C.length : Int) + 4) = ((C ++ [ea, tp, IntKind.i64.wrap (tp + 1), IntKind.i64.wrap (tp + 2)]).length : Int) := by rw [wrap_small (by omega) (by omega), List.length_append]; rfl
 have hla : ∀ d : List Int, (C ++ d).length = C.length + d.length := fun d => List.length_append
 unfold tCe13
 repeat' (first
  | (first
    | (with_reducible refine st_need ?_ ?_
       focus (simp only [dn, reduceCtorEq, hw4, hla] <;> first | omega | assumption))
    | (with_reducible refine st_and ?_ ?_)
    | (with_reducible exact st_ok)
    | (with_reducible refine st_br (fun hc => ?_) (fun hc => ?_) <;> (simp only [dn, reduceCtorEq, hw4, hla] at hc) <;> (try (exfalso; first | contradiction | omega)))
    | (refine st_call (by rfl) (by simp only [dn, reduceCtorEq, hw4, hla] <;> rfl) ?_ (by rfl <;> rfl) (by simp only [dn] <;> rfl) ?_
       focus (first | rfl)))
  | (refine st_ce11 (by rfl) (by simp only [dn, reduceCtorEq, h1] <;> rfl) h1 (fun d env' he => ?_)
     rw [hC] at he
     simp only [List.cons_append, List.nil_append] at he
     subst he)
  | (refine st_appsG (V := C) (by rfl) (by rfl) (by simp only [List.map_cons, List.map_nil] <;> rfl) (fun rr env' he => ?_)
     simp only [List.cons_append, List.nil_append] at he
     subst he)
  | (refine st_loop (by rfl) (by simp only [dn, reduceCtorEq, hw4] <;> rfl) (by simp only [dn] <;> rfl) ?_ (fun env' h => bCe13 P hs env' h)
     exact ⟨t, l, s, g, w, m, ea, ep, ec, tp, _, _, _, _, _, 0, C ++ [ea, tp, IntKind.i64.wrap (tp + 1), IntKind.i64.wrap (tp + 2)], rr, rfl, h1, h2, Nat.zero_le _, by rw [hC]; simp [runI]⟩)
  | fail "no step")
theorem hCe13 : cCe13.Holds objs Tryz.prog := runCtr_holdsm (X := { cxVd Tryz.prog with hints := hsCe13 }) (fuel := 20) (opens := []) (folds := []) objsOk mixed hctsVd (callable _ Tryz.func91 (by kernel_rfl) (by kernel_rfl)) (by rintro ins outs _ _ ⟨_, _, _, _, _, _, _, _, _, _, _, _, rfl⟩; rfl) (by rw [rCe13]; exact vCe13 _ _)
theorem to_stepD {W : List Int} {a : Int} {k : Nat} : W ++ runI a (k + 1) = (W ++ runI a k) ++ [IntKind.i64.wrap (a + k)] := by rw [runI, List.append_assoc]
set_option maxHeartbeats 4000000 in
theorem bOw2 (P : Program) (hs : List (Nat × Nat × List Nat)) : ∀ env, ow2Inv env → tOwn15L0.sat { cxVe P with hints := hs } (ctrR cOwn15) env := by
 rintro env ⟨n, h, a, t, l, s, g, w, m, ea, ep, ec, tp, x13, x14, x15, x16, k, V, d, rfl, ho, hk, hV⟩
 have hk' := okT_facts ho
 have hm := @mul_le s a ⟨hk'.1, hk'.2.1, hk'.2.2.1, hk'.2.2.2.1⟩
 have hvl : V.length ≤ 9400 := by rw [hV, List.length_append, runI_len, runI_len]; omega
 have hwk : IntKind.i64.wrap ((k : Int) + 1) = ((k + 1 : Nat) : Int) := by rw [wrap_small (by omega) (by omega)]; rfl
 have hla : (V ++ d).length = V.length + d.length := List.length_append
 have hw1 : IntKind.i64.wrap ((V.length : Int) + 1) = ((V ++ [IntKind.i64.wrap (h + k)]).length : Int) := by rw [wrap_small (by omega) (by omega), List.length_append]; rfl
 by_cases hka : (k : Int) < a
 all_goals
  unfold tOwn15L0
  repeat' (first
   | (first
     | (with_reducible refine st_need ?_ ?_
        focus (simp only [dn, reduceCtorEq, hw1, hla, hwk] <;> first | omega | assumption))
     | (with_reducible refine st_and ?_ ?_)
     | (with_reducible exact st_ok)
     | (with_reducible refine st_br (fun hc => ?_) (fun hc => ?_) <;> (simp only [dn, reduceCtorEq, hw1, hla, hwk] at hc) <;> (try (exfalso; first | contradiction | omega)))
     | (refine st_call (by rfl) (by simp only [dn, reduceCtorEq, hw1, hla, hwk] <;> rfl) ?_ (by rfl <;> rfl) (by simp only [dn] <;> rfl) ?_
        focus (first | rfl)))
   | (refine st_rowP (V := V) (by rfl) (by rfl) (by rfl) (fun rr env' he => ?_)
      simp only [List.cons_append, List.nil_append] at he
      subst he)
   | (refine st_back (by rfl) (by simp only [dn, reduceCtorEq, hw1, hwk] <;> rfl) (by simp only [dn] <;> rfl) (by rfl) ?_ ?_
      focus exact ⟨n, h, a, t, l, s, g, w, m, ea, ep, ec, tp, x13, x14, x15, x16, k + 1, V ++ [IntKind.i64.wrap (h + k)], rr, rfl, ho, by omega, by rw [to_stepD, hV]⟩
      focus (show (a - ((k + 1 : Nat) : Int)).toNat < (a - (k : Int)).toNat; omega))
   | (refine st_ret (by simp only [dn, reduceCtorEq, hw1] <;> rfl) ?_
      focus exact ⟨n, h, a, t, l, s, g, w, m, ea, ep, ec, tp, d, rfl, by rw [show own15 n h a s = V by rw [hV, show k = a.toNat by omega]; rfl]⟩)
   | fail "no step")
set_option maxHeartbeats 4000000 in
theorem bOw1 (P : Program) (hs : List (Nat × Nat × List Nat)) : ∀ env, ow1Inv env → tOwn15L1.sat { cxVe P with hints := hs } (ctrR cOwn15) env := by
 rintro env ⟨n, h, a, t, l, s, g, w, m, ea, ep, ec, tp, k, V, d, rfl, ho, hk, hV⟩
 have hk' := okT_facts ho
 have hm := @mul_le s a ⟨hk'.1, hk'.2.1, hk'.2.2.1, hk'.2.2.2.1⟩
 have hvl : V.length ≤ 9400 := by rw [hV, runI_len]; omega
 have hwk : IntKind.i64.wrap ((k : Int) + 1) = ((k + 1 : Nat) : Int) := by rw [wrap_small (by omega) (by omega)]; rfl
 have hwa : IntKind.i64.wrap (4 + a) = 4 + a := wrap_small (by omega) (by omega)
 have hws : IntKind.i64.wrap (s * (4 + a)) = s * (4 + a) := wrap_small (by omega) (by omega)
 have hla : (V ++ d).length = V.length + d.length := List.length_append
 have hw1 : IntKind.i64.wrap ((V.length : Int) + 1) = ((V ++ [IntKind.i64.wrap (n + k)]).length : Int) := by rw [wrap_small (by omega) (by omega), List.length_append]; rfl
 obtain ⟨q, hq⟩ : ∃ q, s * (4 + a) = q := ⟨_, rfl⟩
 rw [hq] at hm hk hws
 by_cases hka : (k : Int) < q
 all_goals
  unfold tOwn15L1
  repeat' (first
   | (first
     | (with_reducible refine st_need ?_ ?_
        focus (simp only [dn, reduceCtorEq, hw1, hla, hwk, hwa, hq, hws] <;> first | omega | assumption))
     | (with_reducible refine st_and ?_ ?_)
     | (with_reducible exact st_ok)
     | (with_reducible refine st_br (fun hc => ?_) (fun hc => ?_) <;> (simp only [dn, reduceCtorEq, hw1, hla, hwk, hwa, hq, hws] at hc) <;> (try (exfalso; first | contradiction | omega)))
     | (refine st_call (by rfl) (by simp only [dn, reduceCtorEq, hw1, hla, hwk, hwa, hq, hws] <;> rfl) ?_ (by rfl <;> rfl) (by simp only [dn] <;> rfl) ?_
        focus (first | rfl)))
   | (refine st_rowP (V := V) (by rfl) (by rfl) (by rfl) (fun rr env' he => ?_)
      simp only [List.cons_append, List.nil_append] at he
      subst he)
   | (refine st_back (by rfl) (by simp only [dn, reduceCtorEq, hw1, hwk] <;> rfl) (by simp only [dn] <;> rfl) (by rfl) ?_ ?_
      focus exact ⟨n, h, a, t, l, s, g, w, m, ea, ep, ec, tp, k + 1, V ++ [IntKind.i64.wrap (n + k)], rr, rfl, ho, by rw [hq]; omega, by rw [runI, hV]⟩
      focus (show (s * (4 + a) - ((k + 1 : Nat) : Int)).toNat < (s * (4 + a) - (k : Int)).toNat; rw [hq]; omega))
   | (refine st_loop (by rfl) (by simp only [dn, reduceCtorEq, hw1] <;> rfl) (by simp only [dn] <;> rfl) ?_ (fun env' h => bOw2 P hs env' h)
      exact ⟨n, h, a, t, l, s, g, w, m, ea, ep, ec, tp, _, _, _, _, 0, V, d, rfl, ho, Nat.zero_le _, by rw [hV, hq, show k = q.toNat by omega]; simp [runI]⟩)
   | fail "no step")
set_option maxHeartbeats 4000000 in
theorem vOwn15 (P : Program) (hs : List (Nat × Nat × List Nat)) : ∀ ins, ins.length = cOwn15.nin → cOwn15.pre ins → tOwn15.sat { cxVe P with hints := hs } (ctrR cOwn15) ins := by
 rintro ins _ ⟨n, h, a, t, l, s, g, w, m, ea, ep, ec, tp, rfl, ho⟩
 unfold tOwn15
 repeat' (first
  | (refine st_lst (by simp only [dn, reduceCtorEq, ho] <;> rfl) ?_)
  | (refine st_loop (by rfl) (by simp only [dn, reduceCtorEq, ho] <;> rfl) (by simp only [dn] <;> rfl) ?_ (fun env' h => bOw1 P hs env' h)
     exact ⟨n, h, a, t, l, s, g, w, m, ea, ep, ec, tp, 0, [], [], rfl, ho, Nat.zero_le _, rfl⟩)
  | fail "no step")
theorem hOwn15 : cOwn15.Holds objs Tryz.prog := runCtr_holdsm (X := { cxVe Tryz.prog with hints := hsOwn15 }) (fuel := 20) (opens := []) (folds := []) objsOk mixed noCts (callable _ Tryz.func122 (by kernel_rfl) (by kernel_rfl)) (by rintro ins outs _ _ ⟨_, _, _, _, _, _, _, _, _, _, _, _, _, _, _, rfl⟩; rfl) (by rw [rOwn15]; exact vOwn15 _ _)
end Go.Proofs.YtdldcofddfkkbaaGreat
