/- The symbolic executor: objects opened and shut; contracts proved by their runs. No program is named here. -/
import Derived.Test.YtjohihkbampbgaaSp
namespace Go.Proofs.Ytjohihkbampbgaa
set_option linter.unusedVariables false
set_option linter.unusedSimpArgs false
set_option linter.unusedSectionVars false
open Go

section
variable {U : Type} [Nil U] {X : Cx U} {R : List (EV U) → List (EV U) → Prop} {w0 : World} {F : Nat → Prop} {env : List (EV U)} {ρ : List Value} {w : World} {st : St} {a : Act} {as : List Act}

/-- a value written otherwise -/
structure Alike (env : List (EV U)) (ρ : List Value) (g : SV → SV) : Prop where
  den : ∀ v xs ys, (g v).den (env ++ xs) (ρ ++ ys) = v.den (env ++ xs) (ρ ++ ys)
  stab : ∀ v, v.stab env → (g v).stab env
  junk : g .junk = .junk
mutual
theorem mapN_den {g : SV → SV} (hg : Alike env ρ g) : ∀ (v : SV) (xs : List (EV U)) (ys : List Value), (v.mapN g).den (env ++ xs) (ρ ++ ys) = v.den (env ++ xs) (ρ ++ ys)
  | .func fn a b, xs, ys => by simp only [SV.mapN, SV.den, mapNL_den hg a xs ys, mapNL_den hg b xs ys]
  | .agg l, xs, ys => by simp only [SV.mapN, SV.den, mapNL_den hg l xs ys]
  | .tuple l, xs, ys => by simp only [SV.mapN, SV.den, mapNL_den hg l xs ys]
  | .int k e, xs, ys => hg.den _ xs ys
  | .bool b, xs, ys => hg.den _ xs ys
  | .nilp, xs, ys => hg.den _ xs ys
  | .ptr n o, xs, ys => hg.den _ xs ys
  | .ptrx n e s o, xs, ys => hg.den _ xs ys
  | .hnd n, xs, ys => hg.den _ xs ys
  | .nils, xs, ys => hg.den _ xs ys
  | .slice n l c, xs, ys => hg.den _ xs ys
  | .nilf, xs, ys => hg.den _ xs ys
  | .rowv k i, xs, ys => hg.den _ xs ys
  | .yld n, xs, ys => hg.den _ xs ys
  | .junk, xs, ys => hg.den _ xs ys
theorem mapNL_den {g : SV → SV} (hg : Alike env ρ g) : ∀ (l : List SV) (xs : List (EV U)) (ys : List Value), SV.denL (env ++ xs) (ρ ++ ys) (SV.mapNL g l) = SV.denL (env ++ xs) (ρ ++ ys) l
  | [], xs, ys => rfl
  | v :: l, xs, ys => by simp only [SV.mapNL, SV.denL, mapN_den hg v xs ys, mapNL_den hg l xs ys]
end
mutual
theorem mapN_stab {g : SV → SV} (hg : Alike env ρ g) : ∀ (v : SV), v.stab env → (v.mapN g).stab env
  | .func fn a b, h => ⟨mapNL_stab hg a h.1, mapNL_stab hg b h.2⟩
  | .agg l, h => by simp only [SV.mapN, SV.stab] at h ⊢; exact mapNL_stab hg l h
  | .tuple l, h => by simp only [SV.mapN, SV.stab] at h ⊢; exact mapNL_stab hg l h
  | .int k e, h => hg.stab _ h
  | .bool b, h => hg.stab _ h
  | .nilp, h => hg.stab _ h
  | .ptr n o, h => hg.stab _ h
  | .ptrx n e s o, h => hg.stab _ h
  | .hnd n, h => hg.stab _ h
  | .nils, h => hg.stab _ h
  | .slice n l c, h => hg.stab _ h
  | .nilf, h => hg.stab _ h
  | .rowv k i, h => hg.stab _ h
  | .yld n, h => hg.stab _ h
  | .junk, h => hg.stab _ h
theorem mapNL_stab {g : SV → SV} (hg : Alike env ρ g) : ∀ (l : List SV), SV.stabL env l → SV.stabL env (SV.mapNL g l)
  | [], _ => trivial
  | v :: l, h => ⟨mapN_stab hg v h.1, mapNL_stab hg l h.2⟩
end
theorem mapNL_eq (g : SV → SV) : ∀ (l : List SV), SV.mapNL g l = l.map (SV.mapN g)
  | [] => rfl
  | v :: l => by simp [SV.mapNL, mapNL_eq g l]
theorem Den.mapN {g : SV → SV} (hg : Alike env ρ g) {v : SV} {c : Value} (h : Den env ρ v c) : Den env ρ (v.mapN g) c := ⟨fun xs ys => by rw [mapN_den hg]; exact h.1 xs ys, mapN_stab hg v h.2⟩
theorem DenL.mapN {g : SV → SV} (hg : Alike env ρ g) {l : List SV} {cs : List Value} (h : DenL env ρ l cs) : DenL env ρ (SV.mapNL g l) cs :=
  ⟨fun xs ys => by rw [← denL_map, mapNL_den hg, denL_map]; exact h.1 xs ys, mapNL_stab hg l h.2⟩
theorem Rel.mapN {g : SV → SV} (hg : Alike env ρ g) {v : SV} {c : Value} (h : Rel env ρ v c) : Rel env ρ (v.mapN g) c := by
  rcases h with h | h
  · subst h; exact .inl hg.junk
  · exact .inr (h.mapN hg)
theorem TmOk.mapN {g : SV → SV} (hg : Alike env ρ g) {tm : Tm} (h : TmOk env ρ tm a) : TmOk env ρ (tm.mapN g) a := by
  refine ⟨⟨h.1.1, fun i => ?_⟩, h.2⟩
  have := (h.1.2 i).mapN hg
  simp only [Tm.getD] at this
  simp only [Tm.getD, Tm.mapN, Tr.get_map (SV.mapN g) (by exact hg.junk)]
  exact this
theorem Stk.mapN {g : SV → SV} (hg : Alike env ρ g) {l : List Tm} (h : Stk env ρ l as) : Stk env ρ (l.map (Tm.mapN g)) as := by
  induction h with
  | nil => exact .nil
  | cons h _ ih => exact .cons (h.mapN hg) ih
theorem Holds.mapN {objs : List (ObjT U)} {g : SV → SV} (hg : Alike env ρ g) {h : HE} {v : Value} {S : Nat → Prop} (hh : Holds objs w0 F env ρ h v w S) : Holds objs w0 F env ρ (h.mapN g) v w S := by
  cases h with
  | cells vs ty => obtain ⟨b, cs, e1, e2, e3⟩ := hh; exact ⟨b, cs, e1, e2.mapN hg, e3⟩
  | _ => exact hh
theorem Conc.mapN {g : SV → SV} (hg : Alike env ρ g) (hc : Conc X.objs w0 F env ρ st a as w) : Conc X.objs w0 F env ρ (st.mapN g) a as w := by
  obtain ⟨S, hS⟩ := hc.sat.own
  refine ⟨hc.ne, hc.pc, hc.tm.mapN hg, hc.stk.mapN hg, by simpa [St.mapN] using hc.sat.len, ⟨S, fun n e hn => ?_, hS.disj, fun n x hx => by simpa [St.mapN] using hS.dom n x hx⟩, hc.sat.frame⟩
  simp only [St.mapN, List.getElem?_map, Option.map_eq_some_iff] at hn
  obtain ⟨e0, h0, rfl⟩ := hn
  exact (hS.holds n e0 h0).mapN hg

theorem alike_swapH {n : Nat} {u : SV} {c : Value} (hn : n < ρ.length) (hc : hv ρ n = c) (hu : Den env ρ u c) : Alike env ρ (swapH n u) := by
  refine ⟨fun v xs ys => ?_, fun v hs => ?_, rfl⟩
  · cases v <;> try rfl
    rename_i m
    simp only [swapH]
    split
    · rename_i h; subst h; rw [hu.1 xs ys]; simp only [SV.den]; rw [hv_app hn, hc]
    · rfl
  · cases v <;> try exact hs
    rename_i m
    simp only [swapH]
    split
    · exact hu.2
    · exact hs
theorem alike_swapP {n b : Nat} (hn : n < ρ.length) (hc : hv ρ n = .pointer (some ⟨b, 0, none⟩)) : Alike env ρ (swapP n) := by
  have key : ∀ (m : Nat) (xs : List (EV U)) (ys : List Value), (swapP n (.ptr m 0)).den (env ++ xs) (ρ ++ ys) = (SV.ptr m 0).den (env ++ xs) (ρ ++ ys) := fun m xs ys => by
    simp only [swapP]
    split
    · rename_i h; subst h; simp only [SV.den, hv_app hn, hc, addrOf, add0]
    · rfl
  refine ⟨fun v xs ys => ?_, fun v hs => ?_, rfl⟩
  · cases v with
    | ptr m o => cases o with
      | zero => exact key m xs ys
      | succ o => rfl
    | _ => rfl
  · cases v with
    | ptr m o => cases o with
      | zero => simp only [swapP]; split <;> trivial
      | succ o => trivial
    | _ => exact hs

/-! ### an object is opened -/
theorem opn_pick {ts : List Nat} {g : Nat → Tree} {z : Tree} (h : (ts.foldr (fun t acc => Tree.and (g t) acc) z).sat X R env) : z.sat X R env ∧ ∀ t ∈ ts, (g t).sat X R env := by
  induction ts with
  | nil => exact ⟨h, by simp⟩
  | cons t ts ih =>
    obtain ⟨h1, h2⟩ := ih h.2
    refine ⟨h1, fun x hx => ?_⟩
    rcases List.mem_cons.1 hx with rfl | hx
    · exact h.1
    · exact h2 x hx

theorem open_one (ho : ObjsOk X.objs) (hc : Conc X.objs w0 F env ρ st a as w) {n t : Nat} {T : ObjT U} {ps : List (EV U)} {ρL : List Value} {Sf S0 : Nat → Nat → Prop} (hS : Own X.objs w0 F env ρ st.hp w S0) (hn : n < st.hp.length)
    (ht : X.objs[t]? = some T) (hps : ps.length = T.nv) (hl : ρL.length = T.hp.length)
    (hholds : ∀ m h, T.hp[m]? = some h → Holds X.objs w0 F ps ρL h (hv ρL m) w (Sf m))
    (disj : ∀ n m x, Sf n x → Sf m x → n = m) (sub : ∀ m x, Sf m x → S0 n x) (inn : ∀ m x, Sf m x → m < T.hp.length) (hnil : T.isNil = false) (hv0 : hv ρ n = hv ρL 0)
    {h : HE} {hs : List HE} (hsub : substNew ((List.range T.nv).map fun j => Bnd.var (st.ne + j)) (n :: (List.range (T.hp.length - 1)).map (st.hp.length + ·)) T.hp = some (h :: hs)) :
    Conc X.objs w0 F (env ++ ps) (ρ ++ ρL.drop 1) { st with hp := st.hp.set n h ++ hs, ne := st.ne + T.nv } a as w := by
  obtain ⟨k1, k2⟩ := substNew_spec _ _ hsub
  simp only [List.length_cons] at k1
  generalize hβ : (List.range T.nv).map (fun j => Bnd.var (st.ne + j)) = β at hsub k2
  generalize hσ : n :: (List.range (T.hp.length - 1)).map (st.hp.length + ·) = σ at hsub k2
  have hβd : β.map (Bnd.den (env ++ ps)) = ps := by
    subst hβ
    rw [List.map_map]
    apply List.ext_getElem?
    intro i
    by_cases hi : i < T.nv
    · have : i < ps.length := by omega
      simp only [List.getElem?_map, List.getElem?_range hi, Option.map_some, Function.comp, Bnd.den, List.getD, ← hc.ne]
      rw [List.getElem?_append_right (by omega)]
      simp [List.getElem?_eq_getElem this]
    · rw [List.getElem?_eq_none (by simp; omega), List.getElem?_eq_none (by omega)]
  have hσd : σ.map (hv (ρ ++ ρL.drop 1)) = ρL := by
    subst hσ
    apply List.ext_getElem?
    intro i
    cases i with
    | zero =>
      have h0 : 0 < ρL.length := by omega
      simp only [List.map_cons, List.getElem?_cons_zero]
      rw [hv_app (by rw [hc.sat.len]; exact hn), hv0]
      simp [hv, List.getElem?_eq_getElem h0]
    | succ i =>
      simp only [List.map_cons, List.getElem?_cons_succ, List.map_map]
      by_cases hi : i < T.hp.length - 1
      · have h1 : i + 1 < ρL.length := by omega
        simp only [List.getElem?_map, List.getElem?_range hi, Option.map_some, Function.comp, hv, List.getD, ← hc.sat.len]
        rw [List.getElem?_append_right (by omega)]
        simp only [Nat.add_sub_cancel_left, List.getElem?_drop]
        rw [show 1 + i = i + 1 by omega, List.getElem?_eq_getElem h1]
        rfl
      · rw [List.getElem?_eq_none (by simp; omega), List.getElem?_eq_none (by omega)]
  have hscope : β.all (Bnd.inScope (env ++ ps).length) = true := by
    rw [List.all_eq_true]
    intro b hb
    subst hβ
    simp only [List.mem_map, List.mem_range] at hb
    obtain ⟨j, hj, rfl⟩ := hb
    have := hc.ne
    simp [Bnd.inScope]
    omega
  have hnames : σ.all (· < (ρ ++ ρL.drop 1).length) = true := by
    rw [List.all_eq_true]
    intro m hm
    have := hc.sat.len
    subst hσ
    simp only [List.length_append, List.length_drop, decide_eq_true_eq]
    rcases List.mem_cons.1 hm with h | h
    · omega
    · simp only [List.mem_map, List.mem_range] at h
      obtain ⟨j, hj, rfl⟩ := h
      omega
  have hget : ∀ m h', T.hp[m]? = some h' → ∃ e, (h :: hs)[m]? = some e ∧ Holds X.objs w0 F (env ++ ps) (ρ ++ ρL.drop 1) e (hv ρL m) w (Sf m) := fun m h' hm => by
    obtain ⟨hro, e, e1, e2⟩ := k2 m h' hm
    refine ⟨e, e2, ?_⟩
    have hh := hholds m h' hm
    rw [← hβd, ← hσd] at hh
    have := hh.unform (w0 := w0) (F := F) hscope hnames e1 hro
    rwa [hσd] at this
  let S2 : Nat → Nat → Prop := fun m x => if m = n then Sf 0 x else if m < st.hp.length then S0 m x else Sf (m - st.hp.length + 1) x
  have hlen2 : (st.hp.set n h ++ hs).length = st.hp.length + (T.hp.length - 1) := by simp; omega
  refine ⟨by simp [hc.ne, hps], hc.pc.ext _, hc.tm.ext _ _, hc.stk.ext _ _, by rw [hlen2]; simp [hc.sat.len]; omega, ⟨S2, ⟨fun m e hm => ?_, fun m k x hx hy => ?_, fun m x hx => ?_⟩⟩, hc.sat.frame⟩
  · by_cases hmn : m = n
    · subst hmn
      have hT0 : ∃ h', T.hp[0]? = some h' := ⟨_, List.getElem?_eq_getElem (by omega)⟩
      obtain ⟨h', hT0⟩ := hT0
      obtain ⟨e0, e1, e2⟩ := hget 0 h' hT0
      simp at e1
      subst e1
      rw [List.getElem?_append_left (by simpa using hn), List.getElem?_set_self hn] at hm
      injection hm with hm
      subst hm
      have hfun : S2 m = Sf 0 := by funext x; simp [S2]
      rw [hfun, hv_app (by rw [hc.sat.len]; exact hn), hv0]
      exact e2
    · by_cases hlt : m < st.hp.length
      · rw [List.getElem?_append_left (by simpa using hlt), List.getElem?_set_ne (Ne.symm hmn)] at hm
        have hfun : S2 m = S0 m := by funext x; simp [S2, hmn, hlt]
        rw [hfun, hv_app (by rw [hc.sat.len]; exact hlt)]
        exact (hS.holds m e hm).ext _ _
      · have hml := (List.getElem?_eq_some_iff.1 hm).1
        rw [hlen2] at hml
        rw [List.getElem?_append_right (by simp; omega)] at hm
        simp only [List.length_set] at hm
        have hT : T.hp[m - st.hp.length + 1]? = some T.hp[m - st.hp.length + 1] := List.getElem?_eq_getElem (by omega)
        obtain ⟨e0, e1, e2⟩ := hget _ _ hT
        simp only [List.getElem?_cons_succ] at e1
        rw [hm] at e1
        injection e1 with e1
        subst e1
        have hfun : S2 m = Sf (m - st.hp.length + 1) := by funext x; simp [S2, hmn, hlt]
        rw [hfun]
        have hvv : hv (ρ ++ ρL.drop 1) m = hv ρL (m - st.hp.length + 1) := by
          simp only [hv, List.getD]
          rw [List.getElem?_append_right (by rw [hc.sat.len]; omega), List.getElem?_drop, hc.sat.len]
          congr 2
          omega
        rw [hvv]
        exact e2
  · simp only [S2] at hx hy
    have split3 : ∀ m x, (if m = n then Sf 0 x else if m < st.hp.length then S0 m x else Sf (m - st.hp.length + 1) x) → (m = n ∧ Sf 0 x) ∨ (m ≠ n ∧ m < st.hp.length ∧ S0 m x) ∨ (m ≠ n ∧ st.hp.length ≤ m ∧ Sf (m - st.hp.length + 1) x) := by
      intro m x h
      by_cases h1 : m = n
      · rw [if_pos h1] at h; exact .inl ⟨h1, h⟩
      · rw [if_neg h1] at h
        by_cases h2 : m < st.hp.length
        · rw [if_pos h2] at h; exact .inr (.inl ⟨h1, h2, h⟩)
        · rw [if_neg h2] at h; exact .inr (.inr ⟨h1, by omega, h⟩)
    rcases split3 m x hx with ⟨a1, a2⟩ | ⟨a1, a2, a3⟩ | ⟨a1, a2, a3⟩ <;> rcases split3 k x hy with ⟨b1, b2⟩ | ⟨b1, b2, b3⟩ | ⟨b1, b2, b3⟩
    · omega
    · exact absurd (hS.disj _ _ x (sub _ x a2) b3) (fun e => b1 e.symm)
    · have := disj _ _ x a2 b3; omega
    · exact absurd (hS.disj _ _ x (sub _ x b2) a3) (fun e => a1 e.symm)
    · exact hS.disj _ _ x a3 b3
    · exact absurd (hS.disj _ _ x (sub _ x b3) a3) (fun e => a1 e.symm)
    · have := disj _ _ x a3 b2; omega
    · exact absurd (hS.disj _ _ x (sub _ x a3) b3) (fun e => b1 e.symm)
    · have := disj _ _ x a3 b3; omega
  · rw [hlen2]
    simp only [S2] at hx
    by_cases h1 : m = n
    · rw [if_pos h1] at hx
      have := hS.dom n x (sub _ x hx)
      exact ⟨by omega, this.2⟩
    · rw [if_neg h1] at hx
      by_cases h2 : m < st.hp.length
      · rw [if_pos h2] at hx
        have := hS.dom m x hx
        exact ⟨by omega, this.2⟩
      · rw [if_neg h2] at hx
        have h3 := inn _ x hx
        have := hS.dom n x (sub _ x hx)
        exact ⟨by omega, this.2⟩

theorem Rep.cases' {objs : List (ObjT U)} (ho : ObjsOk objs) {s : U} {v : Value} {S : Nat → Prop} (w0 : World) (F : Nat → Prop) (h : Rep objs w s v S) : ∃ (t : Nat) (T : ObjT U) (ps : List (EV U)) (ρL : List Value) (Sf : Nat → Nat → Prop), s = T.obj ps ∧ objs[t]? = some T ∧ ps.length = T.nv ∧ T.ok ps ∧ ρL.length = T.hp.length ∧
    (∀ m h, T.hp[m]? = some h → Holds objs w0 F ps ρL h (hv ρL m) w (Sf m)) ∧ (∀ n m x, Sf n x → Sf m x → n = m) ∧ (∀ m x, Sf m x → S x) ∧ (∀ m x, Sf m x → m < T.hp.length) ∧ v = (if T.isNil then .pointer none else hv ρL 0) := by
  cases h with
  | mk t T ps ρL Sf S v ht hn hok hl hcell hrow habs habs' hro disj sub inn hv' =>
    refine ⟨t, T, ps, ρL, Sf, rfl, ht, hn, hok, hl, fun m h hm => ?_, disj, sub, inn, hv'⟩
    cases h with
    | cells vs ty => exact hcell m vs ty hm
    | row k ty i => exact hrow m k ty i hm
    | abs i => obtain ⟨s, hs⟩ := habs' m i hm; exact ⟨s, hs, habs m i s hm hs⟩
    | ro ks i => exact absurd (hro m _ hm) (by simp [plainH])
    | sys i j => exact absurd (hro m _ hm) (by simp [plainH])
    | gone => trivial

theorem openAll_sound (ho : ObjsOk X.objs) {K : St → Tree} : ∀ (l : List (Nat × List Nat)) (st : St) (env : List (EV U)) (ρ : List Value), Conc X.objs w0 F env ρ st a as w → (openAll X l st K).sat X R env →
    ∃ st' env' ρ', Conc X.objs w0 F env' ρ' st' a as w ∧ (K st').sat X R env' ∧ env <+: env' ∧ ρ <+: ρ'
  | [], st, env, ρ, hc, hs => ⟨st, env, ρ, hc, hs, List.prefix_refl _, List.prefix_refl _⟩
  | (n, ts) :: rest, st, env, ρ, hc, hs => by
    simp only [openAll] at hs
    split at hs
    · rename_i i hn
      obtain ⟨hno, hpick⟩ := opn_pick hs
      obtain ⟨S0, hS⟩ := hc.sat.own
      obtain ⟨s, hes, hrep⟩ := hS.holds n _ hn
      have hnlt := (List.getElem?_eq_some_iff.1 hn).1
      obtain ⟨t, T, ps, ρL, Sf, rfl, ht, hps, hok, hl, hholds, disj, sub, inn, hvv⟩ := hrep.cases' ho w0 F
      by_cases hmem : t ∈ ts
      · have ht2 := hpick t hmem
        rw [ht] at ht2
        dsimp only at ht2
        split at ht2
        · rename_i hnil
          rw [if_pos hnil] at hvv
          simp only [Tree.sat, ht] at ht2
          have ht3 := ht2 ps hps hok hes
          have hc2 := (hc.mapN (alike_swapH (u := .nilp) (by rw [hc.sat.len]; exact hnlt) hvv ⟨fun _ _ => rfl, trivial⟩)).ext ps
          rw [hps] at hc2
          obtain ⟨st', env', ρ', h1, h2, h3, h4⟩ := openAll_sound ho rest _ _ _ hc2 ht3
          exact ⟨st', env', ρ', h1, h2, (List.prefix_append _ _).trans h3, h4⟩
        · rename_i hnil
          have hnil' : T.isNil = false := by simpa using hnil
          rw [if_neg hnil] at hvv
          split at ht2
          · rename_i h hs' hsub
            simp only [Tree.sat, ht] at ht2
            have ht3 := ht2 ps hps hok hes
            have hroot : ∃ b, hv ρL 0 = .pointer (some ⟨b, 0, none⟩) := by
              obtain ⟨vs, ty, h0⟩ := ho.root t T ht hnil'
              obtain ⟨b, cs, e1, _⟩ := hholds 0 _ h0
              exact ⟨b, e1⟩
            obtain ⟨b, hb⟩ := hroot
            have hden : Den env ρ (.ptr n 0) (hv ρL 0) := by
              have := ptr_den (env := env) (ρ := ρ) (n := n) 0 (by rw [hc.sat.len]; exact hnlt)
              rw [hvv, hb, addrOf, add0] at this
              rw [hb]
              exact this
            have hc2 := hc.mapN (alike_swapH (u := .ptr n 0) (by rw [hc.sat.len]; exact hnlt) hvv hden)
            have hS2 : Own X.objs w0 F env ρ (st.mapN (swapH n (.ptr n 0))).hp w S0 := by
              refine ⟨fun m e hm => ?_, hS.disj, fun m x hx => by simpa [St.mapN] using hS.dom m x hx⟩
              simp only [St.mapN, List.getElem?_map, Option.map_eq_some_iff] at hm
              obtain ⟨e0, h0, rfl⟩ := hm
              exact (hS.holds m e0 h0).mapN (alike_swapH (u := .ptr n 0) (by rw [hc.sat.len]; exact hnlt) hvv hden)
            have hlen : (st.mapN (swapH n (.ptr n 0))).hp.length = st.hp.length := by simp [St.mapN]
            have hc3 := open_one ho hc2 hS2 (n := n) (by rw [hlen]; exact hnlt) ht hps hl hholds disj sub inn hnil' hvv (h := h) (hs := hs') (by rw [hlen]; exact hsub)
            obtain ⟨st', env', ρ', h1, h2, h3, h4⟩ := openAll_sound ho rest _ _ _ hc3 ht3
            exact ⟨st', env', ρ', h1, h2, (List.prefix_append _ _).trans h3, (List.prefix_append _ _).trans h4⟩
          · exact ht2.elim
      · exact absurd hes (hno t T ps ht hmem hps hok)
    · exact hs.elim

/-! ### an object is shut -/
theorem foldl_gone : ∀ (σ : List Nat) (hp : List HE), (σ.foldl (fun hp a => hp.set a .gone) hp).length = hp.length ∧ ∀ m, (m ∉ σ → (σ.foldl (fun hp a => hp.set a .gone) hp)[m]? = hp[m]?) ∧ (m ∈ σ → m < hp.length → (σ.foldl (fun hp a => hp.set a .gone) hp)[m]? = some .gone)
  | [], hp => ⟨rfl, fun m => ⟨fun _ => rfl, by simp⟩⟩
  | b :: σ, hp => by
    obtain ⟨h1, h2⟩ := foldl_gone σ (hp.set b .gone)
    refine ⟨by simpa using h1, fun m => ⟨fun hm => ?_, fun hm hlt => ?_⟩⟩
    · simp only [List.mem_cons, not_or] at hm
      rw [List.foldl_cons, (h2 m).1 hm.2, List.getElem?_set_ne (Ne.symm hm.1)]
    · rw [List.foldl_cons]
      by_cases hms : m ∈ σ
      · exact (h2 m).2 hms (by simpa using hlt)
      · rcases List.mem_cons.1 hm with rfl | h
        · rw [(h2 m).1 hms, List.getElem?_set_self hlt]
        · exact absurd h hms

theorem foldTry_sound (ho : ObjsOk X.objs) {n : Nat} : ∀ {ts : List Nat} {t : Nat} {β : List Bnd} {st' : St} {T : ObjT U}, foldTry X n st ts = some (t, β, st') → X.objs[t]? = some T → T.ok (β.map (Bnd.den env)) → Conc X.objs w0 F env ρ st a as w →
    Conc X.objs w0 F (env ++ [.u (T.obj (β.map (Bnd.den env)))]) ρ st' a as w ∧ Alike env ρ (swapP n)
  | [], t, β, st', T, h, _, _, _ => by simp [foldTry] at h
  | t0 :: ts, t, β, st', T, h, ht, hok, hc => by
    have hrest : foldTry X n st ts = some (t, β, st') → _ := fun h => foldTry_sound ho h ht hok hc
    simp only [foldTry] at h
    split at h
    · rename_i T0 ht0
      split at h
      · exact hrest h
      · rename_i hnil
        split at h
        · exact hrest h
        · split at h
          · rename_i β0 σ _ _
            split at h
            · rename_i hcond
              simp only [Bool.and_eq_true, decide_eq_true_eq, beq_iff_eq] at hcond
              obtain ⟨⟨⟨⟨hchk, hnd⟩, hβl⟩, hσl⟩, hhead⟩ := hcond
              simp only [Option.some.injEq, Prod.mk.injEq] at h
              obtain ⟨rfl, rfl, rfl⟩ := h
              rw [ht0] at ht
              injection ht with ht
              subst ht
              have hnil' : T0.isNil = false := by simpa using hnil
              obtain ⟨S, hS⟩ := hc.sat.own
              have inj := nodup_inj hnd
              have hσ0 : σ[0]? = some n := by cases σ with | nil => simp at hhead | cons x l => simpa using hhead
              have hget : ∀ (j : Nat) (e : HE), T0.hp[j]? = some e → ∃ b h, σ[j]? = some b ∧ st.hp[b]? = some h ∧ e.subst β0 σ = some h ∧ Holds X.objs w0 F (β0.map (Bnd.den env)) (σ.map (hv ρ)) e (hv (σ.map (hv ρ)) j) w (fun x => ∃ b, σ[j]? = some b ∧ S b x) := fun j e he => by
                obtain ⟨b, h, e1, e2, e3⟩ := chkHp_spec T0.hp 0 hchk j e he
                rw [Nat.zero_add] at e1
                refine ⟨b, h, e1, e2, e3, ?_⟩
                rw [hv_map ρ e1]
                have hfun : (fun x => ∃ b, σ[j]? = some b ∧ S b x) = S b := by
                  funext x
                  apply propext
                  constructor
                  · rintro ⟨b', hb, hx⟩; rw [e1] at hb; injection hb with hb; subst hb; exact hx
                  · intro hx; exact ⟨b, e1, hx⟩
                rw [hfun]
                exact (hS.holds b h e2).form0 e3
              have hnlt : n < st.hp.length := by
                have h0 : 0 < T0.hp.length := by rw [← hσl]; exact (List.getElem?_eq_some_iff.1 hσ0).1
                obtain ⟨b, h, e1, e2, _⟩ := hget 0 _ (List.getElem?_eq_getElem h0)
                rw [hσ0] at e1; injection e1 with e1; subst e1
                exact (List.getElem?_eq_some_iff.1 e2).1
              have hnρ : n < ρ.length := by rw [hc.sat.len]; exact hnlt
              have hroot : ∃ b, hv ρ n = .pointer (some ⟨b, 0, none⟩) := by
                obtain ⟨vs, ty, h0⟩ := ho.root _ T0 ht0 hnil'
                obtain ⟨_, _, _, _, _, b, cs, e1, _⟩ := hget 0 _ h0
                rw [hv_map ρ hσ0] at e1
                exact ⟨b, e1⟩
              obtain ⟨bb, hroot⟩ := hroot
              have hal := alike_swapP (env := env) hnρ hroot
              refine ⟨?_, hal⟩
              have hrep : Rep X.objs w (T0.obj (β0.map (Bnd.den env))) (hv ρ n) (inForm σ S) := by
                refine .mk _ T0 _ (σ.map (hv ρ)) (fun j x => ∃ b, σ[j]? = some b ∧ S b x) _ _ ht0 (by simp [hβl]) hok (by simp [hσl]) (fun j vs ty h => ?_) (fun j k ty i h => ?_) (fun j i s h hs => ?_) (fun j i h => ?_) (ho.noro _ T0 ht0) (fun i j x ⟨b, hb, hx⟩ ⟨c, hcc, hy⟩ => ?_) (fun j x ⟨b, hb, hx⟩ => ⟨j, b, hb, hx⟩) (fun j x ⟨b, hb, hx⟩ => ?_) ?_
                · obtain ⟨_, _, _, _, _, hh⟩ := hget j _ h; exact hh
                · obtain ⟨_, _, _, _, _, hh⟩ := hget j _ h; exact hh
                · obtain ⟨_, _, _, _, _, s', e1, e2⟩ := hget j _ h
                  rw [hs] at e1; injection e1 with e1; injection e1 with e1; subst e1
                  exact e2
                · obtain ⟨_, _, _, _, _, s', e1, e2⟩ := hget j _ h
                  exact ⟨s', e1⟩
                · have := hS.disj b c x hx hy
                  subst this
                  exact inj i j b hb hcc
                · rw [← hσl]; exact (List.getElem?_eq_some_iff.1 hb).1
                · rw [if_neg hnil, hv_map ρ hσ0]
              have hc1 := hc.ext [EV.u (T0.obj (β0.map (Bnd.den env)))]
              obtain ⟨g1, g2⟩ := foldl_gone σ st.hp
              have hmem : ∀ m, m ∈ σ ↔ ∃ j : Nat, σ[j]? = some m := fun m => ⟨fun h => List.getElem?_of_mem h, fun ⟨j, h⟩ => List.mem_of_getElem? h⟩
              have hc2 : Conc X.objs w0 F (env ++ [EV.u (T0.obj (β0.map (Bnd.den env)))]) ρ { st with hp := (σ.foldl (fun hp a => hp.set a .gone) st.hp).set n (.abs st.ne), ne := st.ne + 1 } a as w := by
                refine ⟨hc1.ne, hc1.pc, hc1.tm, hc1.stk, by simp [g1, hc.sat.len], ⟨fun m x => if m = n then inForm σ S x else m ∉ σ ∧ S m x, ⟨fun m e hm => ?_, fun m k x hx hy => ?_, fun m x hx => ?_⟩⟩, hc.sat.frame⟩
                · by_cases hmn : m = n
                  · subst hmn
                    rw [List.getElem?_set_self (by rw [g1]; exact hnlt)] at hm
                    injection hm with hm
                    subst hm
                    have hfun : (fun x => if m = m then inForm σ S x else m ∉ σ ∧ S m x) = inForm σ S := by funext x; simp
                    rw [hfun]
                    exact ⟨_, by rw [← hc.ne]; exact last_get _, hrep⟩
                  · rw [List.getElem?_set_ne (Ne.symm hmn)] at hm
                    by_cases hms : m ∈ σ
                    · have hlt := (List.getElem?_eq_some_iff.1 hm).1
                      rw [g1] at hlt
                      rw [(g2 m).2 hms hlt] at hm
                      injection hm with hm
                      subst hm
                      trivial
                    · rw [(g2 m).1 hms] at hm
                      have hfun : (fun x => if m = n then inForm σ S x else m ∉ σ ∧ S m x) = S m := by funext x; simp [hmn, hms]
                      rw [hfun]
                      have := (hS.holds m e hm).ext [EV.u (T0.obj (β0.map (Bnd.den env)))] []
                      rwa [List.append_nil] at this
                · by_cases hmn : m = n
                  · rw [if_pos hmn] at hx
                    by_cases hkn : k = n
                    · omega
                    · rw [if_neg hkn] at hy
                      obtain ⟨j, b, hb, hxb⟩ := hx
                      have := hS.disj b k x hxb hy.2
                      subst this
                      exact absurd ((hmem b).2 ⟨j, hb⟩) hy.1
                  · rw [if_neg hmn] at hx
                    by_cases hkn : k = n
                    · rw [if_pos hkn] at hy
                      obtain ⟨j, b, hb, hxb⟩ := hy
                      have := hS.disj b m x hxb hx.2
                      subst this
                      exact absurd ((hmem b).2 ⟨j, hb⟩) hx.1
                    · rw [if_neg hkn] at hy
                      exact hS.disj m k x hx.2 hy.2
                · rw [List.length_set, g1]
                  by_cases hmn : m = n
                  · rw [if_pos hmn] at hx
                    obtain ⟨j, b, hb, hxb⟩ := hx
                    exact ⟨by omega, (hS.dom b x hxb).2⟩
                  · rw [if_neg hmn] at hx
                    exact hS.dom m x hx.2
              exact hc2.mapN (alike_swapP hnρ hroot)
            · exact hrest h
          · exact hrest h
    · cases h
end
end Go.Proofs.Ytjohihkbampbgaa
