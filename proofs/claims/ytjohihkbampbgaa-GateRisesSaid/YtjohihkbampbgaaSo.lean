/- The symbolic executor: code, loops, functions. No program is named here. -/
import Derived.Test.YtjohihkbampbgaaSn
namespace Go.Proofs.Ytjohihkbampbgaa
set_option linter.unusedVariables false
set_option linter.unusedSimpArgs false
set_option linter.unusedSectionVars false
open Go

section
variable {U : Type} [Nil U] {X : Cx U} {R : List (EV U) → List (EV U) → Prop} {w0 : World} {F : Nat → Prop} {env : List (EV U)} {ρ : List Value} {w : World}
  {inl : FuncId → List SV → St → (SV → St → Tree) → Tree} {st : St} {a : Act} {as : List Act} {base pre : List (EV U) × List Value}

def lift (Q : SExit → Act → World → Prop) : Exit → Act → World → Prop
  | .normal, a, w => Q .normal a w
  | .exit i, a, w => Q (.exit i) a w
  | .ret, a, w => Q .ret a w
  | _, _, _ => False
def Outs (X : Cx U) (R : List (EV U) → List (EV U) → Prop) (w0 : World) (F : Nat → Prop) (pre : List (EV U) × List Value) (as : List Act) (K : SExit → St → Tree) (Q : SExit → Act → World → Prop) : Prop :=
  ∀ ex st' env' ρ' a' w', Pfx pre env' ρ' → Conc X.objs w0 F env' ρ' st' a' as w' → (K ex st').sat X R env' → Q ex a' w'

theorem keptOf_stays {out : List Nat} {hp : List HE} {n : Nat} (h : n ∈ keptOf out hp) : ∃ e, hp[n]? = some e ∧ stays e = true := by
  unfold keptOf at h
  obtain ⟨_, h⟩ := List.mem_filter.1 h
  obtain ⟨_, h⟩ := Bool.and_eq_true _ _ ▸ h
  split at h
  · rename_i e he; exact ⟨e, he, h⟩
  · cases h

theorem draw_sound (ho : ObjsOk X.objs) (hinl : InlOk X R w0 F base inl) (hbase : Pfx base pre.1 pre.2) {ro : Option Nat} (hmix : X.P.follows .mixedOrders = true) {ops : Array Oper} (hnos : Region.noSelect ops = true) (hnod : noDefer ops = true) {N : Act → World → Prop} {Q : Exit → Act → World → Prop}
    (hQ : ∀ a w, N a w → Q .normal a w) (hQp : ∀ c a w, ¬ Q (.panic c) a w) (hQo : ¬ LetsOut Q) {K : St → Tree} (hK : Goes X R w0 F pre as K N) (hp : Pfx pre env ρ) (hc : Conc X.objs w0 F env ρ st a as w) (id tag n m : Nat) (pend : List Nat) (out : List Nat)
    (hs : (runDraw X inl ops tag (keptOf out st.hp) st.hp n ops.size pend (Array.replicate ops.size false) st K).sat X R env) : (Code.region id ops true).wpIn (fR ro) 0 X.P Q a w := by
  have hc2 := hc.drewn (w.drawn + 1)
  have hk : ∀ n ∈ keptOf out st.hp, ∃ e, st.hp[n]? = some e ∧ stays e = true := fun n hn => keptOf_stays hn
  have hd : ∀ (i : Nat) (o : Oper), ops[i]? = some o → ∀ c, o.op ≠ .defer c := by
    intro i o hi c e
    unfold noDefer at hnod
    rw [Array.all_eq_true] at hnod
    obtain ⟨hlt, rfl⟩ := Array.getElem?_eq_some_iff.1 hi
    have := hnod i hlt
    rw [e] at this
    cases this
  exact wpIn_region_held hmix hd hQo (runDraw_sound ho hinl hbase hnos hQ hQp hK hc2 rfl hp hk _ _ _ _ _ _ _ _ _ ⟨List.prefix_refl _, List.prefix_refl _⟩ hc2 (fun n hn => by obtain ⟨e, e1, e2⟩ := hk n hn; exact ⟨e, e1, e1, e2⟩) hs)

theorem form_Den {β : List Bnd} {σ : List Nat} {v v' : SV} {c : Value} (h : v.subst β σ = some v') (hd : Den env ρ v' c) : Den (β.map (Bnd.den env)) (σ.map (hv ρ)) v c := by
  have h1 := SV.subst_closed (env := β.map (Bnd.den env)) (ρ := σ.map (hv ρ)) (by simp) (by simp) h
  exact ⟨fun xs ys => by rw [h1.1 xs ys, ← SV.subst_den env ρ h]; exact hd.now, h1.2⟩
theorem chkTr_spec {β : List Bnd} {σ : List Nat} : ∀ (t a : Tr), chkTr β σ t a = true → ∀ (i : Nat), t.get i = .junk ∨ ∃ t', (t.get i).subst β σ = some t' ∧ t' = a.get i ∧ t'.sure = true
  | .leaf, _, _, i => .inl rfl
  | .node _ _ _, .leaf, h, i => by simp [chkTr] at h
  | .node t l r, .node a l' r', h, i => by
    simp only [chkTr, Bool.and_eq_true] at h
    obtain ⟨⟨h0, h1⟩, h2⟩ := h
    simp only [Tr.get]
    cases Nat.beq i 0
    · dsimp only
      cases Nat.beq (i % 2) 1
      · exact chkTr_spec r r' h2 _
      · exact chkTr_spec l l' h1 _
    · dsimp only
      by_cases hj : t = .junk
      · exact .inl hj
      · have h0 : (match t.subst β σ with | some t' => t'.beq a && t'.sure | none => false) = true := by
          cases t <;> first | exact h0 | exact absurd rfl hj
        split at h0
        · rename_i t' ht'
          simp only [Bool.and_eq_true] at h0
          exact .inr ⟨t', ht', SV.beq_eq h0.1, h0.2⟩
        · cases h0
theorem chkMk_spec {σ : List Nat} (ρ : List Value) : ∀ {ns ms : List Nat}, chkMk σ ns ms = true → ns.map (markOf (σ.map (hv ρ))) = ms.map (markOf ρ) ∧ ∀ n ∈ ns, n < σ.length
  | [], [], _ => ⟨rfl, by simp⟩
  | [], _ :: _, h => by simp [chkMk] at h
  | _ :: _, [], h => by simp [chkMk] at h
  | n :: ns, m :: ms, h => by
    simp only [chkMk, Bool.and_eq_true, beq_iff_eq] at h
    obtain ⟨h1, h2⟩ := chkMk_spec ρ h.2
    refine ⟨?_, fun k hk => ?_⟩
    · simp only [List.map_cons, h1]
      congr 1
      unfold markOf
      rw [hv_map ρ h.1]
    · rcases List.mem_cons.1 hk with rfl | hk
      · exact (List.getElem?_eq_some_iff.1 h.1).1
      · exact h2 k hk
theorem chkTm_ok {β : List Bnd} {σ : List Nat} {ts tm : Tm} {a : Act} (h : chkTm β σ ts tm = true) (ht : TmOk env ρ tm a) : TmOk (β.map (Bnd.den env)) (σ.map (hv ρ)) ts a := by
  simp only [chkTm, Bool.and_eq_true, beq_iff_eq] at h
  obtain ⟨⟨h1, h2⟩, h3⟩ := h
  obtain ⟨h4, h5⟩ := chkMk_spec ρ h3
  refine ⟨⟨by rw [h1]; exact ht.1.1, fun i => ?_⟩, by rw [h4]; exact ht.2.1, by simpa using h5⟩
  rcases chkTr_spec _ _ h2 i with h | ⟨t', e1, e2, e3⟩
  · exact .inl h
  · have := ht.1.2 i
    simp only [Tm.getD] at this ⊢
    rw [← e2] at this
    exact .inr (form_Den e1 (this.den (sure_ne e3)))
theorem chkStk_ok {β : List Bnd} {σ : List Nat} : ∀ {ts l : List Tm} {as : List Act}, chkStk β σ ts l = true → Stk env ρ l as → Stk (β.map (Bnd.den env)) (σ.map (hv ρ)) ts as
  | [], [], _, _, h => by cases h; exact .nil
  | [], _ :: _, _, h, _ => by simp [chkStk] at h
  | _ :: _, [], _, h, _ => by simp [chkStk] at h
  | t :: ts, tm :: l, as, h, hs => by
    simp only [chkStk, Bool.and_eq_true] at h
    cases hs with
    | cons h1 h2 => exact .cons (chkTm_ok h.1 h1) (chkStk_ok h.2 h2)
theorem isVars_spec : ∀ {i n : Nat} {β : List Bnd}, isVars i n β = true → ∀ j, j < n → β[j]? = some (.var (i + j))
  | i, 0, β, _, j, hj => by omega
  | i, n + 1, [], h, _, _ => by simp [isVars] at h
  | i, n + 1, b :: β, h, j, hj => by
    cases b with
    | var k =>
      simp only [isVars, Bool.and_eq_true, beq_iff_eq] at h
      cases j with
      | zero => simp [h.1]
      | succ j => rw [List.getElem?_cons_succ, isVars_spec h.2 j (by omega)]; congr 2; omega
    | ex e => simp [isVars] at h
    | bx e => simp [isVars] at h
theorem Holds.form0 {β : List Bnd} {σ : List Nat} {t h : HE} {v : Value} {S : Nat → Prop} (hs : t.subst β σ = some h)
    (hh : Holds X.objs w0 F env ρ h v w S) : Holds X.objs w0 F (β.map (Bnd.den env)) (σ.map (hv ρ)) t v w S := by
  cases t with
  | cells vs ty =>
    simp only [HE.subst, Option.map_eq_some_iff] at hs
    obtain ⟨l, hl, rfl⟩ := hs
    obtain ⟨b, cs, e1, e2, e3, e4⟩ := hh
    exact ⟨b, cs, e1, form_DenL hl e2, e3, e4⟩
  | abs i =>
    simp only [HE.subst] at hs
    split at hs <;> simp at hs
    subst hs
    rename_i j hb
    obtain ⟨s, e1, e2⟩ := hh
    exact ⟨s, by rw [bnd_get env hb, bnd_var e1], e2⟩
  | row k ty i =>
    simp only [HE.subst] at hs
    split at hs <;> simp at hs
    subst hs
    rename_i j hb
    rcases hh with ⟨e1, e2⟩ | ⟨b, xs, e1, e2, e3, e4⟩
    · exact .inl ⟨e1, by rw [bnd_get env hb, bnd_var e2]⟩
    · exact .inr ⟨b, xs, e1, by rw [bnd_get env hb, bnd_var e2], e3, e4⟩
  | ro ks i =>
    simp only [HE.subst] at hs
    split at hs <;> simp at hs
    subst hs
    rename_i j hb
    rcases hh with ⟨e1, g, e2⟩ | ⟨a, g, n, e1, e2, e3⟩
    · exact .inl ⟨e1, g, by rw [bnd_get env hb, bnd_var e2]⟩
    · exact .inr ⟨a, g, n, e1, by rw [bnd_get env hb, bnd_var e2], e3⟩
  | sys i j =>
    simp only [HE.subst] at hs
    split at hs <;> simp at hs
    subst hs
    rename_i j hb
    obtain ⟨b, L, e1, e2, e3, e4⟩ := hh
    exact ⟨b, L, e1, by rw [bnd_get env hb, bnd_var e2], e3, e4⟩
  | gone => trivial
theorem fit_sound {reb : List Nat} {h0 ne0 nh0 : Nat} {hd : St} {β : List Bnd} (h : fit reb h0 ne0 nh0 hd st = some β) (hne : ne0 ≤ st.ne) (hne2 : ne0 ≤ hd.ne) (hc : Conc X.objs w0 F env ρ st a as w) :
    ∃ ρ', Conc X.objs w0 F (env.take ne0 ++ β.map (Bnd.den env)) ρ' hd a as w ∧ (∀ n, n < h0 → n < ρ'.length ∧ hv ρ' n = hv ρ n) ∧ β.length = hd.ne - ne0 := by
  unfold fit at h
  dsimp only at h
  split at h
  · cases h
  · split at h
    · cases h
    · split at h
      · rename_i β' σ _ _
        split at h
        · rename_i hcond
          injection h with h
          subst h
          simp only [Bool.and_eq_true, decide_eq_true_eq, beq_iff_eq] at hcond
          obtain ⟨⟨⟨⟨⟨⟨⟨⟨hpc, htm⟩, hstk⟩, hhp⟩, hnd⟩, hβl⟩, hσl⟩, hvars⟩, hσ0⟩ := hcond
          have henv : β'.map (Bnd.den env) = env.take ne0 ++ (β'.drop ne0).map (Bnd.den env) := by
            rw [← List.take_append_drop ne0 β', List.map_append]
            congr 1
            · apply List.ext_getElem?
              intro i
              by_cases hi : i < ne0
              · have hv := isVars_spec hvars i hi
                rw [Nat.zero_add] at hv
                have hl : i < env.length := by have := hc.ne; omega
                simp only [List.getElem?_map, List.getElem?_take, hi, if_true, hv, Option.map_some, Bnd.den, List.getD, List.getElem?_eq_getElem hl, Option.getD_some]
              · rw [List.getElem?_eq_none (by simp; omega), List.getElem?_eq_none (by simp; omega)]
            · simp
          obtain ⟨S, hS⟩ := hc.sat.own
          have inj := nodup_inj hnd
          refine ⟨σ.map (hv ρ), ?_, fun n hn => ?_, by simp [hβl]⟩
          · rw [← henv]
            refine ⟨by simp [hβl], (by rw [List.isEmpty_iff.1 hpc]; intro _ h; cases h), chkTm_ok htm hc.tm, chkStk_ok hstk hc.stk, by simp [hσl], ⟨fun j x => ∃ a, σ[j]? = some a ∧ S a x, ⟨fun j t ht => ?_, fun i j x ⟨a, ha, hx⟩ ⟨b, hb, hy⟩ => ?_, fun j x ⟨a, ha, hx⟩ => ?_⟩⟩, hc.sat.frame⟩
            · obtain ⟨a, h, e1, e2, e3⟩ := chkHp_spec hd.hp 0 hhp j t ht
              rw [Nat.zero_add] at e1
              rw [hv_map ρ e1]
              have hfun : (fun x => ∃ a, σ[j]? = some a ∧ S a x) = S a := by
                funext x
                apply propext
                constructor
                · rintro ⟨b, hb, hx⟩; rw [e1] at hb; injection hb with hb; subst hb; exact hx
                · intro hx; exact ⟨a, e1, hx⟩
              rw [hfun]
              exact (hS.holds a h e2).form0 e3
            · have := hS.disj a b x hx hy
              subst this
              exact inj i j a ha hb
            · have := hS.dom a x hx
              exact ⟨by rw [← hσl]; exact (List.getElem?_eq_some_iff.1 ha).1, this.2⟩
          · have e1 : (σ.take h0)[n]? = some n := by rw [hσ0, List.getElem?_range hn]
            rw [List.getElem?_take, if_pos hn] at e1
            exact ⟨by simpa using (List.getElem?_eq_some_iff.1 e1).1, hv_map ρ e1⟩
        · cases h
      · cases h

theorem Rep.nil {objs : List (ObjT U)} (ho : ObjsOk objs) {t : Nat} {T : ObjT U} (ht : objs[t]? = some T) (hn : T.isNil = true) (hv0 : T.nv = 0) (hok : T.ok []) (w : World) (S : Nat → Prop) : Rep objs w (T.obj []) (.pointer none) S := by
  have hh := ho.nilhp t T ht hn
  refine .mk t T [] [] (fun _ _ => False) S _ ht (by simp [hv0]) hok (by simp [hh]) (fun n vs ty h => by simp [hh] at h) (fun n k ty i h => by simp [hh] at h) (fun n i s h => by simp [hh] at h) (fun n i h => by simp [hh] at h) (fun n h h' => by simp [hh] at h') (fun _ _ _ h => h.elim) (fun _ _ h => h.elim) (fun _ _ h => h.elim) (by rw [if_pos hn])
theorem allInts_spec {k : IntKind} : ∀ {vs : List SV} {xs : List Ex}, allInts k vs = some xs → vs = xs.map (SV.int k)
  | [], xs, h => by simp [allInts] at h; subst h; rfl
  | v :: vs, xs, h => by
    cases v <;> simp only [allInts, reduceCtorEq] at h
    split at h
    · rename_i hk
      subst hk
      simp only [Option.map_eq_some_iff] at h
      obtain ⟨ys, hy, rfl⟩ := h
      rw [allInts_spec hy]; rfl
    · cases h
theorem toRows_sound {K : St → Tree} : ∀ (l : List Nat) (st : St) (env : List (EV U)), Conc X.objs w0 F env ρ st a as w → (toRows X.P l st K).sat X R env →
    ∃ st' o, Conc X.objs w0 F (env ++ o) ρ st' a as w ∧ (K st').sat X R (env ++ o)
  | [], st, env, hc, hs => ⟨st, [], by simpa using hc, by simpa [toRows] using hs⟩
  | n :: l, st, env, hc, hs => by
    simp only [toRows] at hs
    split at hs
    · rename_i vs ty hn
      split at hs
      · rename_i k _
        split at hs
        · rename_i xs hx
          simp only [Tree.sat] at hs
          have hc1 := hc.ext [.l (xs.map (Ex.den env))]
          have hc2 : Conc X.objs w0 F (env ++ [.l (xs.map (Ex.den env))]) ρ { st with hp := st.hp.set n (.row k ty st.ne), ne := st.ne + 1 } a as w := by
            obtain ⟨S, hS⟩ := hc1.sat.own
            have hnlt := (List.getElem?_eq_some_iff.1 hn).1
            obtain ⟨S0, hS0⟩ := hc.sat.own
            obtain ⟨b, cs, e1, e2, e3, e4⟩ := hS.holds n _ hn
            obtain ⟨b', cs', f1, f2, f3, f4⟩ := hS0.holds n _ hn
            have hbb : b = b' := by have h := e1.symm.trans f1; injection h with h; injection h with h; injection h
            subst hbb
            have hcs : cs' = (xs.map (Ex.den env)).map (Value.int k) := by
              have h := f2.1 [] []
              rw [← h, allInts_spec hx]
              simp [SV.den, Function.comp_def]
            have hcc : cs'.toArray = cs.toArray := by
              have h := f3.symm.trans e3
              injection h with h; injection h with h
            refine ⟨hc1.ne, hc1.pc, hc1.tm, hc1.stk, by simp [hc.sat.len], ⟨S, ?_⟩, hc1.sat.frame⟩
            refine hS.update n _ hnlt (fun _ _ => rfl) rfl (.inr ⟨b, xs.map (Ex.den env), e1, by rw [← hc.ne]; exact last_get _, ?_, e4⟩)
            rw [e3, ← hcc, hcs]
          obtain ⟨st', o, h1, h2⟩ := toRows_sound l _ _ hc2 hs
          exact ⟨st', .l (xs.map (Ex.den env)) :: o, by simpa using h1, by simpa using h2⟩
        · exact toRows_sound l _ _ hc hs
      · exact toRows_sound l _ _ hc hs
    · exact toRows_sound l _ _ hc hs
/-- a name for a nil pointer -/
theorem Conc.nilName (ho : ObjsOk X.objs) (hc : Conc X.objs w0 F env ρ st a as w) {t : Nat} {T : ObjT U} (ht : X.objs[t]? = some T) (hn : T.isNil = true) (hv0 : T.nv = 0) (hok : T.ok []) :
    Conc X.objs w0 F (env ++ [.u (T.obj [])]) (ρ ++ [.pointer none]) { st with hp := st.hp ++ [HE.abs st.ne], ne := st.ne + 1 } a as w := by
  obtain ⟨S, hS⟩ := hc.sat.own
  refine ⟨by simp [hc.ne], hc.pc.ext _, hc.tm.ext _ _, hc.stk.ext _ _, by simp [hc.sat.len], ⟨S, ⟨fun n e hn' => ?_, hS.disj, fun n x hx => by obtain ⟨h1, h2⟩ := hS.dom n x hx; exact ⟨by simp; omega, h2⟩⟩⟩, hc.sat.frame⟩
  by_cases hlt : n < st.hp.length
  · rw [List.getElem?_append_left hlt] at hn'
    rw [hv_app (by rw [hc.sat.len]; exact hlt)]
    exact (hS.holds n e hn').ext _ _
  · have : n = st.hp.length := by have := (List.getElem?_eq_some_iff.1 hn').1; simp at this; omega
    subst this
    simp at hn'
    subst hn'
    rw [← hc.sat.len, hv_len]
    exact ⟨T.obj [], by rw [← hc.ne]; exact last_get _, Rep.nil ho ht hn hv0 hok w _⟩
theorem nilFix_sound (ho : ObjsOk X.objs) {K : St → Tree} : ∀ (l : List (Nat × Nat × Nat)) (st : St) (env : List (EV U)) (ρ : List Value), Conc X.objs w0 F env ρ st a as w → (nilFix X l st K).sat X R env →
    ∃ st' env' ρ', Conc X.objs w0 F env' ρ' st' a as w ∧ (K st').sat X R env' ∧ env <+: env' ∧ ρ <+: ρ'
  | [], st, env, ρ, hc, hs => ⟨st, env, ρ, hc, hs, List.prefix_refl _, List.prefix_refl _⟩
  | (n, j, t) :: l, st, env, ρ, hc, hs => by
    simp only [nilFix] at hs
    split at hs
    · rename_i T vs ty ht hn
      split at hs
      · rename_i hnil hnv hvj
        simp only [Tree.sat, ht, List.map_nil] at hs
        obtain ⟨hok, hs⟩ := hs
        have hc1 := hc.nilName ho ht hnil hnv hok
        have hnlt := (List.getElem?_eq_some_iff.1 hn).1
        have hc2 : Conc X.objs w0 F (env ++ [.u (T.obj [])]) (ρ ++ [.pointer none]) { st with hp := st.hp.set n (.cells (vs.set j (.hnd st.hp.length)) ty) ++ [HE.abs st.ne], ne := st.ne + 1 } a as w := by
          obtain ⟨S, hS⟩ := hc1.sat.own
          have hset : st.hp.set n (.cells (vs.set j (.hnd st.hp.length)) ty) ++ [HE.abs st.ne] = (st.hp ++ [HE.abs st.ne]).set n (.cells (vs.set j (.hnd st.hp.length)) ty) := by
            rw [List.set_append_left _ _ hnlt]
          obtain ⟨b, cs, e1, e2, e3, e4⟩ := hS.holds n _ (by rw [List.getElem?_append_left hnlt]; exact hn)
          have hd : DenL (env ++ [.u (T.obj [])]) (ρ ++ [.pointer none]) (vs.set j (.hnd st.hp.length)) cs := by
            have hjlt := (List.getElem?_eq_some_iff.1 hvj).1
            refine ⟨fun xs ys => ?_, stabL_mem.2 fun v hv => ?_⟩
            · rw [List.map_set]
              have h1 := e2.1 xs ys
              rw [← h1]
              apply List.ext_getElem?
              intro i
              by_cases hi : j = i
              · subst hi
                rw [List.getElem?_set_self (by simpa using hjlt)]
                simp only [List.getElem?_map, hvj, Option.map_some, SV.den]
                rw [hv_app (by simp [hc.sat.len]), ← hc.sat.len, hv_len]
              · rw [List.getElem?_set_ne hi]
            · rcases List.mem_or_eq_of_mem_set hv with h | h
              · exact stabL_mem.1 e2.2 v h
              · subst h; trivial
          refine ⟨hc1.ne, hc1.pc, hc1.tm, hc1.stk, by simp [hc.sat.len], ⟨S, ?_⟩, hc1.sat.frame⟩
          show Own X.objs w0 F _ _ (st.hp.set n (.cells (vs.set j (.hnd st.hp.length)) ty) ++ [HE.abs st.ne]) w S
          rw [hset]
          exact hS.update n _ (by simp; omega) (fun _ _ => rfl) rfl ⟨b, cs, e1, hd, e3, e4⟩
        obtain ⟨st', env', ρ', h1, h2, h3, h4⟩ := nilFix_sound ho l _ _ _ hc2 hs
        exact ⟨st', env', ρ', h1, h2, (List.prefix_append _ _).trans h3, (List.prefix_append _ _).trans h4⟩
      · exact hs.elim
    · exact hs.elim
end
end Go.Proofs.Ytjohihkbampbgaa
