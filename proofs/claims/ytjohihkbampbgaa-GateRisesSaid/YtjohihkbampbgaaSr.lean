/- The symbolic executor: a contract holds if its run says so. No program is named here. -/
import Derived.Test.YtjohihkbampbgaaSq
namespace Go.Proofs.Ytjohihkbampbgaa
set_option linter.unusedVariables false
set_option linter.unusedSimpArgs false
set_option linter.unusedSectionVars false
open Go

section
variable {U : Type} [Nil U] {X : Cx U} {R : List (EV U) → List (EV U) → Prop} {w0 : World} {F : Nat → Prop} {env : List (EV U)} {ρ : List Value} {w : World} {st : St} {a : Act} {as : List Act}

theorem nilRet_sound (ho : ObjsOk X.objs) {folds : List (Nat × List Nat)} {ret v : SV} {K : SV → St → Tree} {r : Value} (hc : Conc X.objs w0 F env ρ st a as w) (hr : Rel env ρ v r) (hs : (nilRet X folds ret v st K).sat X R env) :
    ∃ v' st' env' ρ', Conc X.objs w0 F env' ρ' st' a as w ∧ Rel env' ρ' v' r ∧ (K v' st').sat X R env' ∧ env <+: env' ∧ ρ <+: ρ' := by
  have hnm : ∀ (xs : List (EV U)) (ys : List Value), hv (ρ ++ [Value.pointer none] ++ ys) st.hp.length = .pointer none := fun xs ys => by
    rw [hv_app (by simp [hc.sat.len]), ← hc.sat.len, hv_len]
  unfold nilRet at hs
  split at hs
  · rename_i j
    split at hs
    · rename_i t hfind
      have h2 : ∃ T, X.objs[t]? = some T ∧ T.isNil = true ∧ T.nv = 0 := by
        cases ha : assoc j folds with
        | none => simp [ha] at hfind
        | some ts =>
          simp only [ha, Option.bind_some] at hfind
          have := List.find?_some hfind
          split at this
          · rename_i T hT; simp only [Bool.and_eq_true, beq_iff_eq] at this; exact ⟨T, hT, this.1, this.2⟩
          · cases this
      obtain ⟨T, hT, hn1, hn2⟩ := h2
      simp only [Tree.sat, hT, List.map_nil] at hs
      obtain ⟨hok, hs⟩ := hs
      refine ⟨.hnd st.hp.length, _, _, _, hc.nilName ho hT hn1 hn2 hok, .inr ⟨fun xs ys => ?_, trivial⟩, hs, List.prefix_append _ _, List.prefix_append _ _⟩
      have := (hr.den (by simp)).now
      simp only [SV.den] at this ⊢
      rw [hnm xs ys, this]
    · exact hs.elim
  · rename_i j b0 b
    split at hs
    · rename_i t hfind
      have h2 : ∃ T, X.objs[t]? = some T ∧ T.isNil = true ∧ T.nv = 0 := by
        cases ha : assoc j folds with
        | none => simp [ha] at hfind
        | some ts =>
          simp only [ha, Option.bind_some] at hfind
          have := List.find?_some hfind
          split at this
          · rename_i T hT; simp only [Bool.and_eq_true, beq_iff_eq] at this; exact ⟨T, hT, this.1, this.2⟩
          · cases this
      obtain ⟨T, hT, hn1, hn2⟩ := h2
      simp only [Tree.sat, hT, List.map_nil] at hs
      obtain ⟨hok, hs⟩ := hs
      obtain ⟨cs, hcs, hd⟩ := den_tuple (hr.den (by simp))
      obtain ⟨c1, ds, rfl, e1, e2⟩ := hd.uncons
      refine ⟨.tuple [.hnd st.hp.length, b], _, _, _, hc.nilName ho hT hn1 hn2 hok, .inr ?_, hs, List.prefix_append _ _, List.prefix_append _ _⟩
      rw [hcs]
      refine tuple_den (DenL.cons ⟨fun xs ys => ?_, trivial⟩ (e2.ext _ _))
      have := e1.now
      simp only [SV.den] at this ⊢
      rw [hnm xs ys, this]
    · exact hs.elim
  · exact ⟨v, st, env, ρ, hc, hr, hs, List.prefix_refl _, List.prefix_refl _⟩

theorem foldAll_sound (ho : ObjsOk X.objs) {σ : List (Option Nat)} {K : SV → St → Tree} {r : Value} : ∀ (l : List (Nat × List Nat)) (v : SV) (st : St) (env : List (EV U)), Conc X.objs w0 F env ρ st a as w → Rel env ρ v r → (foldAll X σ l v st K).sat X R env →
    ∃ v' st' env', Conc X.objs w0 F env' ρ st' a as w ∧ Rel env' ρ v' r ∧ (K v' st').sat X R env' ∧ env <+: env'
  | [], v, st, env, hc, hr, hs => ⟨v, st, env, hc, hr, hs, List.prefix_refl _⟩
  | (j, ts) :: rest, v, st, env, hc, hr, hs => by
    simp only [foldAll] at hs
    split at hs
    · rename_i n hσ
      split at hs
      · exact foldAll_sound ho rest v st env hc hr hs
      · split at hs
        · rename_i t β st' hf
          simp only [Tree.sat] at hs
          split at hs
          · rename_i T hT
            obtain ⟨hok, hs⟩ := hs
            obtain ⟨h1, h2⟩ := foldTry_sound ho hf hT hok hc
            have hr2 : Rel (env ++ [.u (T.obj (β.map (Bnd.den env)))]) ρ (v.mapN (swapP n)) r := by
              have := (hr.mapN h2).ext [.u (T.obj (β.map (Bnd.den env)))] []
              rwa [List.append_nil] at this
            obtain ⟨v', st2, env', g1, g2, g3, g4⟩ := foldAll_sound ho rest _ _ _ h1 hr2 hs
            exact ⟨v', st2, env', g1, g2, g3, (List.prefix_append _ _).trans g4⟩
          · exact hs.elim
        · exact hs.elim
    · exact hs.elim

/-- the contract's own relation of numbers -/
def ctrR (c : Ctr U) (env outs : List (EV U)) : Prop := outs = c.out (env.take c.nin)

theorem finish_sound (ho : ObjsOk X.objs) {c : Ctr U} {folds : List (Nat × List Nat)} {v : SV} {r : Value} {ins : List (EV U)} {ρ0 : List Value} (hil : ins.length = c.nin) (hρl : ρ0.length = c.heap.length)
    (hp : Pfx (ins, ρ0) env ρ) (hc : Conc X.objs w0 F env ρ st a as w) (hr : Rel env ρ v r) (hs : (finish X c folds v st).sat X (ctrR c) env) :
    ∃ ρ', Den (ins ++ c.out ins) (ρ0 ++ ρ') c.ret r ∧ Sat X.objs w0 F (ins ++ c.out ins) (ρ0 ++ ρ') c.post w := by
  unfold finish at hs
  obtain ⟨v1, st1, env1, ρ1, hc1, hr1, hs1, he1, hρ1⟩ := nilRet_sound ho hc hr hs
  dsimp only at hs1
  split at hs1
  · exact hs1.elim
  · obtain ⟨v2, st2, env2, hc2, hr2, hs2, he2⟩ := foldAll_sound ho _ _ _ _ hc1 hr1 hs1
    split at hs2
    · exact hs2.elim
    · split at hs2
      · exact hs2.elim
      · split at hs2
        · rename_i β σ _ _
          split at hs2
          · rename_i hcond
            simp only [Bool.and_eq_true, decide_eq_true_eq, beq_iff_eq] at hcond
            obtain ⟨⟨⟨⟨⟨⟨hret, hchk⟩, hnd⟩, hβl⟩, hσl⟩, hvars⟩, hσ0⟩ := hcond
            simp only [Tree.sat, ctrR] at hs2
            have hpe : ins <+: env2 := (hp.1.trans he1).trans he2
            have hpr : ρ0 <+: ρ1 := hp.2.trans hρ1
            have htake : env2.take c.nin = ins := by obtain ⟨o, rfl⟩ := hpe; rw [← hil, List.take_left]
            rw [htake] at hs2
            have henv : β.map (Bnd.den env2) = ins ++ c.out ins := by
              rw [← hs2, ← htake, ← List.take_append_drop c.nin β, List.map_append]
              congr 1
              · apply List.ext_getElem?
                intro i
                by_cases hi : i < c.nin
                · have hv := isVars_spec hvars i hi
                  rw [Nat.zero_add] at hv
                  have hl : i < env2.length := by have := hpe.length_le; omega
                  simp only [List.getElem?_map, List.getElem?_take, hi, if_true, hv, Option.map_some, Bnd.den, List.getD, List.getElem?_eq_getElem hl, Option.getD_some]
                · rw [List.getElem?_eq_none (by simp; omega), List.getElem?_eq_none (by simp; omega)]
              · simp
            have hnames : σ.map (hv ρ1) = ρ0 ++ (σ.map (hv ρ1)).drop c.heap.length := by
              conv => lhs; rw [← List.take_append_drop c.heap.length (σ.map (hv ρ1))]
              congr 1
              apply List.ext_getElem?
              intro i
              rw [← List.map_take, hσ0]
              by_cases hi : i < c.heap.length
              · rw [List.getElem?_map, List.getElem?_range hi]
                have : i < ρ0.length := by omega
                obtain ⟨o, rfl⟩ := hpr
                simp [hv, List.getElem?_append_left this, List.getElem?_eq_getElem this]
              · rw [List.getElem?_eq_none (by simp; omega), List.getElem?_eq_none (by omega)]
            obtain ⟨S, hS⟩ := hc2.sat.own
            have inj := nodup_inj hnd
            refine ⟨(σ.map (hv ρ1)).drop c.heap.length, ?_, ?_⟩
            · rw [← hnames, ← henv]
              unfold chkL at hret
              split at hret
              · rename_i l hl
                simp only [Bool.and_eq_true] at hret
                have := SV.beqL_eq hret.1
                subst this
                simp only [SV.sureL, Bool.and_true] at hret
                have h1 := form_DenL (cs := [r]) hl (DenL.one (hr2.den (sure_ne hret.2)))
                obtain ⟨c', ds, e1, e2, _⟩ := h1.uncons
                injection e1 with e1
                subst e1
                exact e2
              · cases hret
            · rw [← hnames, ← henv]
              refine ⟨by simp [hσl], ⟨fun j x => ∃ b, σ[j]? = some b ∧ S b x, ⟨fun j t ht => ?_, fun i j x ⟨b, hb, hx⟩ ⟨d, hd, hy⟩ => ?_, fun j x ⟨b, hb, hx⟩ => ?_⟩⟩, hc2.sat.frame⟩
              · obtain ⟨b, h, e1, e2, e3⟩ := chkHp_spec c.post 0 hchk j t ht
                rw [Nat.zero_add] at e1
                rw [hv_map ρ1 e1]
                have hfun : (fun x => ∃ b, σ[j]? = some b ∧ S b x) = S b := by
                  funext x
                  apply propext
                  constructor
                  · rintro ⟨b', hb, hx⟩; rw [e1] at hb; injection hb with hb; subst hb; exact hx
                  · intro hx; exact ⟨b, e1, hx⟩
                rw [hfun]
                exact (hS.holds b h e2).form0 e3
              · have := hS.disj b d x hx hy
                subst this
                exact inj i j b hb hd
              · have := hS.dom b x hx
                exact ⟨by rw [← hσl]; exact (List.getElem?_eq_some_iff.1 hb).1, this.2⟩
          · exact hs2.elim
        · exact hs2.elim

/-- **a contract holds, if its run says so** -/
theorem runCtr_holds (ho : ObjsOk X.objs) (hmix : X.P.follows .mixedOrders = true) (hcts : ∀ (ci : Nat) (c : Ctr U), X.cts[ci]? = some c → c.Holds X.objs X.P) {fuel : Nat} {c : Ctr U} {opens folds : List (Nat × List Nat)}
    (hcall : Callable X.P c.fn) (hout : ∀ ins, ins.length = c.nin → c.pre ins → (c.out ins).length = c.nout)
    (hs : ∀ ins, ins.length = c.nin → c.pre ins → (runCtr X fuel c opens folds).sat X (ctrR c) ins) : c.Holds X.objs X.P := by
  refine ⟨hcall, hout, fun ins ρ w vals F hil hpre hd hsat => ?_⟩
  have hs := hs ins hil hpre
  unfold runCtr at hs
  have harg := ArgsRel.of_den hd
  have hc : Conc X.objs w F ins ρ { tm := Tm.ofList c.args c.args.length, stk := [], hp := c.heap, ne := c.nin } { tmps := vals.toArray, defers := [] } [] w := by
    have h0 := ofList_rel (n := c.args.length) harg
    rw [show c.args.length - vals.toArray.size = 0 by have := harg.1; simp; omega] at h0
    exact ⟨hil, (by intro _ h; cases h), ⟨by simpa using h0, rfl, by simp [Tm.ofList]⟩, .nil, hsat⟩
  obtain ⟨st', env', ρ', hc1, hs1, he1, hρ1⟩ := openAll_sound ho opens _ _ _ hc hs
  have hc2 : Conc X.objs w F env' ρ' { st' with tm := Tm.ofList [] 0 } { tmps := #[], defers := [] } [] w := by
    refine ⟨hc1.ne, hc1.pc, ⟨⟨rfl, fun i => .inl ?_⟩, rfl, by simp [Tm.ofList]⟩, hc1.stk, hc1.sat⟩
    simp [Tm.getD, Tm.ofList, Tr.mk', Nat.blt, Nat.ble, Tr.get]
  have harg1 : ArgsRel env' ρ' st'.tm.list vals := by
    refine ⟨by have := hc1.tm.1.1; simpa [Tm.list] using this, fun i => ?_⟩
    have h0 := hc1.tm.1.2 i
    by_cases hi : i < st'.tm.len
    · simpa [Tm.list, Tm.getD, List.getD, hi] using h0
    · have : st'.tm.list.getD i .junk = .junk := by simp [Tm.list, List.getD, hi]
      rw [this]; exact .inl rfl
  have hrun := runFn_sound (X := X) (R := ctrR c) (w0 := w) (F := F) ho hmix hcts fuel (ins, ρ) noRnd (fun _ _ _ _ _ _ _ _ _ _ _ _ _ _ _ _ _ h => h.elim) (ins, ρ) c.fn st'.tm.list { st' with tm := Tm.ofList [] 0 } (fun v st' => finish X c folds v st') env' ρ' { tmps := #[], defers := [] } [] w vals
    (fun r w' => ∃ ρ2, Den (ins ++ c.out ins) (ρ ++ ρ2) c.ret r ∧ Sat X.objs w F (ins ++ c.out ins) (ρ ++ ρ2) c.post w') ⟨List.prefix_refl _, List.prefix_refl _⟩ ⟨he1, hρ1⟩ hc2 harg1
    (fun v st3 env3 ρ3 r w3 hp3 hc3 hr3 hs3 => finish_sound ho hil hsat.len hp3 hc3 hr3 hs3) hs1
  exact Calls.mono hrun.2 fun e w' ⟨r, he, ρ2, h1, h2⟩ => ⟨r, ρ2, he, h1, h2⟩
end
end Go.Proofs.Ytjohihkbampbgaa
