/- The symbolic executor: code and functions do what the executor says. No program is named here. -/
import Derived.Test.YtbkaclkbjpdfnaaSo
namespace Go.Proofs.Ytbkaclkbjpdfnaa
set_option linter.unusedVariables false
set_option linter.unusedSimpArgs false
set_option linter.unusedSectionVars false
open Go

section
variable {U : Type} [Nil U] {X : Cx U} {R : List (EV U) → List (EV U) → Prop} {w0 : World} {F : Nat → Prop}
  {inlR : Rnd → FuncId → List SV → St → (SV → St → Tree) → Tree} {rnd : Rnd}

theorem headOf_ne (s : LoopS U) (ws : List Tmp) (st : St) : (headOf s ws st).ne = st.ne + s.nv := rfl

theorem iterC_sound {P : Program} {c : Code} {as : List Act} {pre : List (EV U) × List Value} (body : St → (SExit → St → Tree) → Tree)
    (hb : ∀ (st : St) (K : SExit → St → Tree) (Q : SExit → Act → World → Prop) (env : List (EV U)) (ρ : List Value) (a : Act) (w : World), Pfx pre env ρ → Conc X.objs w0 F env ρ st a as w → Outs X R w0 F pre as K Q → (body st K).sat X R env → c.wp P (lift Q) a w)
    {K : SExit → St → Tree} {Q : SExit → Act → World → Prop} (hK : Outs X R w0 F pre as K Q) (n : Nat) (st : St) (env : List (EV U)) (ρ : List Value) (a : Act) (w : World) (hp : Pfx pre env ρ) (hc : Conc X.objs w0 F env ρ st a as w) (hs : (iterC body n st K).sat X R env) :
    (Code.loop c).wp P (lift Q) a w := by
  refine wp_loop_g (G := Nat × St × List (EV U) × List Value) (fun g a w => Pfx pre g.2.2.1 g.2.2.2 ∧ Conc X.objs w0 F g.2.2.1 g.2.2.2 g.2.1 a as w ∧ (iterC body g.1 g.2.1 K).sat X R g.2.2.1) (fun g => g.1) (n, st, env, ρ) ⟨hp, hc, hs⟩ ?_
  rintro ⟨n, st, env, ρ⟩ a w ⟨hp, hc, hs⟩
  cases n with
  | zero => exact hs.elim
  | succ n =>
    simp only [iterC] at hs
    refine wp_mono (hb st _ (fun ex a' w' => match ex with
      | .normal => ∃ g' : Nat × St × List (EV U) × List Value, (Pfx pre g'.2.2.1 g'.2.2.2 ∧ Conc X.objs w0 F g'.2.2.1 g'.2.2.2 g'.2.1 a' as w' ∧ (iterC body g'.1 g'.2.1 K).sat X R g'.2.2.1) ∧ g'.1 < n + 1
      | e => Q e a' w') env ρ a w hp hc ?_ hs) ?_
    · intro ex st' env' ρ' a' w' hp' hc' hs'
      cases ex with
      | normal => exact ⟨(n, st', env', ρ'), ⟨hp', hc', hs'⟩, by simp⟩
      | exit i => exact hK _ _ _ _ _ _ hp' hc' hs'
      | ret => exact hK _ _ _ _ _ _ hp' hc' hs'
    · intro e a' w' h
      cases e <;> first | exact h | exact h.elim

theorem prefix_take {α : Type} {p l : List α} {n : Nat} (h : p <+: l) (hn : p.length ≤ n) : p <+: l.take n := by
  obtain ⟨r, rfl⟩ := h
  rw [List.take_append]
  rw [List.take_of_length_le hn]
  exact List.prefix_append _ _
theorem prefix_names {p ρ ρ' : List Value} {h0 : Nat} (h : p <+: ρ) (hn : p.length ≤ h0) (hs : ∀ n, n < h0 → n < ρ'.length ∧ hv ρ' n = hv ρ n) : p <+: ρ' := by
  obtain ⟨r, rfl⟩ := h
  refine ⟨ρ'.drop p.length, ?_⟩
  have hpl : p.length ≤ ρ'.length := by
    by_cases h : p.length = 0
    · omega
    · have := (hs (p.length - 1) (by omega)).1; omega
  apply List.ext_getElem?
  intro i
  by_cases hi : i < p.length
  · obtain ⟨h1, h2⟩ := hs i (by omega)
    rw [List.getElem?_append_left hi, List.getElem?_eq_getElem hi, List.getElem?_eq_getElem h1]
    simp only [hv, List.getD, List.getElem?_eq_getElem h1, List.getElem?_append_left hi, List.getElem?_eq_getElem hi, Option.getD_some] at h2
    rw [h2]
  · rw [List.getElem?_append_right (by omega), List.getElem?_drop]
    congr 1
    omega

theorem findLoop_spec {f rid id : Nat} {s : LoopS U} : ∀ (ss : List (LoopS U)) (i : Nat), findLoop f rid i ss = some (id, s) → ∃ j, id = i + j ∧ ss[j]? = some s
  | [], i, h => by simp [findLoop] at h
  | t :: ss, i, h => by
    simp only [findLoop] at h
    split at h
    · simp only [Option.some.injEq, Prod.mk.injEq] at h
      exact ⟨0, h.1.symm, by simp [h.2]⟩
    · obtain ⟨j, e1, e2⟩ := findLoop_spec ss (i + 1) h
      exact ⟨j + 1, by omega, by simpa using e2⟩

theorem runCode_sound (ho : ObjsOk X.objs) (hinl : InlOk X R w0 F (inlR rnd)) (hrnd : NoRnd X R rnd) {rd : Bool} (hmix : X.P.follows .mixedOrders = true) (f : FuncId) (h0 : Nat) {as : List Act} : ∀ (c : Code) (pre : List (EV U) × List Value) (st : St) (K : SExit → St → Tree) (Q : SExit → Act → World → Prop)
    (env : List (EV U)) (ρ : List Value) (a : Act) (w : World), Pfx pre env ρ → pre.2.length ≤ h0 → Conc X.objs w0 F env ρ st a as w → Outs X R w0 F pre as K Q → (runCode X inlR rnd f h0 rd c st K).sat X R env → c.wp X.P (lift Q) a w := by
  intro c
  induction c with
  | skip => intro pre st K Q env ρ a w hp hl hc hK hs; exact wp_skip (hK _ _ _ _ _ _ hp hc hs)
  | label l => intro pre st K Q env ρ a w hp hl hc hK hs; exact wp_label (hK _ _ _ _ _ _ hp hc hs)
  | region id ops draw =>
    intro pre st K Q env ρ a w hp hl hc hK hs
    have hg : Goes X R w0 F pre as (K .normal) (Q .normal) := fun st' env' ρ' a' w' h1 h2 h3 => hK _ _ _ _ _ _ h1 h2 h3
    cases draw with
    | false => exact wp_region_list (runOps_sound ho hinl hrnd (fun a w h => h) hg _ _ _ _ _ _ hp hc hs)
    | true =>
      simp only [runCode] at hs
      split at hs
      · rename_i hnos
        exact draw_sound ho hinl hmix (Bool.and_eq_true _ _ ▸ hnos).1 (fun a w h => h) (fun c a w h => h) hg hp hc id _ _ 0 _ _ hs
      · exact hs.elim
  | seq x y ihx ihy =>
    intro pre st K Q env ρ a w hp hl hc hK hs
    simp only [runCode] at hs
    refine wp_seq (wp_mono (ihx pre st _ (fun ex a' w' => match ex with | .normal => y.wp X.P (lift Q) a' w' | e => Q e a' w') env ρ a w hp hl hc ?_ hs) ?_)
    · intro ex st' env' ρ' a' w' hp' hc' hs'
      cases ex with
      | normal => exact ihy pre st' K Q env' ρ' a' w' hp' hl hc' hK hs'
      | exit i => exact hK _ _ _ _ _ _ hp' hc' hs'
      | ret => exact hK _ _ _ _ _ _ hp' hc' hs'
    · intro e a' w' h
      cases e <;> first | exact h | exact h.elim
  | cond c x y ihx ihy =>
    intro pre st K Q env ρ a w hp hl hc hK hs
    simp only [runCode] at hs
    have hr := evalO_rel hc.tm.1 c
    split at hs
    · rename_i hcv
      rw [hcv] at hr
      exact wp_cond_true (den_bool (hr.den (by simp))).1 (ihx pre st K Q env ρ a w hp hl hc hK hs)
    · rename_i hcv
      rw [hcv] at hr
      exact wp_cond_false (den_bool (hr.den (by simp))).1 (ihy pre st K Q env ρ a w hp hl hc hK hs)
    · rename_i x' hn1 hn2 hcv
      split at hs
      · rename_i d
        rw [hcv] at hr
        have hcv' : st.tm.getD d .junk = .bool x' := hcv
        have he := (den_bool (hr.den (by simp))).1
        obtain ⟨h1, h2⟩ := hs
        cases hb : x'.den env
        · rw [hb] at he
          exact wp_cond_false he (ihy pre _ K Q env ρ a w hp hl (hc.setB hcv' hb) hK (h2 hb))
        · rw [hb] at he
          exact wp_cond_true he (ihx pre _ K Q env ρ a w hp hl (hc.setB hcv' hb) hK (h1 hb))
      · exact hs.elim
    · exact hs.elim
  | block id c ih =>
    intro pre st K Q env ρ a w hp hl hc hK hs
    simp only [runCode] at hs
    refine wp_block (wp_mono (ih pre st _ (fun ex a' w' => match ex with | .exit i => if i = id then Q .normal a' w' else Q (.exit i) a' w' | e => Q e a' w') env ρ a w hp hl hc ?_ hs) ?_)
    · intro ex st' env' ρ' a' w' hp' hc' hs'
      cases ex with
      | normal => exact hK _ _ _ _ _ _ hp' hc' hs'
      | exit i =>
        dsimp only at hs' ⊢
        split at hs'
        · rename_i hi; rw [if_pos hi]; exact hK _ _ _ _ _ _ hp' hc' hs'
        · rename_i hi; rw [if_neg hi]; exact hK _ _ _ _ _ _ hp' hc' hs'
      | ret => exact hK _ _ _ _ _ _ hp' hc' hs'
    · intro e a' w' h
      cases e <;> first | exact h | exact h.elim
  | loop c ih =>
    intro pre st K Q env ρ a w hp hl hc hK hs
    simp only [runCode, St.force_eq] at hs
    split at hs
    · exact iterC_sound _ (fun st K Q env ρ a w hp hc hK hs => ih pre st K Q env ρ a w hp hl hc hK hs) hK 70 st env ρ a w hp hc hs
    · rename_i id s hfind
      obtain ⟨st1, env1, ρ1, hc1, hs1, he1, hr1⟩ := nilFix_sound ho _ _ _ _ hc hs
      split at hs1
      · exact hs1.elim
      · rename_i hcond
        simp only [Bool.or_eq_true, Bool.not_eq_true', decide_eq_true_eq, not_or, Bool.not_eq_false, Nat.not_lt] at hcond
        split at hs1
        · rename_i β hfit
          have hne1 : st.ne ≤ st1.ne := by rw [← hc.ne, ← hc1.ne]; exact he1.length_le
          obtain ⟨ρ2, hc2, hsame, hβl⟩ := fit_sound hfit hne1 (by rw [headOf_ne]; omega) hc1
          rw [headOf_ne] at hβl
          simp only [Tree.sat] at hs1
          split at hs1
          · rename_i s' hid
            obtain ⟨hinv, hbody⟩ := hs1
            have hss : s = s' := by
              obtain ⟨j, e1, e2⟩ := findLoop_spec _ _ hfind
              rw [Nat.zero_add] at e1
              subst e1
              rw [hid] at e2
              injection e2 with e2
              exact e2.symm
            have htake : env1.take st.ne = env := by
              obtain ⟨r, rfl⟩ := he1
              rw [← hc.ne]
              simp
            -- the head, with whatever numbers
            refine wp_loop_g (G := List (EV U) × List Value) (fun g a w => ∃ fr, g.1 = env ++ fr ∧ fr.length = s'.nv ∧ s'.inv (env ++ fr) ∧ Conc X.objs w0 F g.1 g.2 (headOf s (writes c) st) a as w ∧ pre.2 <+: g.2) (fun g => s'.mu g.1) (env ++ β.map (Bnd.den env1), ρ2)
              ⟨_, rfl, ?_, by rw [← htake]; exact hinv, by rw [← htake]; exact hc2, prefix_names (hp.2.trans hr1) hl hsame⟩ ?_
            · rw [List.length_map, hβl, hss]; omega
            · rintro ⟨env3, ρ3⟩ a3 w3 ⟨fr, rfl, hfl, hinv3, hc3, hpn⟩
              have hsb := hbody fr hfl (by rw [htake]; exact hinv3)
              rw [htake] at hsb
              refine wp_mono (ih (env ++ fr, pre.2) _ _ (fun ex a' w' => match ex with
                | .normal => ∃ g' : List (EV U) × List Value, (∃ fr, g'.1 = env ++ fr ∧ fr.length = s'.nv ∧ s'.inv (env ++ fr) ∧ Conc X.objs w0 F g'.1 g'.2 (headOf s (writes c) st) a' as w' ∧ pre.2 <+: g'.2) ∧ s'.mu g'.1 < s'.mu (env ++ fr)
                | e => Q e a' w') (env ++ fr) ρ3 a3 w3 ⟨List.prefix_refl _, hpn⟩ hl hc3 ?_ hsb) ?_
              · intro ex st' env' ρ' a' w' hp' hc' hs'
                have hpre' : Pfx pre env' ρ' := ⟨(hp.1.trans (List.prefix_append _ _)).trans hp'.1, hp'.2⟩
                cases ex with
                | normal =>
                  dsimp only at hs' ⊢
                  obtain ⟨st4, env4, ρ4, hc4, hs4, he4, hr4⟩ := nilFix_sound ho _ _ _ _ hc' hs'
                  split at hs4
                  · rename_i β' hfit'
                    have hne4 : st.ne ≤ st4.ne := by
                      have h1 := (hp'.1.trans he4).length_le
                      have := hc.ne; have := hc4.ne
                      simp at h1; omega
                    obtain ⟨ρ5, hc5, hsame5, hβl5⟩ := fit_sound hfit' hne4 (by rw [headOf_ne]; omega) hc4
                    simp only [Tree.sat, hid] at hs4
                    have ht4 : env4.take st.ne = env := by
                      obtain ⟨r, rfl⟩ := (hp'.1.trans he4)
                      rw [← hc.ne, List.append_assoc]
                      simp
                    have ht5 : env4.take (st.ne + s'.nv) = env ++ fr := by
                      obtain ⟨r, rfl⟩ := (hp'.1.trans he4)
                      rw [← hc.ne, ← hfl, ← List.length_append, List.take_left]
                    rw [ht4, ht5] at hs4
                    rw [ht4] at hc5
                    exact ⟨(env ++ β'.map (Bnd.den env4), ρ5), ⟨_, rfl, by rw [headOf_ne] at hβl5; rw [List.length_map, hβl5, hss]; omega, hs4.1, hc5, prefix_names (hp'.2.trans hr4) hl hsame5⟩, hs4.2⟩
                  · exact hs4.elim
                | exit i => exact hK _ _ _ _ _ _ hpre' hc' hs'
                | ret => exact hK _ _ _ _ _ _ hpre' hc' hs'
              · intro e a' w' h
                cases e <;> first | exact h | exact h.elim
          · exact hs1.elim
        · exact iterC_sound _ (fun st K Q env ρ a w hp hc hK hs => ih pre st K Q env ρ a w hp hl hc hK hs) hK 2 st1 env1 ρ1 a w ⟨hp.1.trans he1, hp.2.trans hr1⟩ hc1 hs1
  | exit id => intro pre st K Q env ρ a w hp hl hc hK hs; exact wp_exit (hK _ _ _ _ _ _ hp hc hs)
  | ret => intro pre st K Q env ρ a w hp hl hc hK hs; exact wp_ret (hK _ _ _ _ _ _ hp hc hs)
  | scope c ih =>
    intro pre st K Q env ρ a w hp hl hc hK hs
    simp only [runCode] at hs
    refine wp_scope_straight (wp_mono (ih pre st K Q env ρ a w hp hl hc hK hs) ?_)
    intro e a' w' h
    cases e <;> first | exact h | exact h.elim
  | rangeFunc f ps x y _ _ => intro pre st K Q env ρ a w hp hl hc hK hs; exact hs.elim
  | goto l => intro pre st K Q env ρ a w hp hl hc hK hs; exact hs.elim
  | refuse s => intro pre st K Q env ρ a w hp hl hc hK hs; exact hs.elim

def resF (tmps : Array Value) (r : ResultVar) : Sem Value :=
  match r with
  | .tmp t => pure (tmps.getD t undef)
  | .cell a t => do loadVar t (← asAddr (tmps.getD a undef))
theorem results_eq (fn : Func) (tmps : Array Value) : results fn tmps = (do let vs ← fn.results.mapM (resF tmps); pure (if h : vs.size = 1 then vs[0] else .tuple vs)) := rfl
theorem resS_sound {env : List (EV U)} {ρ : List Value} {hp : List HE} {tm : Tm} {tmps : Array Value} {w : World} (ht : TmRel env ρ tm tmps) (hr : Reads env ρ hp w) : ∀ (rs : List ResultVar) (l : List SV), resS X.P hp tm rs = some l →
    ∃ cs : List Value, DenL env ρ l cs ∧ (rs.mapM (resF tmps)).run X.P w = .ok cs w
  | [], l, h => by
    simp only [resS, Option.some.injEq] at h
    subst h
    exact ⟨[], DenL.nil, by simp⟩
  | .tmp t :: rs, l, h => by
    simp only [resS] at h
    split at h
    · rename_i hsure
      simp only [Option.map_eq_some_iff] at h
      obtain ⟨l', hl', rfl⟩ := h
      obtain ⟨cs, h1, h2⟩ := resS_sound ht hr rs l' hl'
      exact ⟨_ :: cs, DenL.cons ((ht.2 t).den (sure_ne hsure)) h1, by simp [h2, resF]⟩
    · cases h
  | .cell a t :: rs, l, h => by
    simp only [resS] at h
    split at h
    · rename_i v hload
      split at h
      · rename_i hsure
        simp only [Option.map_eq_some_iff] at h
        obtain ⟨l', hl', rfl⟩ := h
        obtain ⟨cs, h1, h2⟩ := resS_sound ht hr rs l' hl'
        obtain ⟨c, ad, e1, e2, e3⟩ := loadS_sound (W := fun w' => w' = w) hload (ht.2 a) (fun w' h => by rw [h]; exact hr) rfl (by simp)
        refine ⟨c :: cs, DenL.cons (e1.den (sure_ne hsure)) h1, ?_⟩
        have e4 : (resF tmps (.cell a t)).run X.P w = .ok c w := by
          simp only [resF, e2, asAddr, Sem.run_bind, Sem.run_pure, Result.andThen_ok, e3 w rfl]
        simp [e4, h2]
      · cases h
    · cases h

theorem resV_sound {env : List (EV U)} {ρ : List Value} {l : List SV} {cs : List Value} (h : DenL env ρ l cs) : Den env ρ (resV l) (if h : cs.toArray.size = 1 then cs.toArray[0] else .tuple cs.toArray) := by
  have hl := h.len
  unfold resV
  split
  · rename_i v
    obtain ⟨c, ds, rfl, h1, h2⟩ := h.uncons
    have : ds = [] := by simpa using hl
    subst this
    simpa using h1
  · rename_i hne
    have : ¬ cs.toArray.size = 1 := by
      intro e
      simp at e
      rw [← hl] at e
      obtain ⟨v, rfl⟩ := List.length_eq_one_iff.1 e
      exact hne v rfl
    rw [dif_neg this]
    exact tuple_den h

theorem ofList_rel {env : List (EV U)} {ρ : List Value} {args : List SV} {vals : List Value} {n : Nat} (ha : ArgsRel env ρ args vals) :
    TmRel env ρ (Tm.ofList args n) (vals.toArray ++ Array.replicate (n - vals.toArray.size) undef) := by
  refine ⟨by have := ha.1; simp [Tm.ofList]; omega, fun i => ?_⟩
  have h := Tr.get_mk (fun i => args.getD i .junk) (args.length + (n - args.length)) 12 1 0 i
  simp only [Nat.one_mul, Nat.add_zero] at h
  simp only [Tm.getD, Tm.ofList]
  rcases h with h | h
  · rw [h]
    by_cases hi : i < args.length
    · have := ha.2 i
      have hi2 : i < vals.length := by rw [← ha.1]; exact hi
      simp only [List.getD, Array.getD_eq_getD_getElem?] at this ⊢
      rw [Array.getElem?_append_left (by simpa using hi2)]
      simpa using this
    · simp only [List.getD, List.getElem?_eq_none (Nat.le_of_not_lt hi)]
      exact .inl rfl
  · rw [h]; exact .inl rfl

theorem runFn_sound (ho : ObjsOk X.objs) (hmix : X.P.follows .mixedOrders = true) (hcts : ∀ (ci : Nat) (c : Ctr U), X.cts[ci]? = some c → c.Holds X.objs X.P) : ∀ n rnd, NoRnd X R rnd → InlOk X R w0 F (runFn X n rnd) := by
  intro n
  induction n with
  | zero => intro rnd hrnd pre g args st K env ρ a as w vals N hp hc ha hK hs; exact hs.elim
  | succ n ih0 =>
    intro rnd hrnd
    have ih := ih0 rnd hrnd
    have hinl : InlOk X R w0 F ((fun rnd g as st K => toRows X.P (wantRows X.cts g as) st fun st => match tryCtrs g as st K 0 X.cts with | some t => t | none => runFn X n rnd g as st K : Rnd → FuncId → List SV → St → (SV → St → Tree) → Tree) rnd) := by
      intro pre g args st K env ρ a as w vals N hp hc ha hK hs
      obtain ⟨st2, o, hc2, hs2⟩ := toRows_sound _ _ _ hc hs
      have main : ∀ st (env : List (EV U)), Pfx pre env ρ → Conc X.objs w0 F env ρ st a as w → ArgsRel env ρ args vals → (match tryCtrs g args st K 0 X.cts with | some t => t | none => runFn X n rnd g args st K).sat X R env →
          Callable X.P g ∧ Calls X.P g vals.toArray w fun e w' => ∃ c, e = .returned c ∧ N c w' := by
        clear hs hc ha hp hs2 hc2
        intro st env hp hc ha hs
        split at hs
        · rename_i T hT
          have key : ∀ (cs : List (Ctr U)) (i : Nat), (∀ j, cs[j]? = X.cts[i + j]?) → tryCtrs g args st K i cs = some T → ∃ ci c, X.cts[ci]? = some c ∧ c.fn = g ∧ tryCtr c ci args st K = some T := by
            intro cs
            induction cs with
            | nil => intro i _ h; simp [tryCtrs] at h
            | cons c cs ihc =>
              intro i hcs h
              have hrest := ihc (i + 1) (fun j => by have := hcs (j + 1); simp at this; rw [this]; congr 1; omega)
              simp only [tryCtrs] at h
              split at h
              · rename_i hfn
                split at h
                · rename_i t ht
                  injection h with h
                  subst h
                  exact ⟨i, c, by have := hcs 0; simpa using this.symm, hfn, ht⟩
                · exact hrest h
              · exact hrest h
          obtain ⟨ci, c, h1, rfl, h2⟩ := key X.cts 0 (fun j => by simp) hT
          exact tryCtr_sound h1 (hcts ci c h1) h2 hp hc ha hK hs
        · exact ih pre g args st K env ρ a as w vals N hp hc ha hK hs
      exact main st2 _ (hp.env o) hc2 ⟨ha.1, fun i => by simpa using (ha.2 i).ext o []⟩ hs2
    intro pre g args st K env ρ a as w vals N hp hc ha hK hs
    simp only [runFn, St.force_eq] at hs
    split at hs
    · rename_i fn hfn
      split at hs
      · rename_i c hb
        split at hs
        · exact hs.elim
        · rename_i hname
          refine ⟨⟨fn, c, hfn, hb, by simpa using hname⟩, ?_⟩
          refine calls_of_wp hfn hb ?_
          have hc2 : Conc X.objs w0 F env ρ { st with tm := Tm.ofList args fn.ntmps, stk := st.tm :: st.stk } { tmps := vals.toArray ++ Array.replicate (fn.ntmps - vals.toArray.size) undef, defers := [] } (a :: as) w :=
            ⟨hc.ne, ⟨ofList_rel ha, rfl, by simp [Tm.ofList]⟩, .cons hc.tm hc.stk, hc.sat⟩
          refine wp_mono (runCode_sound ho hinl hrnd hmix g st.hp.length c pre _ _ (fun ex a' w' => (∀ i, ex ≠ .exit i) ∧ a'.defers = [] ∧ ∃ v, (results fn a'.tmps).run X.P w' = .ok v w' ∧ N v w') env ρ _ w hp ?_ hc2 ?_ hs) ?_
          · have := hp.2.length_le
            rw [hc.sat.len] at this
            exact this
          · intro ex st' env' ρ' a' w' hp' hc' hs'
            have hne : ∀ i, ex ≠ .exit i := by
              intro i e
              subst e
              exact hs'.elim
            refine ⟨hne, ?_⟩
            have hstk := hc'.stk
            obtain ⟨tm0, stk0, hst, h1, h2⟩ : ∃ tm0 stk0, st'.stk = tm0 :: stk0 ∧ TmOk env' ρ' tm0 a ∧ Stk env' ρ' stk0 as := by
              generalize st'.stk = l at hstk
              cases hstk with
              | cons h1 h2 => exact ⟨_, _, rfl, h1, h2⟩
            dsimp only at hs'
            rw [hst] at hs'
            have hs2 : (match st'.tm.mks with
              | [] =>
                match resS X.P st'.hp st'.tm fn.results.toList with
                | some l => K (resV l) { st' with tm := tm0, stk := stk0 }
                | none => Tree.fail "results"
              | _ => Tree.fail "marks").sat X R env' := by
              cases ex with
              | exit i => exact absurd rfl (hne i)
              | normal => exact hs'
              | ret => exact hs'
            split at hs2
            rotate_left
            · exact hs2.elim
            rename_i hmks
            refine ⟨by rw [hc'.tm.2.1, hmks]; rfl, ?_⟩
            split at hs2
            · rename_i l hl
              obtain ⟨cs, e1, e2⟩ := resS_sound (X := X) hc'.tm.1 (hc'.sat.reads ho) _ _ hl
              have hd := resV_sound e1
              refine ⟨_, ?_, hK _ { st' with tm := tm0, stk := stk0 } env' ρ' _ w' hp' ⟨hc'.ne, h1, h2, hc'.sat⟩ (.inr hd) hs2⟩
              rw [results_eq, Sem.run_bind, Array.mapM_eq_mapM_toList]
              simp only [Sem.run_map, e2, Result.andThen_ok, Sem.run_pure]
            · exact hs2.elim
          · intro e a' w' h
            cases e with
            | normal => exact ⟨h.2.1, h.2.2.choose, h.2.2.choose_spec.1, _, rfl, h.2.2.choose_spec.2⟩
            | ret => exact ⟨h.2.1, h.2.2.choose, h.2.2.choose_spec.1, _, rfl, h.2.2.choose_spec.2⟩
            | exit i => exact (h.1 i rfl).elim
            | goto l => exact h.elim
            | panic c => exact h.elim
            | outgrown => exact h.elim
      · exact hs.elim
    · exact hs.elim
end
end Go.Proofs.Ytbkaclkbjpdfnaa
