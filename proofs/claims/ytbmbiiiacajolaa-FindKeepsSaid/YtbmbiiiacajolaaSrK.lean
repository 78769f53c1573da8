/- Texts of this proof. -/
import Derived.Test.YtbmbiiiacajolaaSoK
namespace Go.Proofs.Ytbmbiiiacajolaa
set_option linter.unusedVariables false
set_option linter.unusedSimpArgs false
set_option linter.unusedSectionVars false
open Go
section
variable {U : Type} [Nil U] {objs : List (ObjT U)} {w0 : World} {F : Nat → Prop} {env : List (EV U)} {ρ : List Value} {w : World} {st : St} {a : Act} {as : List Act}
theorem putObj_other {b : Nat} {o : Obj} (x : Nat) (h : x ≠ b) : (w.putObj b o).heap[x]? = w.heap[x]? := World.putObj_heap_other h
theorem Conc.allocSys (h : Conc objs w0 F env ρ st a as w) {i : Nat} {L : Loop} (j : RecSt) (hi : env[i]? = some (.r L)) :
 Conc objs w0 F env (ρ ++ [.pointer (some ⟨w.heap.size, 0, none⟩)]) { st with hp := st.hp ++ [HE.sys i j] } a as (w.alloc (objOf L j)) := by
 obtain ⟨S, hS⟩ := h.sat.own
 refine ⟨h.ne, h.pc, by simpa using h.tm.ext [] [_], by simpa using h.stk.ext [] [_], by simp [h.sat.len], ⟨_, hS.push h.sat.len h.sat.frame _ (.sys i j) _ ⟨_, L, rfl, hi, heap_alloc_new w _, rfl⟩⟩, h.sat.frame.alloc _⟩
theorem Conc.sysAt (h : Conc objs w0 F env ρ st a as w) {n i : Nat} {j : RecSt} (hn : st.hp[n]? = some (.sys i j)) : ∃ b L, hv ρ n = .pointer (some ⟨b, 0, none⟩) ∧ env[i]? = some (.r L) ∧ w.heap[b]? = some (objOf L j) := by
 obtain ⟨S, hS⟩ := h.sat.own
 obtain ⟨b, L, e1, e2, e3, e4⟩ := hS.holds n _ hn
 exact ⟨b, L, e1, e2, e3⟩
theorem Conc.setSys (h : Conc objs w0 F env ρ st a as w) {n i b : Nat} {j j' : RecSt} {L : Loop} (hn : st.hp[n]? = some (.sys i j)) (hb : hv ρ n = .pointer (some ⟨b, 0, none⟩)) (hL : env[i]? = some (.r L)) :
 Conc objs w0 F env ρ { st with hp := st.hp.set n (.sys i j') } a as (w.putObj b (objOf L j')) := by
 obtain ⟨S, hS⟩ := h.sat.own
 obtain ⟨b', L', e1, e2, e3, e4⟩ := hS.holds n _ hn
 rw [hb] at e1; injection e1 with e1; injection e1 with e1; injection e1 with e1; subst e1
 have hlt : b < w.heap.size := (Array.getElem?_eq_some_iff.1 e3).1
 have hblk : ∀ x, ¬ S n x → (w.putObj b (objOf L j')).heap[x]? = w.heap[x]? := fun x hx => putObj_other x (fun e => hx (e ▸ e4))
 exact ⟨h.ne, h.pc, h.tm, h.stk, by simp [h.sat.len], ⟨S, hS.update n _ (List.getElem?_eq_some_iff.1 hn).1 hblk World.putObj_size ⟨b, L, hb, hL, World.putObj_heap_same hlt, e4⟩⟩, Fr.update hS h.sat.frame n hblk World.putObj_size rfl rfl rfl⟩
theorem Sat.freeSys {hp : List HE} (h : Sat objs w0 F env ρ hp w) {n i b : Nat} {j : RecSt} (o : Obj) (hn : hp[n]? = some (.sys i j)) (hb : hv ρ n = .pointer (some ⟨b, 0, none⟩)) :
 Sat objs w0 F env ρ (hp.set n .gone) (w.putObj b o) := by
 obtain ⟨S, hS⟩ := h.own
 obtain ⟨b', L', e1, e2, e3, e4⟩ := hS.holds n _ hn
 rw [hb] at e1; injection e1 with e1; injection e1 with e1; injection e1 with e1; subst e1
 have hblk : ∀ x, ¬ S n x → (w.putObj b o).heap[x]? = w.heap[x]? := fun x hx => putObj_other x (fun e => hx (e ▸ e4))
 exact ⟨by simp [h.len], ⟨S, hS.update n _ (List.getElem?_eq_some_iff.1 hn).1 hblk World.putObj_size trivial⟩, Fr.update hS h.frame n hblk World.putObj_size rfl rfl rfl⟩
theorem Conc.freeSys (h : Conc objs w0 F env ρ st a as w) {n i b : Nat} {j : RecSt} (o : Obj) (hn : st.hp[n]? = some (.sys i j)) (hb : hv ρ n = .pointer (some ⟨b, 0, none⟩)) :
 Conc objs w0 F env ρ { st with hp := st.hp.set n .gone } a as (w.putObj b o) := ⟨h.ne, h.pc, h.tm, h.stk, h.sat.freeSys o hn hb⟩
theorem hv_pre {ρ ρ' : List Value} (h : ρ <+: ρ') {n : Nat} (hn : n < ρ.length) : hv ρ' n = hv ρ n := by obtain ⟨r, rfl⟩ := h; exact hv_app hn r
theorem get_pre {env env' : List (EV U)} (h : env <+: env') {i : Nat} {x : EV U} (hi : env[i]? = some x) : env'[i]? = some x := by obtain ⟨r, rfl⟩ := h; exact get_ext hi r
theorem setTms_rel : ∀ (ps : List Tmp) (args : List SV) (vals : List Value) (tm : Tm) (tmps : Array Value), TmRel env ρ tm tmps → args.length = vals.length → (∀ i, Rel env ρ (args.getD i .junk) (vals.getD i undef)) →
 TmRel env ρ (setTms tm ps args) ((ps.zip vals).foldl (fun tmps (t, a) => tmps.setIfInBounds t a) tmps)
 | [], _, _, _, _, h, _, _ => by simpa [setTms] using h
 | t :: ps, [], [], _, _, h, _, _ => by simpa [setTms] using h
 | t :: ps, [], _ :: _, _, _, _, h, _ => by simp at h
 | t :: ps, _ :: _, [], _, _, _, h, _ => by simp at h
 | t :: ps, v :: args, c :: vals, tm, tmps, h, hl, hr => by
   simp only [setTms, List.zip_cons_cons, List.foldl_cons]
   exact setTms_rel ps args vals _ _ (h.set t (by simpa using hr 0)) (by simpa using hl) (fun i => by simpa using hr (i + 1))
end
section
variable {U : Type} [Nil U] {X : Cx U} {R : List (EV U) → List (EV U) → Prop} {w0 : World} {F : Nat → Prop}
 {inlF : FuncId → List SV → St → (SV → St → Tree) → Tree} {inlR : Rnd → FuncId → List SV → St → (SV → St → Tree) → Tree} {rnd : Rnd}
theorem headOf_ne (s : LoopS U) (ws : List Tmp) (st : St) : (headOf s ws st).ne = st.ne + s.nv := rfl
theorem iterC_sound {P : Program} {ro : Option Nat} {c : Code} {as : List Act} {pre : List (EV U) × List Value} (body : St → (SExit → St → Tree) → Tree)
 (hb : ∀ (st : St) (K : SExit → St → Tree) (Q : SExit → Act → World → Prop) (env : List (EV U)) (ρ : List Value) (a : Act) (w : World), Pfx pre env ρ → Conc X.objs w0 F env ρ st a as w → Outs X R w0 F pre as K Q → (body st K).sat X R env → c.wpIn (fR ro) 0 P (lift Q) a w)
 {K : SExit → St → Tree} {Q : SExit → Act → World → Prop} (hK : Outs X R w0 F pre as K Q) (n : Nat) (st : St) (env : List (EV U)) (ρ : List Value) (a : Act) (w : World) (hp : Pfx pre env ρ) (hc : Conc X.objs w0 F env ρ st a as w) (hs : (iterC body n st K).sat X R env) :
 (Code.loop c).wpIn (fR ro) 0 P (lift Q) a w := by
 refine wpIn_loop_g (G := Nat × St × List (EV U) × List Value) (fun g a w => Pfx pre g.2.2.1 g.2.2.2 ∧ Conc X.objs w0 F g.2.2.1 g.2.2.2 g.2.1 a as w ∧ (iterC body g.1 g.2.1 K).sat X R g.2.2.1) (fun g => g.1) (n, st, env, ρ) ⟨hp, hc, hs⟩ ?_
 rintro ⟨n, st, env, ρ⟩ a w ⟨hp, hc, hs⟩
 cases n with
 | zero => exact hs.elim
 | succ n =>
   simp only [iterC] at hs
   refine wpIn_mono (hb st _ (fun ex a' w' => match ex with
    | .normal => ∃ g' : Nat × St × List (EV U) × List Value, (Pfx pre g'.2.2.1 g'.2.2.2 ∧ Conc X.objs w0 F g'.2.2.1 g'.2.2.2 g'.2.1 a' as w' ∧ (iterC body g'.1 g'.2.1 K).sat X R g'.2.2.1) ∧ g'.1 < n + 1
    | e => Q e a' w') env ρ a w hp hc ?_ hs) ?_
   · intro ex st' env' ρ' a' w' hp' hc' hs'
     cases ex with
     | normal => exact ⟨(n, st', env', ρ'), ⟨hp', hc', hs'⟩, by simp⟩
     | exit i => exact hK _ _ _ _ _ _ hp' hc' hs'
     | ret => exact hK _ _ _ _ _ _ hp' hc' hs'
   · intro e a' w' h
     cases e <;> first | exact h | exact h.elim
theorem prefix_names {p ρ ρ' : List Value} {h0 : Nat} (h : p <+: ρ) (hn : p.length ≤ h0) (hs : ∀ n, n < h0 → n < ρ'.length ∧ hv ρ' n = hv ρ n) : p <+: ρ' := by
 obtain ⟨r, rfl⟩ := h
 refine ⟨ρ'.drop p.length, ?_⟩
 have hpl : p.length ≤ ρ'.length := by
  by_cases h : p.length = 0
  · omega
  · have := (hs (p.length - 1) (by omega)).1; omega
 apply List.ext_getElem?
 intro i
 by_cases hi : i < p.length
 · obtain ⟨h1, h2⟩ := hs i (by omega)
   rw [List.getElem?_append_left hi, List.getElem?_eq_getElem hi, List.getElem?_eq_getElem h1]
   simp only [hv, List.getD, List.getElem?_eq_getElem h1, List.getElem?_append_left hi, List.getElem?_eq_getElem hi, Option.getD_some] at h2
   rw [h2]
 · rw [List.getElem?_append_right (by omega), List.getElem?_drop]
   congr 1
   omega
theorem chkHpG_spec {β : List Bnd} {σ : List Nat} {hp : List HE} : ∀ (ts : List HE) (n : Nat), chkHpG β σ hp n ts = true → ∀ (j : Nat) (t : HE), ts[j]? = some t → t ≠ .gone → ∃ a h, σ[n + j]? = some a ∧ hp[a]? = some h ∧ t.subst β σ = some h
 | [], n, _, j, t, h, _ => by simp at h
 | t :: ts, n, hc, j, u, hu, hg => by
   have hc2 : chkHpG β σ hp (n + 1) ts = true := by
    cases t <;> simp only [chkHpG, Bool.and_eq_true] at hc <;> first | exact hc | exact hc.2
   cases j with
   | zero =>
     simp only [List.getElem?_cons_zero, Option.some.injEq] at hu
     subst hu
     have h1 : (match σ[n]? with
    | some a => match hp[a]?, t.subst β σ with | some h, some h' => h'.beq h && (match h' with | .cells vs _ => SV.sureL vs | _ => true) | _, _ => false
    | none => false) = true := by
       cases t <;> first | (exact absurd rfl hg) | (simp only [chkHpG, Bool.and_eq_true] at hc; exact hc.1)
     split at h1
     · rename_i a ha
       split at h1
       · rename_i h h' e1 e2
         simp only [Bool.and_eq_true] at h1
         exact ⟨a, h, ha, e1, by rw [e2, HE.beq_eq h1.1]⟩
       · cases h1
     · cases h1
   | succ j =>
     obtain ⟨a, h, e1, e2, e3⟩ := chkHpG_spec ts (n + 1) hc2 j u (by simpa using hu) hg
     exact ⟨a, h, by rw [← e1]; congr 1; omega, e2, e3⟩
theorem liveN_mem : ∀ {σ : List Nat} {hs : List HE} {j a : Nat}, hs[j]? ≠ some .gone → σ[j]? = some a → a ∈ liveN σ hs
 | [], _, j, a, _, h => by simp at h
 | x :: σ, [], j, a, _, h => by simp only [liveN]; exact List.mem_of_getElem? h
 | x :: σ, h :: hs, 0, a, hg, hj => by
   simp only [List.getElem?_cons_zero, Option.some.injEq] at hj
   subst hj
   have hg : h ≠ .gone := fun e => hg (by simp [e])
   cases h <;> first | (exact absurd rfl hg) | (simp only [liveN]; exact List.mem_cons_self)
 | x :: σ, h :: hs, j + 1, a, hg, hj => by
   have ih := liveN_mem (σ := σ) (hs := hs) (j := j) (a := a) (by simpa using hg) (by simpa using hj)
   cases h <;> simp only [liveN] <;> first | exact ih | exact List.mem_cons_of_mem _ ih
theorem liveN_inj : ∀ {σ : List Nat} {hs : List HE}, nodup (liveN σ hs) = true → ∀ (i j a : Nat), hs[i]? ≠ some .gone → hs[j]? ≠ some .gone → σ[i]? = some a → σ[j]? = some a → i = j
 | [], _, _, i, j, a, _, _, h, _ => by simp at h
 | x :: σ, [], hn, i, j, a, _, _, hi, hj => by simp only [liveN] at hn; exact nodup_inj hn i j a hi hj
 | x :: σ, h :: hs, hn, i, j, a, gi, gj, hi, hj => by
   have tl : nodup (liveN σ hs) = true := by
    cases h <;> simp only [liveN, nodup, Bool.and_eq_true] at hn <;> first | exact hn | exact hn.2
   have hd : h ≠ .gone → ∀ k : Nat, hs[k]? ≠ some .gone → σ[k]? = some x → False := by
    intro hg k hk hx
    have hm := liveN_mem hk hx
    cases h <;> first | (exact absurd rfl hg) | (simp only [liveN, nodup, Bool.and_eq_true, Bool.not_eq_true', List.contains_eq_mem, decide_eq_false_iff_not] at hn; exact hn.1 hm)
   cases i with
   | zero =>
     cases j with
     | zero => rfl
     | succ j =>
       simp only [List.getElem?_cons_zero, List.getElem?_cons_succ, Option.some.injEq, ne_eq] at hi hj gi gj
       subst hi
       exact (hd gi j gj hj).elim
   | succ i =>
     cases j with
     | zero =>
       simp only [List.getElem?_cons_zero, List.getElem?_cons_succ, Option.some.injEq, ne_eq] at hi hj gi gj
       subst hj
       exact (hd gj i gi hi).elim
     | succ j =>
       simp only [List.getElem?_cons_succ] at hi hj gi gj
       rw [liveN_inj tl i j a gi gj hi hj]
theorem vars_den {n : Nat} {env : List (EV U)} (h : env.length = n) : ((List.range n).map Bnd.var).map (Bnd.den env) = env := by
 apply List.ext_getElem?
 intro i
 by_cases hi : i < n
 · have hl : i < env.length := by omega
   simp [Bnd.den, List.getElem?_range hi, List.getElem?_eq_getElem hl]
 · rw [List.getElem?_eq_none (by simp; omega), List.getElem?_eq_none (by omega)]
theorem fitJ_sound {nh0 : Nat} {hd st st0 : St} {env : List (EV U)} {ρ ρ0 : List Value} {a a0 : Act} {as : List Act} {w w' : World} (h : fitJ nh0 hd st = true) (hne : hd.ne = st0.ne) (hc0 : Conc X.objs w0 F env ρ0 st0 a0 as w') (hρ : ρ0 <+: ρ) (hl : ρ0.length = nh0)
 (hc : Conc X.objs w0 F env ρ st a as w) : ∃ ρ', ρ0 <+: ρ' ∧ Conc X.objs w0 F env ρ' { hd with stk := st0.stk, pc := st0.pc } a as w := by
 unfold fitJ at h
 split at h
 · cases h
 · rename_i m _
   dsimp only at h
   generalize m.σ.map (·.getD 0) = σ at h
   simp only [Bool.and_eq_true, decide_eq_true_eq, beq_iff_eq] at h
   obtain ⟨⟨⟨⟨⟨hne2, htm⟩, hhp⟩, hnd⟩, hσl⟩, hσ0⟩ := h
   have hvd : ((List.range hd.ne).map Bnd.var).map (Bnd.den env) = env := vars_den (by rw [hne]; exact hc0.ne)
   obtain ⟨S, hS⟩ := hc.sat.own
   have inj := liveN_inj hnd
   have hpre : ρ0 <+: σ.map (hv ρ) := by
    refine prefix_names hρ (h0 := nh0) (by omega) fun n hn => ?_
    have e1 : (σ.take nh0)[n]? = some n := by rw [hσ0, List.getElem?_range hn]
    rw [List.getElem?_take, if_pos hn] at e1
    exact ⟨by simpa using (List.getElem?_eq_some_iff.1 e1).1, hv_map ρ e1⟩
   refine ⟨σ.map (hv ρ), hpre, ?_⟩
   have htm' := chkTm_ok htm hc.tm
   rw [hvd] at htm'
   refine ⟨by rw [hne]; exact hc0.ne, hc0.pc, htm', ?_, by simp [hσl], ⟨fun j x => hd.hp[j]? ≠ some .gone ∧ ∃ b, σ[j]? = some b ∧ S b x, ⟨fun j t ht => ?_, fun i j x ⟨g1, b, hb, hx⟩ ⟨g2, d, hd, hy⟩ => ?_, fun j x ⟨_, b, hb, hx⟩ => ?_⟩⟩, hc.sat.frame⟩
   · obtain ⟨o, ho⟩ := hpre
     have := hc0.stk.ext [] o
     rw [List.append_nil, ho] at this
     exact this
   · by_cases hg : t = .gone
     · subst hg; trivial
     obtain ⟨b, h, e1, e2, e3⟩ := chkHpG_spec hd.hp 0 hhp j t ht hg
     rw [Nat.zero_add] at e1
     rw [hv_map ρ e1]
     have hfun : (fun x => hd.hp[j]? ≠ some .gone ∧ ∃ b, σ[j]? = some b ∧ S b x) = S b := by
      funext x
      apply propext
      constructor
      · rintro ⟨_, b', hb, hx⟩; rw [e1] at hb; injection hb with hb; subst hb; exact hx
      · intro hx; exact ⟨by rw [ht]; intro h; injection h with h; exact hg h, b, e1, hx⟩
     rw [hfun]
     have := (hS.holds b h e2).form0 e3
     rw [hvd] at this
     exact this
   · have := hS.disj b d x hx hy
     subst this
     exact inj i j b g1 g2 hb hd
   · have := hS.dom b x hx
     exact ⟨by rw [← hσl]; exact (List.getElem?_eq_some_iff.1 hb).1, this.2⟩
theorem keptJ_stays {names : List Nat} : ∀ (n : Nat) (hp hp' : List HE), ∀ k ∈ keptJ names n hp hp', ∃ j e, k = n + j ∧ hp[j]? = some e ∧ stays e = true
 | n, [], _, k, h => by simp [keptJ] at h
 | n, _ :: _, [], k, h => by simp [keptJ] at h
 | n, x :: hp, y :: hp', k, h => by
   have ih := keptJ_stays (names := names) (n + 1) hp hp' k
   have step : k ∈ keptJ names (n + 1) hp hp' → ∃ j e, k = n + j ∧ (x :: hp)[j]? = some e ∧ stays e = true := by
    intro h
    obtain ⟨j, e, e1, e2, e3⟩ := ih h
    exact ⟨j + 1, e, by omega, by simpa using e2, e3⟩
   simp only [keptJ] at h
   split at h
   · split at h
     · rename_i hst
       split at h
       · rcases List.mem_cons.1 h with rfl | h
         · exact ⟨0, x, rfl, rfl, hst⟩
         · exact step h
       · exact step h
     · exact step h
   · exact step h
theorem findLoop_spec {f rid ne id : Nat} {s : LoopS U} : ∀ (ss : List (LoopS U)) (i : Nat), findLoop f rid ne i ss = some (id, s) → ∃ j, id = i + j ∧ ss[j]? = some s
 | [], i, h => by simp [findLoop] at h
 | t :: ss, i, h => by
   simp only [findLoop] at h
   split at h
   · simp only [Option.some.injEq, Prod.mk.injEq] at h
     exact ⟨0, h.1.symm, by simp [h.2]⟩
   · obtain ⟨j, e1, e2⟩ := findLoop_spec ss (i + 1) h
     exact ⟨j + 1, by omega, by simpa using e2⟩
def jumpOf : SExit → Option Code
 | .normal => none
 | .ret => some .ret
 | .exit id => some (.exit id)
theorem objOf_stOf (L : Loop) (ex : SExit) : objOf L (stOf ex) = .loop { L with state := if (jumpOf ex).isNone then .ready else .done, pending := jumpOf ex } := by cases ex <;> rfl
theorem isNorm_jump (ex : SExit) : (jumpOf ex).isNone = isNorm ex := by cases ex <;> rfl
set_option maxHeartbeats 1000000 in
theorem range_sound (ho : ObjsOk X.objs) (hinl : ∀ base rnd, RndOk X R w0 F base rnd → InlOk X R w0 F base (inlR rnd)) {f : FuncId} {base : List (EV U) × List Value} {rnd : Rnd} (hrnd : RndOk X R w0 F base rnd)
 {ro : Option Nat} {rd : Bool} (hrd : rd = false → ro = none) {as : List Act} {h0 : Nat} {g : Operand} {ps : Array Tmp} {x y : Code}
 (ihx : ∀ (base : List (EV U) × List Value) (rnd : Rnd) (hrnd : RndOk X R w0 F base rnd)
   (ro : Option Nat) (rd : Bool) (hrd : rd = false → ro = none) (as : List Act) (h0 : Nat) (pre : List (EV U) × List Value) (st : St) (K : SExit → St → Tree) (Q : SExit → Act → World → Prop)
   (env : List (EV U)) (ρ : List Value) (a : Act) (w : World), Pfx base pre.1 pre.2 → Pfx pre env ρ → pre.2.length ≤ h0 → Conc X.objs w0 F env ρ st a as w → Outs X R w0 F pre as K Q → (runCode X inlF inlR rnd f h0 rd x st K).sat X R env → x.wpIn (fR ro) 0 X.P (lift Q) a w)
 (ihy : ∀ (base : List (EV U) × List Value) (rnd : Rnd) (hrnd : RndOk X R w0 F base rnd)
   (ro : Option Nat) (rd : Bool) (hrd : rd = false → ro = none) (as : List Act) (h0 : Nat) (pre : List (EV U) × List Value) (st : St) (K : SExit → St → Tree) (Q : SExit → Act → World → Prop)
   (env : List (EV U)) (ρ : List Value) (a : Act) (w : World), Pfx base pre.1 pre.2 → Pfx pre env ρ → pre.2.length ≤ h0 → Conc X.objs w0 F env ρ st a as w → Outs X R w0 F pre as K Q → (runCode X inlF inlR rnd f h0 rd y st K).sat X R env → y.wpIn (fR ro) 0 X.P (lift Q) a w)
 {pre : List (EV U) × List Value} {st : St} {K : SExit → St → Tree} {Q : SExit → Act → World → Prop} {env : List (EV U)} {ρ : List Value} {a : Act} {w : World} (hb : Pfx base pre.1 pre.2) (hp : Pfx pre env ρ) (hc : Conc X.objs w0 F env ρ st a as w)
 (hK : Outs X R w0 F pre as K Q) (hs : (runCode X inlF inlR rnd f h0 rd (.rangeFunc g ps x y) st K).sat X R env) : (Code.rangeFunc g ps x y).wpIn (fR ro) 0 X.P (lift Q) a w := by
 simp only [runCode] at hs
 split at hs
 · exact hs.elim
 rename_i hrdf
 simp only [Bool.or_eq_true, not_or, Bool.not_eq_true, Bool.not_eq_true', Bool.not_eq_false', Bool.not_eq_false, List.isEmpty_iff] at hrdf
 have hro : ro = none := hrd hrdf.1
 subst hro
 split at hs
 rotate_left
 · exact hs.elim
 rename_i it first captured hg
 have hgr := evalO_rel hc.tm.1 g
 rw [hg] at hgr
 obtain ⟨fs, cs, e, hfd, hcd⟩ := den_func (hgr.den (by simp))
 refine wpIn_rangeFunc (fun fn _ => ?_)
 let L : Loop := { state := .ready, pending := none, fn := fn, tmps := a.tmps, params := ps, assign := x, body := y, defers := w.heap.size }
 have hi : (env ++ [EV.r L])[st.ne]? = some (.r L) := by rw [← hc.ne]; exact last_get _
 have hlen := hc.sat.len
 let ρ1 : List Value := ρ ++ [.pointer (some ⟨w.heap.size, 0, none⟩)] ++ [.pointer (some ⟨w.heap.size + 1, 0, none⟩)]
 let w1 : World := (w.alloc (.deferred (some []))).alloc (.loop L)
 let a1 : Act := { a with defers := [{ target := .collected w.heap.size, args := #[] }] ++ a.defers }
 let st1 : St := { st with tm := { st.tm with mks := st.hp.length :: st.tm.mks }, hp := st.hp ++ [HE.sys st.ne .dfr, HE.sys st.ne .ready], ne := st.ne + 1 }
 have hm : hv ρ1 st.hp.length = .pointer (some ⟨w.heap.size, 0, none⟩) := by
  show hv (ρ ++ [_] ++ [_]) _ = _
  rw [hv_app (by simp [hlen]), ← hlen, hv_len]
 have hn : hv ρ1 (st.hp.length + 1) = .pointer (some ⟨w.heap.size + 1, 0, none⟩) := by
  have : st.hp.length + 1 = (ρ ++ [Value.pointer (some ⟨w.heap.size, 0, none⟩)]).length := by simp [hlen]
  rw [this]
  exact hv_len _ _
 have hcC : Conc X.objs w0 F (env ++ [.r L]) ρ1 st1 a1 as w1 := by
  have hcB := ((hc.ext [.r L]).allocSys .dfr hi).allocSys .ready hi
  have hsz : (w.alloc (objOf L .dfr)).heap.size = w.heap.size + 1 := World.size_alloc ..
  rw [hsz] at hcB
  refine ⟨hcB.ne, hcB.pc, ⟨hcB.tm.1, ?_, ?_⟩, hcB.stk, ?_⟩
  · refine ⟨[], ?_, by show DfsOk _ _ st.tm.dfs []; rw [hrdf.2]; trivial⟩
    show [_] ++ a.defers = [] ++ List.map _ (st.hp.length :: st.tm.mks)
    rw [List.nil_append]
    have h2 : a.defers = st.tm.mks.map (markOf ρ1) := hcB.tm.plain hrdf.2
    rw [List.map_cons, ← h2]
    unfold markOf
    rw [hm]
    rfl
  · intro k hk
    rcases List.mem_cons.1 hk with rfl | hk
    · simp [ρ1, hlen]
    · exact hcB.tm.2.2 k hk
  · have h := hcB.sat
    have happ : st.hp ++ [HE.sys st.ne .dfr, HE.sys st.ne .ready] = (st.hp ++ [HE.sys st.ne .dfr]) ++ [HE.sys st.ne .ready] := by simp
    show Sat X.objs w0 F _ ρ1 (st.hp ++ [HE.sys st.ne .dfr, HE.sys st.ne .ready]) w1
    rw [happ]
    exact h
 have hpx : Pfx (env, ρ) (env ++ [.r L]) ρ1 := ⟨List.prefix_append _ _, (List.prefix_append _ _).trans (List.prefix_append _ _)⟩
 have hyd : DenL (env ++ [.r L]) ρ1 [.yld (st.hp.length + 1)] [.func (.yield (w.heap.size + 1)) #[] #[]] := by
  refine DenL.cons ⟨fun xs ys => ?_, trivial⟩ DenL.nil
  simp only [SV.den]
  rw [hv_app (by simp [ρ1, hlen]), hn]
  rfl
 have hargs : ArgsRel (env ++ [.r L]) ρ1 (first ++ [.yld (st.hp.length + 1)] ++ captured) (fs ++ [.func (.yield (w.heap.size + 1)) #[] #[]] ++ cs) := by
  have e1 := hfd.ext [EV.r L] ([.pointer (some ⟨w.heap.size, 0, none⟩)] ++ [.pointer (some ⟨w.heap.size + 1, 0, none⟩)])
  have e2 := hcd.ext [EV.r L] ([.pointer (some ⟨w.heap.size, 0, none⟩)] ++ [.pointer (some ⟨w.heap.size + 1, 0, none⟩)])
  rw [← List.append_assoc] at e1 e2
  exact ((ArgsRel.of_den e1).append (ArgsRel.of_den hyd)).append (ArgsRel.of_den e2)
 have hrnd1 : RndOk X R w0 F (env ++ [.r L], ρ1) (fun n' args st' K' => if n' = st.hp.length + 1 then roundS st.tm st.ne (st.hp.length + 1) ps.toList (runCode X inlF inlR rnd f st'.hp.length true x) (runCode X inlF inlR rnd f st'.hp.length true y) args st' K' else rnd n' args st' K') := by
  intro pre2 m args st2 K2 env2 ρ2 a2 as2 w2 vals N2 hb2 hp2 hc2 ha2 hK2 hs2
  have hbp : Pfx base pre2.1 pre2.2 := by
   have h1 := (hb.trans hp).trans (p := (env, ρ)) hpx
   exact ⟨h1.1.trans hb2.1, h1.2.trans hb2.2⟩
  dsimp only at hs2
  split at hs2
  rotate_left
  · exact hrnd pre2 m args st2 K2 env2 ρ2 a2 as2 w2 vals N2 hbp hp2 hc2 ha2 hK2 hs2
  rename_i hmn
  subst hmn
  have hE : (env ++ [EV.r L]) <+: env2 := hb2.1.trans hp2.1
  have hR : ρ1 <+: ρ2 := hb2.2.trans hp2.2
  have hL2 : env2[st.ne]? = some (.r L) := get_pre hE hi
  have hn2 : hv ρ2 (st.hp.length + 1) = .pointer (some ⟨w.heap.size + 1, 0, none⟩) := by rw [hv_pre hR (by simp [ρ1, hlen]), hn]
  unfold roundS at hs2
  split at hs2
  rotate_left
  · exact hs2.elim
  rename_i i hsys
  split at hs2
  rotate_left
  · exact hs2.elim
  rename_i hcond
  obtain ⟨rfl, hal⟩ := hcond
  obtain ⟨b, L', e1, e2, e3⟩ := hc2.sysAt hsys
  rw [hn2] at e1; injection e1 with e1; injection e1 with e1; injection e1 with e1; subst e1
  rw [hL2] at e2; injection e2 with e2; injection e2 with e2; subst e2
  have hbk : (addrOf (hv ρ2 (st.hp.length + 1))).block = w.heap.size + 1 := by rw [hn2]; rfl
  rw [hbk]
  have hvl : vals.length = ps.size := by rw [← ha2.1, hal]; simp
  refine ⟨{ L with state := .ready, pending := none }, e3, hvl, ?_⟩
  have hlen2 : pre2.2.length ≤ st2.hp.length := by
   have := hp2.2.length_le
   rw [hc2.sat.len] at this
   exact this
  have hca : Conc X.objs w0 F env2 ρ2 { st2 with tm := { setTms st.tm ps.toList args with mks := [], dfs := [] }, stk := st2.tm :: st2.stk }
   { tmps := (ps.zip vals.toArray).foldl (fun tmps (t, a) => tmps.setIfInBounds t a) a.tmps, defers := [] } (a2 :: as2) w2 := by
   refine ⟨hc2.ne, hc2.pc, .of ?_ rfl (by simp) rfl, .cons hc2.tm hc2.stk, hc2.sat⟩
   have h2 : TmRel env2 ρ2 st.tm a.tmps := by
    obtain ⟨o, rfl⟩ := hE
    obtain ⟨r, rfl⟩ := hR
    have := (hc.tm.ext [EV.r L] ([.pointer (some ⟨w.heap.size, 0, none⟩)] ++ [.pointer (some ⟨w.heap.size + 1, 0, none⟩)])).ext o r
    rw [← List.append_assoc ρ] at this
    exact this.1
   have h3 := setTms_rel ps.toList args vals st.tm a.tmps h2 ha2.1 ha2.2
   rw [show (ps.zip vals.toArray).foldl (fun tmps (x : Tmp × Value) => tmps.setIfInBounds x.1 x.2) a.tmps = (ps.toList.zip vals).foldl (fun tmps (x : Tmp × Value) => tmps.setIfInBounds x.1 x.2) a.tmps by
    rw [← Array.foldl_toList]; simp]
   exact h3
  refine roundIn_of_wpIn (F := Fence.wide) trivial (wpIn_mono (ihx base rnd hrnd (some (w.heap.size + 1)) true (fun h => by cases h) (a2 :: as2) st2.hp.length pre2 _ _
   (fun ex a' w' => ex = .normal ∧ ∃ w3, (Instr.beginRound (w.heap.size + 1)).run X.P w' = .ok () w3 ∧ y.wpIn (Fence.wide.inRound (w.heap.size + 1)) 0 X.P (roundPost X.P (w.heap.size + 1) (fun e w'' => ∃ c, e = .returned c ∧ N2 c w'')) a' w3)
   env2 ρ2 _ _ hbp hp2 hlen2 hca ?_ hs2) ?_)
  rotate_left
  · intro e a' w' h
    cases e with
    | normal => exact h.2
    | ret => cases h.1
    | exit i => cases h.1
    | goto l => exact h.elim
    | panic c => exact h.elim
    | outgrown => exact h.elim
  intro ex5 st5 env5 ρ5 a5 w5 hp5 hc5 hs5
  dsimp only at hs5
  split at hs5
  rotate_left
  · exact hs5.elim
  rename_i i5 hsys5
  split at hs5
  rotate_left
  · exact hs5.elim
  rename_i hii5
  subst hii5
  have hE5 : (env ++ [EV.r L]) <+: env5 := hb2.1.trans hp5.1
  have hR5 : ρ1 <+: ρ5 := hb2.2.trans hp5.2
  have hL5 : env5[st.ne]? = some (.r L) := get_pre hE5 hi
  have hn5 : hv ρ5 (st.hp.length + 1) = .pointer (some ⟨w.heap.size + 1, 0, none⟩) := by rw [hv_pre hR5 (by simp [ρ1, hlen]), hn]
  obtain ⟨b5, L5, q1, q2, q3⟩ := hc5.sysAt hsys5
  rw [hn5] at q1; injection q1 with q1; injection q1 with q1; injection q1 with q1; subst q1
  rw [hL5] at q2; injection q2 with q2; injection q2 with q2; subst q2
  have hcb := hc5.setSys (j' := .busy) hsys5 hn5 hL5
  refine ⟨rfl, _, run_beginRound q3 rfl, ?_⟩
  refine wpIn_mono (ihy base rnd hrnd (some (w.heap.size + 1)) true (fun h => by cases h) (a2 :: as2) st2.hp.length pre2 _ _ (fun ex a' w' => ∃ v w'', (Instr.endRound (w.heap.size + 1) (jumpOf ex)).run X.P w' = .ok v w'' ∧ ∃ c, Ending.returned v = .returned c ∧ N2 c w'')
   env5 ρ5 _ _ hbp hp5 hlen2 hcb ?_ hs5) ?_
  · intro ex st3 env3 ρ3 a3 w3 hp3 hc3 hs3
    dsimp only at hs3
    have hstk := hc3.stk
    obtain ⟨tm0, stk0, hst, g1, g2⟩ : ∃ tm0 stk0, st3.stk = tm0 :: stk0 ∧ TmOk env3 ρ3 tm0 a2 ∧ Stk env3 ρ3 stk0 as2 := by
     generalize st3.stk = l at hstk
     cases hstk with
     | cons h1 h2 => exact ⟨_, _, rfl, h1, h2⟩
    rw [hst] at hs3
    split at hs3
    rotate_left
    · exact hs3.elim
    rename_i tm1 stk1 i3 hcons hsys3
    injection hcons with q1 q2
    subst q1 q2
    split at hs3
    rotate_left
    · exact hs3.elim
    rename_i hii
    subst hii
    have hE3 : (env ++ [EV.r L]) <+: env3 := hb2.1.trans hp3.1
    have hR3 : ρ1 <+: ρ3 := hb2.2.trans hp3.2
    have hL3 : env3[st.ne]? = some (.r L) := get_pre hE3 hi
    have hn3 : hv ρ3 (st.hp.length + 1) = .pointer (some ⟨w.heap.size + 1, 0, none⟩) := by rw [hv_pre hR3 (by simp [ρ1, hlen]), hn]
    obtain ⟨b3, L3, f1, f2, f3⟩ := hc3.sysAt hsys3
    rw [hn3] at f1; injection f1 with f1; injection f1 with f1; injection f1 with f1; subst f1
    rw [hL3] at f2; injection f2 with f2; injection f2 with f2; subst f2
    have hend := run_endRound (P := X.P) (jumpOf ex) f3
    have hc4 := hc3.setSys (j' := stOf ex) hsys3 hn3 hL3
    rw [objOf_stOf] at hc4
    have hc5 : Conc X.objs w0 F env3 ρ3 { st3 with tm := tm0, stk := stk0, hp := st3.hp.set (st.hp.length + 1) (.sys st.ne (stOf ex)) } a2 as2 _ := ⟨hc4.ne, hc4.pc, g1, g2, hc4.sat⟩
    refine ⟨_, _, hend, _, rfl, hK2 _ _ env3 ρ3 _ _ hp3 hc5 (.inr ?_) hs3⟩
    rw [isNorm_jump]
    exact bool_den (denB_lit (isNorm ex))
  · intro e a' w' h
    cases e with
    | normal => exact h
    | ret => exact h
    | exit i => exact h
    | goto l => exact h.elim
    | panic c => exact h.elim
    | outgrown => exact h.elim
 have hsL : (Tree.rng _).sat X R env := hs
 have hs1 := hsL L
 clear hsL
 have hI := hinl _ _ hrnd1
 have hI2 := fun hk => hI (env ++ [.r L], ρ1) it _ st1 _ (env ++ [.r L]) ρ1 a1 as w1 (fs ++ [.func (.yield (w.heap.size + 1)) #[] #[]] ++ cs)
  (fun _ w3 => ∃ jump w4, (Instr.endLoop (w.heap.size + 1)).run X.P w3 = .ok jump w4 ∧ (match jump with | none => lift Q .normal a1 w4 | some c => c.wpIn (fR none) 0 X.P (lift Q) a1 w4))
  ⟨List.prefix_refl _, List.prefix_refl _⟩ ⟨List.prefix_refl _, List.prefix_refl _⟩ hcC hargs hk hs1
 obtain ⟨⟨fnI, body, hfn, hbody, hname⟩, hcalls⟩ := hI2 (by
  intro v st3 env3 ρ3 c3 w3 hp3 hc3 hr3 hs3
  split at hs3
  rotate_left
  · exact hs3.elim
  rename_i i3 j3 hsys3
  split at hs3
  rotate_left
  · exact hs3.elim
  rename_i hii
  subst hii
  split at hs3
  rotate_left
  · exact hs3.elim
  rename_i ex hex
  have hL3 : env3[st.ne]? = some (.r L) := get_pre hp3.1 hi
  have hn3 : hv ρ3 (st.hp.length + 1) = .pointer (some ⟨w.heap.size + 1, 0, none⟩) := by rw [hv_pre hp3.2 (by simp [ρ1, hlen]), hn]
  obtain ⟨b3, L3, f1, f2, f3⟩ := hc3.sysAt hsys3
  rw [hn3] at f1; injection f1 with f1; injection f1 with f1; injection f1 with f1; subst f1
  rw [hL3] at f2; injection f2 with f2; injection f2 with f2; subst f2
  have hpp : Pfx pre env3 ρ3 := (hp.trans (p := (env, ρ)) hpx).trans (p := (env ++ [.r L], ρ1)) hp3
  cases j3 with
  | dfr => cases hex
  | busy => cases hex
  | ready =>
    injection hex with hex; subst hex
    exact ⟨_, _, run_endLoop f3 (by simp), hK _ _ _ _ _ _ hpp (hc3.freeSys _ hsys3 hn3) hs3⟩
  | ret =>
    injection hex with hex; subst hex
    exact ⟨_, _, run_endLoop f3 (by simp), wpIn_ret (hK _ _ _ _ _ _ hpp (hc3.freeSys _ hsys3 hn3) hs3)⟩
  | exit id =>
    injection hex with hex; subst hex
    exact ⟨_, _, run_endLoop f3 (by simp), wpIn_exit (hK _ _ _ _ _ _ hpp (hc3.freeSys _ hsys3 hn3) hs3)⟩)
 have k1 : (Instr.enterLoop fn a.tmps ps x y (fR none).round).run X.P w = .ok (w.heap.size + 1, [{ target := .collected w.heap.size, args := #[] }]) w1 := run_enterLoop_outer fn a.tmps ps x y
 have k2 : (resolve a.eval (rangeCall g (w.heap.size + 1)) 0).run X.P w1 = .ok { target := .fn (.func it) cs.toArray, args := fs.toArray ++ #[Value.func (.yield (w.heap.size + 1)) #[] #[]] } w1 := by
  have hmap : Array.map a.eval #[Operand.const (Value.func (.yield (w.heap.size + 1)) #[] #[])] = #[Value.func (.yield (w.heap.size + 1)) #[] #[]] := by simp [Act.eval]
  simp only [resolve, rangeCall, e, Deferred.ofValue, Sem.run_pure, hmap]
 have k3 : (invoke (.fn (.func it) cs.toArray) (fs.toArray ++ #[Value.func (.yield (w.heap.size + 1)) #[] #[]])).run X.P w1 = .ok (.enter it (fs ++ [Value.func (.yield (w.heap.size + 1)) #[] #[]] ++ cs).toArray) w1 := by
  have hee := Go.MuLone.run_callFunc_enter hfn hname hbody (fs ++ [Value.func (.yield (w.heap.size + 1)) #[] #[]] ++ cs).toArray w1
  have harr : (fs.toArray ++ #[Value.func (.yield (w.heap.size + 1)) #[] #[]] ++ cs.toArray : Array Value) = (fs ++ [Value.func (.yield (w.heap.size + 1)) #[] #[]] ++ cs).toArray := by apply Array.toList_inj.1; simp
  simp only [invoke]
  rw [harr, hee]
 have k4 : CallsIn (fR none) (0 - 1) X.P it (fs ++ [Value.func (.yield (w.heap.size + 1)) #[] #[]] ++ cs).toArray w1 (rangePost (fR none) 0 X.P (w.heap.size + 1) (lift Q) a1) := by
  refine CallsIn.mono (callsR hcalls) fun e w' he => ?_
  obtain ⟨c, rfl, hn⟩ := he
  exact hn
 exact ⟨w.heap.size + 1, _, w1, _, w1, it, _, w1, k1, k2, fun _ _ => trivial, k3, depthR, k4⟩
theorem runCode_sound (ho : ObjsOk X.objs) (hinl : ∀ base rnd, RndOk X R w0 F base rnd → InlOk X R w0 F base (inlR rnd)) (hmix : X.P.follows .mixedOrders = true) (f : FuncId) : ∀ (c : Code) (base : List (EV U) × List Value) (rnd : Rnd) (hrnd : RndOk X R w0 F base rnd)
 (ro : Option Nat) (rd : Bool) (hrd : rd = false → ro = none) (as : List Act) (h0 : Nat) (pre : List (EV U) × List Value) (st : St) (K : SExit → St → Tree) (Q : SExit → Act → World → Prop)
 (env : List (EV U)) (ρ : List Value) (a : Act) (w : World), Pfx base pre.1 pre.2 → Pfx pre env ρ → pre.2.length ≤ h0 → Conc X.objs w0 F env ρ st a as w → Outs X R w0 F pre as K Q → (runCode X inlF inlR rnd f h0 rd c st K).sat X R env → c.wpIn (fR ro) 0 X.P (lift Q) a w := by
 intro c
 induction c with
 | skip => intro base rnd hrnd ro rd hrd as h0 pre st K Q env ρ a w hb hp hl hc hK hs; exact wpIn_skip (hK _ _ _ _ _ _ hp hc hs)
 | label l => intro base rnd hrnd ro rd hrd as h0 pre st K Q env ρ a w hb hp hl hc hK hs; exact wpIn_label (hK _ _ _ _ _ _ hp hc hs)
 | region id ops draw =>
   intro base rnd hrnd ro rd hrd as h0 pre st K Q env ρ a w hb hp hl hc hK hs
   have hg : Goes X R w0 F pre as (K .normal) (Q .normal) := fun st' env' ρ' a' w' h1 h2 h3 => hK _ _ _ _ _ _ h1 h2 h3
   cases draw with
   | false =>
     simp only [runCode] at hs
     split at hs
     · rename_i l o c hld
       obtain ⟨el, eop, egd⟩ := lastDefer_spec hld
       have hro := hrd rfl
       subst hro
       refine wpIn_region_list ?_
       rw [el]
       refine wpListR_tail l a w ?_
       refine runOps_sound (N := fun a w => wpListR none X.P ops (lift Q) [o] a w) ho (hinl base rnd hrnd) hb hrnd (fun a w h => h) ?_ _ _ _ _ _ _ hp hc hs
       intro st' env' ρ' a' w' hp' hc' hs'
       show if _ then _ else _
       have hw : Region.wanted o (yielded ops a'.tmps) = true := by unfold Region.wanted; rw [egd]
       rw [if_pos hw]
       exact deferS_sound (N := Q .normal) eop hc' hg hp' hs'
     · exact wpIn_region_list (runOps_sound ho (hinl base rnd hrnd) hb hrnd (fun a w h => h) hg _ _ _ _ _ _ hp hc hs)
   | true =>
     simp only [runCode] at hs
     split at hs
     · rename_i hnos
       split at hs
       · exact hs.elim
       · split at hs
         · exact draw_sound ho (hinl base rnd hrnd) hb hmix (Bool.and_eq_true _ _ ▸ hnos).1 (Bool.and_eq_true _ _ ▸ hnos).2 (fun a w h => h) (fun c a w h => h) (fun ⟨_, _, h⟩ => h) hg hp hc id _ _ 0 _ (keptOf_stays) hs
         · split at hs
           · exact draw_sound ho (hinl base rnd hrnd) hb hmix (Bool.and_eq_true _ _ ▸ hnos).1 (Bool.and_eq_true _ _ ▸ hnos).2 (fun a w h => h) (fun c a w h => h) (fun ⟨_, _, h⟩ => h) hg hp hc id _ _ 0 _ (keptOf_stays) hs
           rename_i s0 _
           have hks : ∀ {n}, n ∈ keptJ (notOut (X.out f id) (ops.toList.flatMap (readsOf s0.tm))) 0 st.hp s0.hp → ∃ e, st.hp[n]? = some e ∧ stays e = true := by
            intro n hn
            obtain ⟨j, e, e1, e2, e3⟩ := keptJ_stays _ _ _ _ hn
            rw [Nat.zero_add] at e1
            subst e1
            exact ⟨e, e2, e3⟩
           split at hs
           · exact draw_sound ho (hinl base rnd hrnd) hb hmix (Bool.and_eq_true _ _ ▸ hnos).1 (Bool.and_eq_true _ _ ▸ hnos).2 (fun a w h => h) (fun c a w h => h) (fun ⟨_, _, h⟩ => h) hg hp hc id _ _ 0 _ hks hs
           · rename_i s1 _
             rw [St.force_eq] at hs
             obtain ⟨hs1, hs2⟩ := hs
             split at hs1
             · rename_i hne
               have hne := of_decide_eq_true hne
               refine wpIn_mono (draw_sound (N := fun a' w' => ∃ ρ', ρ <+: ρ' ∧ Conc X.objs w0 F env ρ' { cleanJ st.hp.length s1 with stk := st.stk, pc := st.pc } a' as w') (Q := fun ex a' w' => ex = .normal ∧ ∃ ρ', ρ <+: ρ' ∧ Conc X.objs w0 F env ρ' { cleanJ st.hp.length s1 with stk := st.stk, pc := st.pc } a' as w')
                ho (hinl base rnd hrnd) (pre := (env, ρ)) (hb.trans hp) hmix (Bool.and_eq_true _ _ ▸ hnos).1 (Bool.and_eq_true _ _ ▸ hnos).2 (fun a w h => ⟨rfl, h⟩) (fun c a w h => by cases h.1) (fun ⟨_, _, h⟩ => by cases h.1) ?_ ⟨List.prefix_refl _, List.prefix_refl _⟩ hc id _ _ 0 _ hks hs2) ?_
               · intro st2 env2 ρ2 a2 w2 hp2 hc2 hs3
                 dsimp only at hs3
                 split at hs3
                 · rename_i hf
                   have he : env2 = env := by
                    have hl2 : st2.ne = st.ne := by
                     unfold fitJ at hf
                     split at hf
                     · cases hf
                     · simp only [Bool.and_eq_true, decide_eq_true_eq] at hf
                       rw [← hf.1.1.1.1.1, hne]
                    have h1 := hc2.ne
                    rw [hl2, ← hc.ne] at h1
                    exact (hp2.1.eq_of_length h1.symm).symm
                   subst he
                   exact fitJ_sound hf hne hc hp2.2 hc.sat.len hc2
                 · exact hs3.elim
               · rintro e a' w' ⟨rfl, ρ', h1, h2⟩
                 exact hg _ _ _ _ _ ⟨hp.1, hp.2.trans h1⟩ h2 hs1
             · exact hs1.elim
     · exact hs.elim
 | seq x y ihx ihy =>
   intro base rnd hrnd ro rd hrd as h0 pre st K Q env ρ a w hb hp hl hc hK hs
   simp only [runCode] at hs
   refine wpIn_seq (wpIn_mono (ihx base rnd hrnd ro rd hrd as h0 pre st _ (fun ex a' w' => match ex with | .normal => y.wpIn (fR ro) 0 X.P (lift Q) a' w' | e => Q e a' w') env ρ a w hb hp hl hc ?_ hs) ?_)
   · intro ex st' env' ρ' a' w' hp' hc' hs'
     cases ex with
     | normal => exact ihy base rnd hrnd ro rd hrd as h0 pre st' K Q env' ρ' a' w' hb hp' hl hc' hK hs'
     | exit i => exact hK _ _ _ _ _ _ hp' hc' hs'
     | ret => exact hK _ _ _ _ _ _ hp' hc' hs'
   · intro e a' w' h
     cases e <;> first | exact h | exact h.elim
 | cond c x y ihx ihy =>
   intro base rnd hrnd ro rd hrd as h0 pre st K Q env ρ a w hb hp hl hc hK hs
   simp only [runCode] at hs
   have hr := evalO_rel hc.tm.1 c
   split at hs
   · rename_i hcv
     rw [hcv] at hr
     exact wpIn_cond_true (den_bool (hr.den (by simp))).1 (ihx base rnd hrnd ro rd hrd as h0 pre st K Q env ρ a w hb hp hl hc hK hs)
   · rename_i hcv
     rw [hcv] at hr
     exact wpIn_cond_false (den_bool (hr.den (by simp))).1 (ihy base rnd hrnd ro rd hrd as h0 pre st K Q env ρ a w hb hp hl hc hK hs)
   · rename_i x' hn1 hn2 hcv
     split at hs
     · rename_i d
       rw [hcv] at hr
       have hcv' : st.tm.getD d .junk = .bool x' := hcv
       have he := (den_bool (hr.den (by simp))).1
       obtain ⟨pc', hpc', hbr⟩ := brK_sound hc.pc (den_bool (hr.den (by simp))).2 hs
       have hc' := hc.setPc hpc'
       rcases hbr with ⟨hbx, h1⟩ | ⟨hbx, h1⟩
       · rw [hbx] at he
         exact wpIn_cond_true he (ihx base rnd hrnd ro rd hrd as h0 pre _ K Q env ρ a w hb hp hl (hc'.setB hcv' hbx) hK h1)
       · rw [hbx] at he
         exact wpIn_cond_false he (ihy base rnd hrnd ro rd hrd as h0 pre _ K Q env ρ a w hb hp hl (hc'.setB hcv' hbx) hK h1)
     · exact hs.elim
   · exact hs.elim
 | block id c ih =>
   intro base rnd hrnd ro rd hrd as h0 pre st K Q env ρ a w hb hp hl hc hK hs
   simp only [runCode] at hs
   refine wpIn_block (wpIn_mono (ih base rnd hrnd ro rd hrd as h0 pre st _ (fun ex a' w' => match ex with | .exit i => if i = id then Q .normal a' w' else Q (.exit i) a' w' | e => Q e a' w') env ρ a w hb hp hl hc ?_ hs) ?_)
   · intro ex st' env' ρ' a' w' hp' hc' hs'
     cases ex with
     | normal => exact hK _ _ _ _ _ _ hp' hc' hs'
     | exit i =>
       dsimp only at hs' ⊢
       split at hs'
       · rename_i hi; rw [if_pos hi]; exact hK _ _ _ _ _ _ hp' hc' hs'
       · rename_i hi; rw [if_neg hi]; exact hK _ _ _ _ _ _ hp' hc' hs'
     | ret => exact hK _ _ _ _ _ _ hp' hc' hs'
   · intro e a' w' h
     cases e <;> first | exact h | exact h.elim
 | loop c ih =>
   intro base rnd hrnd ro rd hrd as h0 pre st K Q env ρ a w hb hp hl hc hK hs
   simp only [runCode, St.force_eq] at hs
   split at hs
   · exact iterC_sound _ (fun st K Q env ρ a w hp hc hK hs => ih base rnd hrnd ro rd hrd as h0 pre st K Q env ρ a w hb hp hl hc hK hs) hK 70 st env ρ a w hp hc hs
   · rename_i id s hfind
     obtain ⟨st1, env1, ρ1, hc1, hs1, he1, hr1⟩ := nilFix_sound ho _ _ _ _ hc hs
     split at hs1
     · exact hs1.elim
     · rename_i hcond
       simp only [Bool.or_eq_true, Bool.not_eq_true', decide_eq_true_eq, not_or, Bool.not_eq_false, Nat.not_lt] at hcond
       split at hs1
       · rename_i β hfit
         have hne1 : st.ne ≤ st1.ne := by rw [← hc.ne, ← hc1.ne]; exact he1.length_le
         obtain ⟨ρ2, hc2, hsame, hβl⟩ := fit_sound hfit hne1 (by rw [headOf_ne]; omega) hc1
         rw [headOf_ne] at hβl
         simp only [Tree.sat] at hs1
         split at hs1
         · rename_i s' hid
           obtain ⟨hinv, hbody⟩ := hs1
           have hss : s = s' := by
            obtain ⟨j, e1, e2⟩ := findLoop_spec _ _ hfind
            rw [Nat.zero_add] at e1
            subst e1
            rw [hid] at e2
            injection e2 with e2
            exact e2.symm
           have htake : env1.take st.ne = env := by
            obtain ⟨r, rfl⟩ := he1
            rw [← hc.ne]
            simp
           refine wpIn_loop_g (G := List (EV U) × List Value) (fun g a w => ∃ fr, g.1 = env ++ fr ∧ fr.length = s'.nv ∧ s'.inv (env ++ fr) ∧ Conc X.objs w0 F g.1 g.2 (headOf s (writes c) st) a as w ∧ pre.2 <+: g.2) (fun g => s'.mu g.1) (env ++ β.map (Bnd.den env1), ρ2)
            ⟨_, rfl, ?_, by rw [← htake]; exact hinv, by rw [← htake]; exact hc2, prefix_names (hp.2.trans hr1) hl hsame⟩ ?_
           · rw [List.length_map, hβl, hss]; omega
           · rintro ⟨env3, ρ3⟩ a3 w3 ⟨fr, rfl, hfl, hinv3, hc3, hpn⟩
             have hsb := hbody fr hfl (by rw [htake]; exact hinv3)
             rw [htake] at hsb
             refine wpIn_mono (ih base rnd hrnd ro rd hrd as h0 (env ++ fr, pre.2) _ _ (fun ex a' w' => match ex with
              | .normal => ∃ g' : List (EV U) × List Value, (∃ fr, g'.1 = env ++ fr ∧ fr.length = s'.nv ∧ s'.inv (env ++ fr) ∧ Conc X.objs w0 F g'.1 g'.2 (headOf s (writes c) st) a' as w' ∧ pre.2 <+: g'.2) ∧ s'.mu g'.1 < s'.mu (env ++ fr)
              | e => Q e a' w') (env ++ fr) ρ3 a3 w3 ⟨hb.1.trans (hp.1.trans (List.prefix_append _ _)), hb.2⟩ ⟨List.prefix_refl _, hpn⟩ hl hc3 ?_ hsb) ?_
             · intro ex st' env' ρ' a' w' hp' hc' hs'
               have hpre' : Pfx pre env' ρ' := ⟨(hp.1.trans (List.prefix_append _ _)).trans hp'.1, hp'.2⟩
               cases ex with
               | normal =>
                 dsimp only at hs' ⊢
                 obtain ⟨st4, env4, ρ4, hc4, hs4, he4, hr4⟩ := nilFix_sound ho _ _ _ _ hc' hs'
                 split at hs4
                 · rename_i β' hfit'
                   have hne4 : st.ne ≤ st4.ne := by
                    have h1 := (hp'.1.trans he4).length_le
                    have := hc.ne; have := hc4.ne
                    simp at h1; omega
                   obtain ⟨ρ5, hc5, hsame5, hβl5⟩ := fit_sound hfit' hne4 (by rw [headOf_ne]; omega) hc4
                   simp only [Tree.sat, hid] at hs4
                   have ht4 : env4.take st.ne = env := by
                    obtain ⟨r, rfl⟩ := (hp'.1.trans he4)
                    rw [← hc.ne, List.append_assoc]
                    simp
                   have ht5 : env4.take (st.ne + s'.nv) = env ++ fr := by
                    obtain ⟨r, rfl⟩ := (hp'.1.trans he4)
                    rw [← hc.ne, ← hfl, ← List.length_append, List.take_left]
                   rw [ht4, ht5] at hs4
                   rw [ht4] at hc5
                   exact ⟨(env ++ β'.map (Bnd.den env4), ρ5), ⟨_, rfl, by rw [headOf_ne] at hβl5; rw [List.length_map, hβl5, hss]; omega, hs4.1, hc5, prefix_names (hp'.2.trans hr4) hl hsame5⟩, hs4.2⟩
                 · exact hs4.elim
               | exit i => exact hK _ _ _ _ _ _ hpre' hc' hs'
               | ret => exact hK _ _ _ _ _ _ hpre' hc' hs'
             · intro e a' w' h
               cases e <;> first | exact h | exact h.elim
         · exact hs1.elim
       · exact iterC_sound _ (fun st K Q env ρ a w hp hc hK hs => ih base rnd hrnd ro rd hrd as h0 pre st K Q env ρ a w hb hp hl hc hK hs) hK 2 st1 env1 ρ1 a w ⟨hp.1.trans he1, hp.2.trans hr1⟩ hc1 hs1
 | exit id => intro base rnd hrnd ro rd hrd as h0 pre st K Q env ρ a w hb hp hl hc hK hs; exact wpIn_exit (hK _ _ _ _ _ _ hp hc hs)
 | ret => intro base rnd hrnd ro rd hrd as h0 pre st K Q env ρ a w hb hp hl hc hK hs; exact wpIn_ret (hK _ _ _ _ _ _ hp hc hs)
 | scope c ih =>
   intro base rnd hrnd ro rd hrd as h0 pre st K Q env ρ a w hb hp hl hc hK hs
   simp only [runCode] at hs
   refine wpIn_scope_straight (wpIn_mono (ih base rnd hrnd ro rd hrd as h0 pre st K Q env ρ a w hb hp hl hc hK hs) ?_)
   intro e a' w' h
   cases e <;> first | exact h | exact h.elim
 | rangeFunc g ps x y ihx ihy =>
   intro base rnd hrnd ro rd hrd as h0 pre st K Q env ρ a w hb hp hl hc hK hs
   exact range_sound ho hinl hrnd hrd ihx ihy hb hp hc hK hs
 | goto l => intro base rnd hrnd ro rd hrd as h0 pre st K Q env ρ a w hb hp hl hc hK hs; exact hs.elim
 | refuse s => intro base rnd hrnd ro rd hrd as h0 pre st K Q env ρ a w hb hp hl hc hK hs; exact hs.elim
def resF (tmps : Array Value) (r : ResultVar) : Sem Value :=
 match r with
 | .tmp t => pure (tmps.getD t undef)
 | .cell a t => do loadVar t (← asAddr (tmps.getD a undef))
theorem results_eq (fn : Func) (tmps : Array Value) : results fn tmps = (do let vs ← fn.results.mapM (resF tmps); pure (if h : vs.size = 1 then vs[0] else .tuple vs)) := rfl
theorem resS_sound {env : List (EV U)} {ρ : List Value} {hp : List HE} {tm : Tm} {tmps : Array Value} {w : World} (ht : TmRel env ρ tm tmps) (hr : Reads env ρ hp w) : ∀ (rs : List ResultVar) (l : List SV), resS X.P hp tm rs = some l →
 ∃ cs : List Value, DenL env ρ l cs ∧ (rs.mapM (resF tmps)).run X.P w = .ok cs w
 | [], l, h => by
   simp only [resS, Option.some.injEq] at h
   subst h
   exact ⟨[], DenL.nil, by simp⟩
 | .tmp t :: rs, l, h => by
   simp only [resS] at h
   split at h
   · rename_i hsure
     simp only [Option.map_eq_some_iff] at h
     obtain ⟨l', hl', rfl⟩ := h
     obtain ⟨cs, h1, h2⟩ := resS_sound ht hr rs l' hl'
     exact ⟨_ :: cs, DenL.cons ((ht.2 t).den (sure_ne hsure)) h1, by simp [h2, resF]⟩
   · cases h
 | .cell a t :: rs, l, h => by
   simp only [resS] at h
   split at h
   · rename_i v hload
     split at h
     · rename_i hsure
       simp only [Option.map_eq_some_iff] at h
       obtain ⟨l', hl', rfl⟩ := h
       obtain ⟨cs, h1, h2⟩ := resS_sound ht hr rs l' hl'
       obtain ⟨c, ad, e1, e2, e3⟩ := loadS_sound (W := fun w' => w' = w) hload (ht.2 a) (fun w' h => by rw [h]; exact hr) rfl (by simp)
       refine ⟨c :: cs, DenL.cons (e1.den (sure_ne hsure)) h1, ?_⟩
       have e4 : (resF tmps (.cell a t)).run X.P w = .ok c w := by
        simp only [resF, e2, asAddr, Sem.run_bind, Sem.run_pure, Result.andThen_ok, e3 w rfl]
       simp [e4, h2]
     · cases h
   · cases h
theorem resV_sound {env : List (EV U)} {ρ : List Value} {l : List SV} {cs : List Value} (h : DenL env ρ l cs) : Den env ρ (resV l) (if h : cs.toArray.size = 1 then cs.toArray[0] else .tuple cs.toArray) := by
 have hl := h.len
 unfold resV
 split
 · rename_i v
   obtain ⟨c, ds, rfl, h1, h2⟩ := h.uncons
   have : ds = [] := by simpa using hl
   subst this
   simpa using h1
 · rename_i hne
   have : ¬ cs.toArray.size = 1 := by
    intro e
    simp at e
    rw [← hl] at e
    obtain ⟨v, rfl⟩ := List.length_eq_one_iff.1 e
    exact hne v rfl
   rw [dif_neg this]
   exact tuple_den h
theorem ofList_rel {env : List (EV U)} {ρ : List Value} {args : List SV} {vals : List Value} {n : Nat} (ha : ArgsRel env ρ args vals) :
 TmRel env ρ (Tm.ofList args n) (vals.toArray ++ Array.replicate (n - vals.toArray.size) undef) := by
 refine ⟨by have := ha.1; simp [Tm.ofList]; omega, fun i => ?_⟩
 have h := Tr.get_mk (fun i => args.getD i .junk) (args.length + (n - args.length)) 12 1 0 i
 simp only [Nat.one_mul, Nat.add_zero] at h
 simp only [Tm.getD, Tm.ofList]
 rcases h with h | h
 · rw [h]
   by_cases hi : i < args.length
   · have := ha.2 i
     have hi2 : i < vals.length := by rw [← ha.1]; exact hi
     simp only [List.getD, Array.getD_eq_getD_getElem?] at this ⊢
     rw [Array.getElem?_append_left (by simpa using hi2)]
     simpa using this
   · simp only [List.getD, List.getElem?_eq_none (Nat.le_of_not_lt hi)]
     exact .inl rfl
 · rw [h]; exact .inl rfl
theorem leaves_marks {objs : List (ObjT U)} {env : List (EV U)} {ρ : List Value} {P : Program} {fn : Func} {tmps : Array Value} {R : Ending → World → Prop} : ∀ (mks : List Nat) (hp hp1 : List HE) {w : World}, unMark hp mks = some hp1 → Sat objs w0 F env ρ hp w →
 (∀ w1, Sat objs w0 F env ρ hp1 w1 → LeavesInM (fR none) 0 P fn tmps R [] .returning w1) → LeavesInM (fR none) 0 P fn tmps R (mks.map (markOf ρ)) .returning w
 | [], hp, hp1, w, h, hs, hk => by
   simp only [unMark, Option.some.injEq] at h
   subst h
   exact hk w hs
 | m :: ms, hp, hp1, w, h, hs, hk => by
   simp only [unMark] at h
   split at h
   · rename_i i hm
     obtain ⟨S, hS⟩ := hs.own
     obtain ⟨b, L, e1, e2, e3, e4⟩ := hS.holds m _ hm
     refine ⟨by simp, .inl ⟨b, w.putObj b (.deferred none), by simp [markOf, e1, addrOf], run_takeDeferred e3, leaves_marks ms _ _ h (hs.freeSys _ hm e1) hk⟩⟩
   · cases h
mutual
theorem SV.den_below {env : List (EV U)} {n : Nat} {ρ1 ρ2 : List Value} (hρ : ∀ m, m < n → hv ρ1 m = hv ρ2 m) : ∀ v : SV, v.under n = true → v.den env ρ1 = v.den env ρ2
 | .int _ _, _ => rfl
 | .bool _, _ => rfl
 | .nilp, _ => rfl
 | .ptr m _, h => by simp only [SV.den]; rw [hρ m (blt_true h)]
 | .ptrx m _ _ _, h => by simp only [SV.den]; rw [hρ m (blt_true h)]
 | .hnd m, h => by simp only [SV.den]; exact hρ m (blt_true h)
 | .nils, _ => rfl
 | .slice m _ _, h => by simp only [SV.den]; rw [hρ m (blt_true h)]
 | .slicx m _ _ _, h => by simp only [SV.den]; rw [hρ m (blt_true h)]
 | .func _ a b, h => by
   simp only [SV.under] at h
   split at h
   · rename_i h1
     simp only [SV.den]
     rw [SV.denL_below hρ a h1, SV.denL_below hρ b h]
   · cases h
 | .nilf, _ => rfl
 | .agg l, h => by simp only [SV.den]; rw [SV.denL_below hρ l h]
 | .tuple l, h => by simp only [SV.den]; rw [SV.denL_below hρ l h]
 | .iface _ l, h => by simp only [SV.den]; rw [SV.denL_below hρ l h]
 | .rowv _ _, _ => rfl
 | .yld m, h => by simp only [SV.den]; rw [hρ m (blt_true h)]
 | .mapv m, h => by simp only [SV.den]; rw [hρ m (blt_true h)]
 | .str _, _ => rfl
 | .junk, _ => rfl
theorem SV.denL_below {env : List (EV U)} {n : Nat} {ρ1 ρ2 : List Value} (hρ : ∀ m, m < n → hv ρ1 m = hv ρ2 m) : ∀ l : List SV, SV.underL n l = true → SV.denL env ρ1 l = SV.denL env ρ2 l
 | [], _ => rfl
 | v :: l, h => by
   simp only [SV.underL] at h
   split at h
   · rename_i h1
     simp only [SV.denL]
     rw [SV.den_below hρ v h1, SV.denL_below hρ l h]
   · cases h
end
theorem hv_below {ρ ρ' : List Value} {n : Nat} (hp : ρ <+: ρ') (hl : ρ.length = n) (xs ys : List Value) : ∀ m, m < n → hv (ρ ++ xs) m = hv (ρ' ++ ys) m := by
 intro m hm
 obtain ⟨r, rfl⟩ := hp
 rw [hv_app (by omega), List.append_assoc, hv_app (by omega)]
theorem belowL_all {n : Nat} : ∀ {l : List SV}, SV.underL n l = true → ∀ v ∈ l, v.under n = true
 | [], _, v, hv => by simp at hv
 | x :: l, h, v, hv => by
   simp only [SV.underL] at h
   split at h
   · rename_i h1
     rcases List.mem_cons.1 hv with rfl | hv
     · exact h1
     · exact belowL_all h v hv
   · cases h
theorem DenL.below {env : List (EV U)} {ρ ρ' : List Value} {n : Nat} {l : List SV} {cs : List Value} (h : DenL env ρ' l cs) (hb : SV.underL n l = true) (hp : ρ <+: ρ') (hl : ρ.length = n) : DenL env ρ l cs := by
 refine ⟨fun xs ys => ?_, h.2⟩
 rw [← h.1 xs []]
 apply List.map_congr_left
 intro v hv
 exact SV.den_below (hv_below hp hl ys []) v (belowL_all hb v hv)
theorem belowHp_spec {h0 : Nat} : ∀ {n : Nat} {hp : List HE}, belowHp h0 n hp = true → ∀ (j : Nat) vs ty, j < n → hp[j]? = some (.cells vs ty) → SV.underL h0 vs = true
 | 0, _, _, j, _, _, hj, _ => by omega
 | n + 1, [], _, j, _, _, _, h => by simp at h
 | n + 1, x :: l, h, j, vs, ty, hj, hx => by
   cases j with
   | zero =>
     simp only [List.getElem?_cons_zero, Option.some.injEq] at hx
     subst hx
     simp only [belowHp] at h
     split at h
     · assumption
     · cases h
   | succ j =>
     refine belowHp_spec (n := n) (hp := l) ?_ j vs ty (by omega) (by simpa using hx)
     cases x <;> simp only [belowHp] at h <;> first | exact h | (cases h; done) | skip
     split at h
     · exact h
     · cases h
theorem belowHp_kc {h0 : Nat} : ∀ {n : Nat} {hp : List HE}, belowHp h0 n hp = true → ∀ (j : Nat) {vs ty sz i}, j < n → hp[j]? = some (.kc vs ty sz i) → False
 | 0, _, _, j, _, _, _, _, hj, _ => by omega
 | n + 1, [], _, j, _, _, _, _, _, h => by simp at h
 | n + 1, x :: l, h, j, vs, ty, sz, i, hj, hx => by
   cases j with
   | zero =>
     simp only [List.getElem?_cons_zero, Option.some.injEq] at hx
     subst hx
     simp [belowHp] at h
   | succ j =>
     refine belowHp_kc (h0 := h0) (n := n) (hp := l) ?_ j (by omega) (by simpa using hx)
     cases x <;> simp only [belowHp] at h <;> first | exact h | (cases h; done) | skip
     split at h
     · exact h
     · cases h
theorem Sat.below {objs : List (ObjT U)} {env : List (EV U)} {ρ ρ' : List Value} {hp : List HE} {w : World} (h : Sat objs w0 F env ρ' hp w) (hρ : ρ <+: ρ') (hb : belowHp ρ.length ρ.length hp = true) : Sat objs w0 F env ρ (hp.take ρ.length) w := by
 obtain ⟨S, hS⟩ := h.own
 have hle := hρ.length_le
 have hll := h.len
 refine ⟨by simp; omega, ⟨fun n x => n < ρ.length ∧ S n x, ⟨fun n t ht => ?_, fun n m x hn hm => hS.disj n m x hn.2 hm.2, fun n x hn => ?_⟩⟩, h.frame⟩
 · have hn : n < ρ.length := by
    have := (List.getElem?_eq_some_iff.1 ht).1
    simp at this
    omega
   rw [List.getElem?_take, if_pos hn] at ht
   have h1 := hS.holds n t ht
   have e : hv ρ' n = hv ρ n := by have := hv_below hρ rfl [] [] n hn; simpa using this.symm
   rw [e] at h1
   have hfun : (fun x => n < ρ.length ∧ S n x) = S n := by funext x; exact propext ⟨fun h => h.2, fun h => ⟨hn, h⟩⟩
   rw [hfun]
   cases t with
   | cells vs ty =>
     obtain ⟨b, cs, e1, e2, e3, e4⟩ := h1
     exact ⟨b, cs, e1, e2.below (belowHp_spec hb n vs ty hn ht) hρ rfl, e3, e4⟩
   | abs i => exact h1
   | row k ty i => exact h1
   | ro ks i => exact h1
   | sys i j => exact h1
   | gone => trivial
   | sp k ty len xs => exact h1
   | mp i => exact h1
   | kn k ty xs i => exact h1
   | kc vs ty sz i => exact (belowHp_kc hb n hn ht).elim
   | rb ty i => exact h1
 · have := hS.dom n x hn.2
   exact ⟨by simp; omega, this.2⟩
def InlDOk (X : Cx U) (R : List (EV U) → List (EV U) → Prop) (w0 : World) (F : Nat → Prop) (base : List (EV U) × List Value) (inl : FuncId → List SV → St → (SV → St → Tree) → Tree) : Prop :=
 ∀ (pre : List (EV U) × List Value) g args st K env ρ a as w vals (N : Value → World → Prop), Pfx base pre.1 pre.2 → Pfx pre env ρ → Conc X.objs w0 F env ρ st a as w → ArgsRel env ρ args vals →
   (∀ v st' env' ρ' c w', Pfx pre env' ρ' → Conc X.objs w0 F env' ρ' st' a as w' → Rel env' ρ' v c → (K v st').sat X R env' → N c w') → (inl g args st K).sat X R env →
   Callable X.P g ∧ ∀ u, CallsDIn (fR none) 0 X.P g vals.toArray u w fun e u' w' => u' = u ∧ ∃ c, e = .returned c ∧ N c w'
theorem noRnd_ok {base : List (EV U) × List Value} : RndOk X R w0 F base noRnd := by
 intro pre n args st K env ρ a as w vals N hb hp hc ha hK hs
 exact hs.elim
theorem leaves_dfs {run : FuncId → List SV → St → (SV → St → Tree) → Tree} {base pre : List (EV U) × List Value} {a0 : Act} {as : List Act} {fn : Func} {K : St → Tree} {Z : Ending → World → Prop} (hbase : Pfx base pre.1 pre.2) (hrun : InlDOk X R w0 F base run) :
 ∀ (m : Nat) (st : St) (env : List (EV U)) (ρ : List Value) (a : Act) (w : World), Pfx pre env ρ →
   (∀ st' env' ρ' w', Pfx (env, ρ) env' ρ' → Conc X.objs w0 F env' ρ' st' { a with defers := st'.tm.mks.map (markOf ρ') } (a0 :: as) w' → (K st').sat X R env' → LeavesInM (fR none) 0 X.P fn a.tmps Z (st'.tm.mks.map (markOf ρ')) .returning w') →
   Conc X.objs w0 F env ρ st a (a0 :: as) w → (runDfs run m st K).sat X R env → LeavesInM (fR none) 0 X.P fn a.tmps Z a.defers .returning w := by
 have done : ∀ (st : St) (env : List (EV U)) (ρ : List Value) (a : Act) (w : World),
  (∀ st' env' ρ' w', Pfx (env, ρ) env' ρ' → Conc X.objs w0 F env' ρ' st' { a with defers := st'.tm.mks.map (markOf ρ') } (a0 :: as) w' → (K st').sat X R env' → LeavesInM (fR none) 0 X.P fn a.tmps Z (st'.tm.mks.map (markOf ρ')) .returning w') →
  Conc X.objs w0 F env ρ st a (a0 :: as) w → st.tm.dfs = [] → (K st).sat X R env → LeavesInM (fR none) 0 X.P fn a.tmps Z a.defers .returning w := by
  intro st env ρ a w hk hc hd hs
  have e := hc.tm.plain hd
  rw [e]
  refine hk st env ρ w ⟨List.prefix_refl _, List.prefix_refl _⟩ ?_ hs
  rw [← e]
  exact hc
 intro m
 induction m with
 | zero =>
   intro st env ρ a w hp hk hc hs
   unfold runDfs at hs
   split at hs
   · rename_i hd; exact done st env ρ a w hk hc hd hs
   · exact hs.elim
 | succ m ih =>
   intro st env ρ a w hp hk hc hs
   unfold runDfs at hs
   split at hs
   · rename_i hd; exact done st env ρ a w hk hc hd hs
   · rename_i g as' l hd
     obtain ⟨ds, e, hds⟩ := hc.tm.2.1
     rw [hd] at hds
     cases ds with
     | nil => exact hds.elim
     | cons d ds =>
       obtain ⟨⟨cap, ht, hden⟩, hrest⟩ := hds
       rw [e, List.cons_append]
       have hc2 : Conc X.objs w0 F env ρ { st with tm := { st.tm with dfs := l } } { a with defers := ds ++ st.tm.mks.map (markOf ρ) } (a0 :: as) w :=
        ⟨hc.ne, hc.pc, ⟨hc.tm.1, ⟨ds, rfl, hrest⟩, hc.tm.2.2⟩, hc.stk, hc.sat⟩
       obtain ⟨⟨fn', body, hfn, hbody, hname⟩, hcalls⟩ := hrun (env, ρ) g as' _ _ env ρ { a with defers := ds ++ st.tm.mks.map (markOf ρ) } (a0 :: as) w (d.args ++ cap).toList (fun _ w' => LeavesInM (fR none) 0 X.P fn a.tmps Z (ds ++ st.tm.mks.map (markOf ρ)) .returning w') (hbase.trans hp) ⟨List.prefix_refl _, List.prefix_refl _⟩ hc2 (ArgsRel.of_den hden)
        (fun v st' env' ρ' c w' hp' hc' _ hs' => ih st' env' ρ' { a with defers := ds ++ st.tm.mks.map (markOf ρ) } w' (hp.trans hp') (fun st2 env2 ρ2 w2 hpf hc2 hs2 => hk st2 env2 ρ2 w2 (hp'.trans hpf) hc2 hs2) hc' hs') hs
       refine ⟨by simp, .inr ⟨fun h => (by cases h), .func g, cap, g, (d.args ++ cap), ht, ?_, fun _ _ => trivial, ?_⟩⟩
       · rw [ht]
         simp only [invoke]
         exact Go.MuLone.run_callFunc_enter hfn hname hbody (d.args ++ cap) w
       · refine CallsDIn.mono (hcalls .returning) ?_
         rintro e u' w' ⟨rfl, c, rfl, hN⟩
         exact hN
theorem runFn_sound (ho : ObjsOk X.objs) (hmix : X.P.follows .mixedOrders = true) (hcts : ∀ (ci : Nat) (c : Ctr U), X.cts[ci]? = some c → c.Holds X.objs X.P) : ∀ n, (∀ base rnd, RndOk X R w0 F base rnd → InlOk X R w0 F base (runFn X n false rnd)) ∧ ∀ base, InlDOk X R w0 F base (runFn X n true noRnd) := by
 intro n
 induction n with
 | zero => exact ⟨fun base rnd hrnd pre g args st K env ρ a as w vals N hbase hp hc ha hK hs => hs.elim, fun base pre g args st K env ρ a as w vals N hbase hp hc ha hK hs => hs.elim⟩
 | succ n ih0 =>
   have hinl : ∀ base rnd, RndOk X R w0 F base rnd → InlOk X R w0 F base ((fun rnd g as st K => nilFix X (wantNils st.hp g as X.cts) st fun st => toRows X.P (wantRows X.cts g as) st fun st => match tryCtrs g as st K 0 X.cts with | some t => t | none => runFn X n false rnd g as st K : Rnd → FuncId → List SV → St → (SV → St → Tree) → Tree) rnd) := by
    intro base rnd hrnd
    have ih := ih0.1 base rnd hrnd
    intro pre g args st00 K env00 ρ00 a as w vals N hbase hp00 hc00 ha00 hK hs00
    obtain ⟨st, env, ρ, hc, hs, ⟨o1, he0⟩, ⟨o2, hr0⟩⟩ := nilFix_sound ho _ _ _ _ hc00 hs00
    have hp : Pfx pre env ρ := ⟨hp00.1.trans ⟨o1, he0⟩, hp00.2.trans ⟨o2, hr0⟩⟩
    have ha : ArgsRel env ρ args vals := by
     subst he0 hr0
     exact ⟨ha00.1, fun i => (ha00.2 i).ext o1 o2⟩
    clear ha00 hp00 hc00 hs00 he0 hr0
    obtain ⟨st2, o, hc2, hs2⟩ := toRows_sound _ _ _ hc hs
    have main : ∀ st (env : List (EV U)), Pfx pre env ρ → Conc X.objs w0 F env ρ st a as w → ArgsRel env ρ args vals → (match tryCtrs g args st K 0 X.cts with | some t => t | none => runFn X n false rnd g args st K).sat X R env →
     Callable X.P g ∧ Calls X.P g vals.toArray w fun e w' => ∃ c, e = .returned c ∧ N c w' := by
     clear hs hc ha hp hs2 hc2
     intro st env hp hc ha hs
     split at hs
     · rename_i T hT
       have key : ∀ (cs : List (Ctr U)) (i : Nat), (∀ j, cs[j]? = X.cts[i + j]?) → tryCtrs g args st K i cs = some T → ∃ ci c, X.cts[ci]? = some c ∧ c.fn = g ∧ tryCtr c ci args st K = some T := by
        intro cs
        induction cs with
        | nil => intro i _ h; simp [tryCtrs] at h
        | cons c cs ihc =>
          intro i hcs h
          have hrest := ihc (i + 1) (fun j => by have := hcs (j + 1); simp at this; rw [this]; congr 1; omega)
          simp only [tryCtrs] at h
          split at h
          · rename_i hfn
            split at h
            · rename_i t ht
              injection h with h
              subst h
              exact ⟨i, c, by have := hcs 0; simpa using this.symm, hfn, ht⟩
            · exact hrest h
          · exact hrest h
       obtain ⟨ci, c, h1, rfl, h2⟩ := key X.cts 0 (fun j => by simp) hT
       exact tryCtr_sound h1 (hcts ci c h1) h2 hp hc ha hK hs
     · exact ih pre g args st K env ρ a as w vals N hbase hp hc ha hK hs
    exact main st2 _ (hp.env o) hc2 ⟨ha.1, fun i => by simpa using (ha.2 i).ext o []⟩ hs2
   have body : ∀ (base : List (EV U) × List Value) (rnd : Rnd) (df : Bool), RndOk X R w0 F base rnd → ∀ (pre : List (EV U) × List Value) (g : FuncId) (args : List SV) (st : St) (K : SV → St → Tree) (env : List (EV U)) (ρ : List Value) (a : Act) (as : List Act) (w : World) (vals : List Value), Pfx base pre.1 pre.2 → Pfx pre env ρ → Conc X.objs w0 F env ρ st a as w → ArgsRel env ρ args vals → (runFn X (n + 1) df rnd g args st K).sat X R env →
    ∃ fn c, X.P.funcs[g]? = some fn ∧ fn.body = some c ∧ (fn.name == "runtime.NumGoroutine") = false ∧ ∀ (Z : Act → World → Prop),
      (∀ st' env' ρ' a' w', Pfx (env, ρ) env' ρ' → Conc X.objs w0 F env' ρ' st' a' (a :: as) w' → (match df with
        | true =>
          match st'.tm.mks, st'.tm.dfs, st'.stk with
          | [], [], tm0 :: stk0 =>
            match resS X.P st'.hp st'.tm fn.results.toList with
            | some l => K (resV l) { st' with tm := tm0, stk := stk0 }
            | none => Tree.fail "results"
          | _, _, _ => Tree.fail "deferred"
        | false => runDfs (fun g as st K => runFn X n true noRnd g as st K) 3 st' fun st' =>
          match st'.stk with
          | tm0 :: stk0 =>
            match unMark st'.hp st'.tm.mks with
            | some hp1 =>
              match resS X.P hp1 st'.tm fn.results.toList with
              | some l =>
                match dropOk X.join st.hp.length hp1 l with
                | true => K (resV l) { st' with tm := st.tm, stk := st.stk, hp := hp1.take st.hp.length }
                | false => K (resV l) { st' with tm := tm0, stk := stk0, hp := hp1 }
              | none => Tree.fail "results"
            | none => Tree.fail "marks"
          | [] => Tree.fail "stack").sat X R env' → Z a' w') →
      c.wpIn (fR none) 0 X.P (lift fun ex a' w' => (∀ i, ex ≠ .exit i) ∧ Z a' w') { tmps := vals.toArray ++ Array.replicate (fn.ntmps - vals.toArray.size) undef, defers := [] } w := by
    intro base rnd df hrnd pre g args st K env ρ a as w vals hbase hp hc ha hs
    simp only [runFn, St.forceAt_eq] at hs
    split at hs
    · rename_i fn hfn
      split at hs
      · rename_i c hb
        split at hs
        · exact hs.elim
        · rename_i hname
          refine ⟨fn, c, hfn, hb, by simpa using hname, fun Z hZ => ?_⟩
          have hc2 : Conc X.objs w0 F env ρ { st with tm := Tm.ofList args fn.ntmps, stk := st.tm :: st.stk } { tmps := vals.toArray ++ Array.replicate (fn.ntmps - vals.toArray.size) undef, defers := [] } (a :: as) w :=
           ⟨hc.ne, hc.pc, .of (ofList_rel ha) rfl (by simp [Tm.ofList]) rfl, .cons hc.tm hc.stk, hc.sat⟩
          refine runCode_sound ho hinl hmix g c base rnd hrnd none false (fun _ => rfl) (a :: as) st.hp.length (env, ρ) _ _ _ env ρ _ w (hbase.trans hp) ⟨List.prefix_refl _, List.prefix_refl _⟩ ?_ hc2 ?_ hs
          · rw [← hc.sat.len]; exact Nat.le_refl _
          · intro ex st' env' ρ' a' w' hp'' hc' hs'
            have hne : ∀ i, ex ≠ .exit i := by
             intro i e
             subst e
             exact hs'.elim
            refine ⟨hne, hZ st' env' ρ' a' w' hp'' hc' ?_⟩
            cases ex with
            | exit i => exact absurd rfl (hne i)
            | normal => exact hs'
            | ret => exact hs'
      · exact hs.elim
    · exact hs.elim
   refine ⟨?_, ?_⟩
   · intro base rnd hrnd pre g args st K env ρ a as w vals N hbase hp hc ha hK hs
     obtain ⟨fn, c, hfn, hb, hname, hbody⟩ := body base rnd false hrnd pre g args st K env ρ a as w vals hbase hp hc ha hs
     refine ⟨⟨fn, c, hfn, hb, hname⟩, ?_⟩
     refine callsR' (ro := none) (n := 0) (callsIn_of_wp_marks (F := fR none) hfn hb trivial ?_)
     refine wpIn_mono (hbody (fun a' w' => LeavesInM (fR none) 0 X.P fn a'.tmps (fun e w' => ∃ c, e = .returned c ∧ N c w') a'.defers .returning w') ?_) ?_
     · intro st' env' ρ' a' w' hp'' hc' hs'
       dsimp only at hs'
       refine leaves_dfs (X := X) (R := R) (F := F) (w0 := w0) (run := fun g as st K => runFn X n true noRnd g as st K) (base := base) (pre := pre) (a0 := a) (as := as) (fn := fn) hbase ?_ 3 st' env' ρ' a' w' (hp.trans hp'') (fun st4 env4 ρ4 w4 hpf4 hc4 hs4 => ?_) hc' hs'
       · exact ih0.2 base
       · have hp' : Pfx pre env4 ρ4 := hp.trans (hp''.trans hpf4)
         have hp5 : Pfx (env, ρ) env4 ρ4 := hp''.trans hpf4
         have hstk := hc4.stk
         obtain ⟨tm0, stk0, hst, h1, h2⟩ : ∃ tm0 stk0, st4.stk = tm0 :: stk0 ∧ TmOk env4 ρ4 tm0 a ∧ Stk env4 ρ4 stk0 as := by
          generalize st4.stk = l at hstk
          cases hstk with
          | cons h1 h2 => exact ⟨_, _, rfl, h1, h2⟩
         rw [hst] at hs4
         dsimp only at hs4
         split at hs4
         rotate_left
         · exact hs4.elim
         rename_i hp1 hmks
         refine leaves_marks _ _ _ hmks hc4.sat fun w1 hsat1 => ?_
         split at hs4
         · rename_i l hl
           obtain ⟨cs, e1, e2⟩ := resS_sound (X := X) hc4.tm.1 (hsat1.reads ho) _ _ hl
           have hd := resV_sound e1
           refine ⟨_, ?_, _, rfl, (by
            split at hs4
            · rename_i hdrop
              unfold dropOk at hdrop
              split at hdrop
              · split at hdrop
                · rename_i hbl
                  have hlen : ρ.length = st.hp.length := hc.sat.len
                  have hb2 : belowHp ρ.length ρ.length hp1 = true := by rw [hlen]; exact hdrop
                  have hsat2 := hsat1.below hp5.2 hb2
                  rw [hlen] at hsat2
                  obtain ⟨o, ho'⟩ := hp5.1
                  subst ho'
                  have e1' := e1.below hbl hp5.2 hlen
                  exact hK _ { st4 with tm := st.tm, stk := st.stk, hp := hp1.take st.hp.length } _ ρ _ w1 (hp.env o) ⟨hc4.ne, hc4.pc, by simpa using hc.tm.ext o [], by simpa using hc.stk.ext o [], hsat2⟩ (.inr (resV_sound e1')) hs4
                · cases hdrop
              · cases hdrop
            · exact hK _ { st4 with tm := tm0, stk := stk0, hp := hp1 } env4 ρ4 _ w1 hp' ⟨hc4.ne, hc4.pc, h1, h2, hsat1⟩ (.inr hd) hs4)⟩
           rw [results_eq, Sem.run_bind, Array.mapM_eq_mapM_toList]
           simp only [Sem.run_map, e2, Result.andThen_ok, Sem.run_pure]
         · exact hs4.elim
     · intro e a' w' h
       cases e with
       | normal => exact h.2
       | ret => exact h.2
       | exit i => exact (h.1 i rfl).elim
       | goto l => exact h.elim
       | panic c => exact h.elim
       | outgrown => exact h.elim
   · intro base pre g args st K env ρ a as w vals N hbase hp hc ha hK hs
     obtain ⟨fn, c, hfn, hb, hname, hbody⟩ := body base noRnd true noRnd_ok pre g args st K env ρ a as w vals hbase hp hc ha hs
     refine ⟨⟨fn, c, hfn, hb, hname⟩, fun u => ?_⟩
     refine callsDIn_of_wp (F := fR none) (R := fun e w' => ∃ c, e = .returned c ∧ N c w') hfn hb trivial ?_
     refine wpIn_mono (hbody (fun a' w' => a'.defers = [] ∧ ∃ v, (results fn a'.tmps).run X.P w' = .ok v w' ∧ ∃ c, Ending.returned v = .returned c ∧ N c w') ?_) ?_
     · intro st' env' ρ' a' w' hp'' hc' hs'
       dsimp only at hs'
       split at hs'
       rotate_left
       · exact hs'.elim
       rename_i tm0 stk0 hm hdf hst
       have hstk := hc'.stk
       rw [hst] at hstk
       cases hstk with
       | cons h1 h2 =>
         refine ⟨by rw [hc'.tm.plain hdf, hm]; rfl, ?_⟩
         split at hs'
         · rename_i l hl
           obtain ⟨cs, e1, e2⟩ := resS_sound (X := X) hc'.tm.1 (hc'.sat.reads ho) _ _ hl
           refine ⟨_, ?_, _, rfl, hK _ { st' with tm := tm0, stk := stk0 } env' ρ' _ w' (hp.trans hp'') ⟨hc'.ne, hc'.pc, h1, h2, hc'.sat⟩ (.inr (resV_sound e1)) hs'⟩
           rw [results_eq, Sem.run_bind, Array.mapM_eq_mapM_toList]
           simp only [Sem.run_map, e2, Result.andThen_ok, Sem.run_pure]
         · exact hs'.elim
     · intro e a' w' h
       cases e with
       | normal => exact h.2
       | ret => exact h.2
       | exit i => exact (h.1 i rfl).elim
       | goto l => exact h.elim
       | panic c => exact h.elim
       | outgrown => exact h.elim
end
section
variable {U : Type} [Nil U] {X : Cx U} {R : List (EV U) → List (EV U) → Prop} {w0 : World} {F : Nat → Prop} {env : List (EV U)} {ρ : List Value} {w : World} {st : St} {a : Act} {as : List Act}
structure Alike (env : List (EV U)) (ρ : List Value) (g : SV → SV) : Prop where
 den : ∀ v xs ys, (g v).den (env ++ xs) (ρ ++ ys) = v.den (env ++ xs) (ρ ++ ys)
 stab : ∀ v, v.stab env → (g v).stab env
 junk : g .junk = .junk
mutual
theorem mapN_den {g : SV → SV} (hg : Alike env ρ g) : ∀ (v : SV) (xs : List (EV U)) (ys : List Value), (v.mapN g).den (env ++ xs) (ρ ++ ys) = v.den (env ++ xs) (ρ ++ ys)
 | .func fn a b, xs, ys => by simp only [SV.mapN, SV.den, mapNL_den hg a xs ys, mapNL_den hg b xs ys]
 | .agg l, xs, ys => by simp only [SV.mapN, SV.den, mapNL_den hg l xs ys]
 | .tuple l, xs, ys => by simp only [SV.mapN, SV.den, mapNL_den hg l xs ys]
 | .iface t l, xs, ys => by simp only [SV.mapN, SV.den, mapNL_den hg l xs ys]
 | .int k e, xs, ys => hg.den _ xs ys
 | .bool b, xs, ys => hg.den _ xs ys
 | .nilp, xs, ys => hg.den _ xs ys
 | .ptr n o, xs, ys => hg.den _ xs ys
 | .ptrx n e s o, xs, ys => hg.den _ xs ys
 | .hnd n, xs, ys => hg.den _ xs ys
 | .nils, xs, ys => hg.den _ xs ys
 | .slice n l c, xs, ys => hg.den _ xs ys
 | .slicx n o l c, xs, ys => hg.den _ xs ys
 | .nilf, xs, ys => hg.den _ xs ys
 | .rowv k i, xs, ys => hg.den _ xs ys
 | .yld n, xs, ys => hg.den _ xs ys
 | .mapv n, xs, ys => hg.den _ xs ys
 | .str s, xs, ys => hg.den _ xs ys
 | .junk, xs, ys => hg.den _ xs ys
theorem mapNL_den {g : SV → SV} (hg : Alike env ρ g) : ∀ (l : List SV) (xs : List (EV U)) (ys : List Value), SV.denL (env ++ xs) (ρ ++ ys) (SV.mapNL g l) = SV.denL (env ++ xs) (ρ ++ ys) l
 | [], xs, ys => rfl
 | v :: l, xs, ys => by simp only [SV.mapNL, SV.denL, mapN_den hg v xs ys, mapNL_den hg l xs ys]
end
mutual
theorem mapN_stab {g : SV → SV} (hg : Alike env ρ g) : ∀ (v : SV), v.stab env → (v.mapN g).stab env
 | .func fn a b, h => ⟨mapNL_stab hg a h.1, mapNL_stab hg b h.2⟩
 | .agg l, h => by simp only [SV.mapN, SV.stab] at h ⊢; exact mapNL_stab hg l h
 | .tuple l, h => by simp only [SV.mapN, SV.stab] at h ⊢; exact mapNL_stab hg l h
 | .iface t l, h => by simp only [SV.mapN, SV.stab] at h ⊢; exact mapNL_stab hg l h
 | .int k e, h => hg.stab _ h
 | .bool b, h => hg.stab _ h
 | .nilp, h => hg.stab _ h
 | .ptr n o, h => hg.stab _ h
 | .ptrx n e s o, h => hg.stab _ h
 | .hnd n, h => hg.stab _ h
 | .nils, h => hg.stab _ h
 | .slice n l c, h => hg.stab _ h
 | .slicx n o l c, h => hg.stab _ h
 | .nilf, h => hg.stab _ h
 | .rowv k i, h => hg.stab _ h
 | .yld n, h => hg.stab _ h
 | .mapv n, h => hg.stab _ h
 | .str s, h => hg.stab _ h
 | .junk, h => hg.stab _ h
theorem mapNL_stab {g : SV → SV} (hg : Alike env ρ g) : ∀ (l : List SV), SV.stabL env l → SV.stabL env (SV.mapNL g l)
 | [], _ => trivial
 | v :: l, h => ⟨mapN_stab hg v h.1, mapNL_stab hg l h.2⟩
end
theorem Den.mapN {g : SV → SV} (hg : Alike env ρ g) {v : SV} {c : Value} (h : Den env ρ v c) : Den env ρ (v.mapN g) c := ⟨fun xs ys => by rw [mapN_den hg]; exact h.1 xs ys, mapN_stab hg v h.2⟩
theorem DenL.mapN {g : SV → SV} (hg : Alike env ρ g) {l : List SV} {cs : List Value} (h : DenL env ρ l cs) : DenL env ρ (SV.mapNL g l) cs :=
 ⟨fun xs ys => by rw [← denL_map, mapNL_den hg, denL_map]; exact h.1 xs ys, mapNL_stab hg l h.2⟩
theorem Rel.mapN {g : SV → SV} (hg : Alike env ρ g) {v : SV} {c : Value} (h : Rel env ρ v c) : Rel env ρ (v.mapN g) c := by
 rcases h with h | h
 · subst h; exact .inl hg.junk
 · exact .inr (h.mapN hg)
theorem DfsOk.mapN {g : SV → SV} (hg : Alike env ρ g) : ∀ {ps : List (FuncId × List SV)} {ds : List Deferred}, DfsOk env ρ ps ds → DfsOk env ρ (ps.map fun (f, l) => (f, SV.mapNL g l)) ds
 | [], [], _ => trivial
 | _ :: _, _ :: _, ⟨⟨cap, h1, h2⟩, h3⟩ => ⟨⟨cap, h1, h2.mapN hg⟩, DfsOk.mapN hg h3⟩
 | [], _ :: _, h => h.elim
 | _ :: _, [], h => h.elim
theorem TmOk.mapN {g : SV → SV} (hg : Alike env ρ g) {tm : Tm} (h : TmOk env ρ tm a) : TmOk env ρ (tm.mapN g) a := by
 refine ⟨⟨h.1.1, fun i => ?_⟩, (by obtain ⟨ds, e, hd⟩ := h.2.1; exact ⟨ds, e, hd.mapN hg⟩), h.2.2⟩
 have := (h.1.2 i).mapN hg
 simp only [Tm.getD] at this
 simp only [Tm.getD, Tm.mapN, Tr.get_map (SV.mapN g) (by exact hg.junk)]
 exact this
theorem Stk.mapN {g : SV → SV} (hg : Alike env ρ g) {l : List Tm} (h : Stk env ρ l as) : Stk env ρ (l.map (Tm.mapN g)) as := by
 induction h with
 | nil => exact .nil
 | cons h _ ih => exact .cons (h.mapN hg) ih
theorem Holds.mapN {objs : List (ObjT U)} {g : SV → SV} (hg : Alike env ρ g) {h : HE} {v : Value} {S : Nat → Prop} (hh : Holds objs w0 F env ρ h v w S) : Holds objs w0 F env ρ (h.mapN g) v w S := by
 cases h with
 | cells vs ty => obtain ⟨b, cs, e1, e2, e3⟩ := hh; exact ⟨b, cs, e1, e2.mapN hg, e3⟩
 | kc vs ty sz i => obtain ⟨b, cs, r, e1, e2, e3⟩ := hh; exact ⟨b, cs, r, e1, e2.mapN hg, e3⟩
 | _ => exact hh
theorem Conc.mapN {g : SV → SV} (hg : Alike env ρ g) (hc : Conc X.objs w0 F env ρ st a as w) : Conc X.objs w0 F env ρ (st.mapN g) a as w := by
 obtain ⟨S, hS⟩ := hc.sat.own
 refine ⟨hc.ne, hc.pc, hc.tm.mapN hg, hc.stk.mapN hg, by simpa [St.mapN] using hc.sat.len, ⟨S, fun n e hn => ?_, hS.disj, fun n x hx => by simpa [St.mapN] using hS.dom n x hx⟩, hc.sat.frame⟩
 simp only [St.mapN, List.getElem?_map, Option.map_eq_some_iff] at hn
 obtain ⟨e0, h0, rfl⟩ := hn
 exact (hS.holds n e0 h0).mapN hg
theorem alike_swapH {n : Nat} {u : SV} {c : Value} (hn : n < ρ.length) (hc : hv ρ n = c) (hu : Den env ρ u c) : Alike env ρ (swapH n u) := by
 refine ⟨fun v xs ys => ?_, fun v hs => ?_, rfl⟩
 · cases v <;> try rfl
   rename_i m
   simp only [swapH]
   split
   · rename_i h; subst h; rw [hu.1 xs ys]; simp only [SV.den]; rw [hv_app hn, hc]
   · rfl
 · cases v <;> try exact hs
   rename_i m
   simp only [swapH]
   split
   · exact hu.2
   · exact hs
theorem alike_swapP {n b : Nat} (hn : n < ρ.length) (hc : hv ρ n = .pointer (some ⟨b, 0, none⟩)) : Alike env ρ (swapP n) := by
 have key : ∀ (m : Nat) (xs : List (EV U)) (ys : List Value), (swapP n (.ptr m 0)).den (env ++ xs) (ρ ++ ys) = (SV.ptr m 0).den (env ++ xs) (ρ ++ ys) := fun m xs ys => by
  simp only [swapP]
  split
  · rename_i h; subst h; simp only [SV.den, hv_app hn, hc, addrOf, add0]
  · rfl
 refine ⟨fun v xs ys => ?_, fun v hs => ?_, rfl⟩
 · cases v with
   | ptr m o => cases o with
     | zero => exact key m xs ys
     | succ o => rfl
   | _ => rfl
 · cases v with
   | ptr m o => cases o with
     | zero => simp only [swapP]; split <;> trivial
     | succ o => trivial
   | _ => exact hs
theorem opn_pick {ts : List Nat} {g : Nat → Tree} {z : Tree} (h : (ts.foldr (fun t acc => Tree.and (g t) acc) z).sat X R env) : z.sat X R env ∧ ∀ t ∈ ts, (g t).sat X R env := by
 induction ts with
 | nil => exact ⟨h, by simp⟩
 | cons t ts ih =>
   obtain ⟨h1, h2⟩ := ih h.2
   refine ⟨h1, fun x hx => ?_⟩
   rcases List.mem_cons.1 hx with rfl | hx
   · exact h.1
   · exact h2 x hx
theorem open_one (ho : ObjsOk X.objs) (hc : Conc X.objs w0 F env ρ st a as w) {n t : Nat} {T : ObjT U} {ps : List (EV U)} {ρL : List Value} {Sf S0 : Nat → Nat → Prop} (hS : Own X.objs w0 F env ρ st.hp w S0) (hn : n < st.hp.length)
 (ht : X.objs[t]? = some T) (hps : ps.length = T.nv) (hl : ρL.length = T.hp.length)
 (hholds : ∀ m h, T.hp[m]? = some h → Holds X.objs w0 F ps ρL h (hv ρL m) w (Sf m))
 (disj : ∀ n m x, Sf n x → Sf m x → n = m) (sub : ∀ m x, Sf m x → S0 n x) (inn : ∀ m x, Sf m x → m < T.hp.length) (hnil : T.isNil = false) (hv0 : hv ρ n = hv ρL 0)
 {h : HE} {hs : List HE} (hsub : substNew ((List.range T.nv).map fun j => Bnd.var (st.ne + j)) (n :: (List.range (T.hp.length - 1)).map (st.hp.length + ·)) T.hp = some (h :: hs)) :
 Conc X.objs w0 F (env ++ ps) (ρ ++ ρL.drop 1) { st with hp := st.hp.set n h ++ hs, ne := st.ne + T.nv } a as w := by
 obtain ⟨k1, k2⟩ := substNew_spec _ _ hsub
 simp only [List.length_cons] at k1
 generalize hβ : (List.range T.nv).map (fun j => Bnd.var (st.ne + j)) = β at hsub k2
 generalize hσ : n :: (List.range (T.hp.length - 1)).map (st.hp.length + ·) = σ at hsub k2
 have hβd : β.map (Bnd.den (env ++ ps)) = ps := by
  subst hβ
  rw [List.map_map]
  apply List.ext_getElem?
  intro i
  by_cases hi : i < T.nv
  · have : i < ps.length := by omega
    simp only [List.getElem?_map, List.getElem?_range hi, Option.map_some, Function.comp, Bnd.den, List.getD, ← hc.ne]
    rw [List.getElem?_append_right (by omega)]
    simp [List.getElem?_eq_getElem this]
  · rw [List.getElem?_eq_none (by simp; omega), List.getElem?_eq_none (by omega)]
 have hσd : σ.map (hv (ρ ++ ρL.drop 1)) = ρL := by
  subst hσ
  apply List.ext_getElem?
  intro i
  cases i with
  | zero =>
    have h0 : 0 < ρL.length := by omega
    simp only [List.map_cons, List.getElem?_cons_zero]
    rw [hv_app (by rw [hc.sat.len]; exact hn), hv0]
    simp [hv, List.getElem?_eq_getElem h0]
  | succ i =>
    simp only [List.map_cons, List.getElem?_cons_succ, List.map_map]
    by_cases hi : i < T.hp.length - 1
    · have h1 : i + 1 < ρL.length := by omega
      simp only [List.getElem?_map, List.getElem?_range hi, Option.map_some, Function.comp, hv, List.getD, ← hc.sat.len]
      rw [List.getElem?_append_right (by omega)]
      simp only [Nat.add_sub_cancel_left, List.getElem?_drop]
      rw [show 1 + i = i + 1 by omega, List.getElem?_eq_getElem h1]
      rfl
    · rw [List.getElem?_eq_none (by simp; omega), List.getElem?_eq_none (by omega)]
 have hscope : β.all (Bnd.inScope (env ++ ps).length) = true := by
  rw [List.all_eq_true]
  intro b hb
  subst hβ
  simp only [List.mem_map, List.mem_range] at hb
  obtain ⟨j, hj, rfl⟩ := hb
  have := hc.ne
  simp [Bnd.inScope]
  omega
 have hnames : σ.all (· < (ρ ++ ρL.drop 1).length) = true := by
  rw [List.all_eq_true]
  intro m hm
  have := hc.sat.len
  subst hσ
  simp only [List.length_append, List.length_drop, decide_eq_true_eq]
  rcases List.mem_cons.1 hm with h | h
  · omega
  · simp only [List.mem_map, List.mem_range] at h
    obtain ⟨j, hj, rfl⟩ := h
    omega
 have hget : ∀ m h', T.hp[m]? = some h' → ∃ e, (h :: hs)[m]? = some e ∧ Holds X.objs w0 F (env ++ ps) (ρ ++ ρL.drop 1) e (hv ρL m) w (Sf m) := fun m h' hm => by
  obtain ⟨hro, e, e1, e2⟩ := k2 m h' hm
  refine ⟨e, e2, ?_⟩
  have hh := hholds m h' hm
  rw [← hβd, ← hσd] at hh
  have := hh.unform (w0 := w0) (F := F) hscope hnames e1 hro
  rwa [hσd] at this
 let S2 : Nat → Nat → Prop := fun m x => if m = n then Sf 0 x else if m < st.hp.length then S0 m x else Sf (m - st.hp.length + 1) x
 have hlen2 : (st.hp.set n h ++ hs).length = st.hp.length + (T.hp.length - 1) := by simp; omega
 refine ⟨by simp [hc.ne, hps], hc.pc.ext _, hc.tm.ext _ _, hc.stk.ext _ _, by rw [hlen2]; simp [hc.sat.len]; omega, ⟨S2, ⟨fun m e hm => ?_, fun m k x hx hy => ?_, fun m x hx => ?_⟩⟩, hc.sat.frame⟩
 · by_cases hmn : m = n
   · subst hmn
     have hT0 : ∃ h', T.hp[0]? = some h' := ⟨_, List.getElem?_eq_getElem (by omega)⟩
     obtain ⟨h', hT0⟩ := hT0
     obtain ⟨e0, e1, e2⟩ := hget 0 h' hT0
     simp at e1
     subst e1
     rw [List.getElem?_append_left (by simpa using hn), List.getElem?_set_self hn] at hm
     injection hm with hm
     subst hm
     have hfun : S2 m = Sf 0 := by funext x; simp [S2]
     rw [hfun, hv_app (by rw [hc.sat.len]; exact hn), hv0]
     exact e2
   · by_cases hlt : m < st.hp.length
     · rw [List.getElem?_append_left (by simpa using hlt), List.getElem?_set_ne (Ne.symm hmn)] at hm
       have hfun : S2 m = S0 m := by funext x; simp [S2, hmn, hlt]
       rw [hfun, hv_app (by rw [hc.sat.len]; exact hlt)]
       exact (hS.holds m e hm).ext _ _
     · have hml := (List.getElem?_eq_some_iff.1 hm).1
       rw [hlen2] at hml
       rw [List.getElem?_append_right (by simp; omega)] at hm
       simp only [List.length_set] at hm
       have hT : T.hp[m - st.hp.length + 1]? = some T.hp[m - st.hp.length + 1] := List.getElem?_eq_getElem (by omega)
       obtain ⟨e0, e1, e2⟩ := hget _ _ hT
       simp only [List.getElem?_cons_succ] at e1
       rw [hm] at e1
       injection e1 with e1
       subst e1
       have hfun : S2 m = Sf (m - st.hp.length + 1) := by funext x; simp [S2, hmn, hlt]
       rw [hfun]
       have hvv : hv (ρ ++ ρL.drop 1) m = hv ρL (m - st.hp.length + 1) := by
        simp only [hv, List.getD]
        rw [List.getElem?_append_right (by rw [hc.sat.len]; omega), List.getElem?_drop, hc.sat.len]
        congr 2
        omega
       rw [hvv]
       exact e2
 · simp only [S2] at hx hy
   have split3 : ∀ m x, (if m = n then Sf 0 x else if m < st.hp.length then S0 m x else Sf (m - st.hp.length + 1) x) → (m = n ∧ Sf 0 x) ∨ (m ≠ n ∧ m < st.hp.length ∧ S0 m x) ∨ (m ≠ n ∧ st.hp.length ≤ m ∧ Sf (m - st.hp.length + 1) x) := by
    intro m x h
    by_cases h1 : m = n
    · rw [if_pos h1] at h; exact .inl ⟨h1, h⟩
    · rw [if_neg h1] at h
      by_cases h2 : m < st.hp.length
      · rw [if_pos h2] at h; exact .inr (.inl ⟨h1, h2, h⟩)
      · rw [if_neg h2] at h; exact .inr (.inr ⟨h1, by omega, h⟩)
   rcases split3 m x hx with ⟨a1, a2⟩ | ⟨a1, a2, a3⟩ | ⟨a1, a2, a3⟩ <;> rcases split3 k x hy with ⟨b1, b2⟩ | ⟨b1, b2, b3⟩ | ⟨b1, b2, b3⟩
   · omega
   · exact absurd (hS.disj _ _ x (sub _ x a2) b3) (fun e => b1 e.symm)
   · have := disj _ _ x a2 b3; omega
   · exact absurd (hS.disj _ _ x (sub _ x b2) a3) (fun e => a1 e.symm)
   · exact hS.disj _ _ x a3 b3
   · exact absurd (hS.disj _ _ x (sub _ x b3) a3) (fun e => a1 e.symm)
   · have := disj _ _ x a3 b2; omega
   · exact absurd (hS.disj _ _ x (sub _ x a3) b3) (fun e => b1 e.symm)
   · have := disj _ _ x a3 b3; omega
 · rw [hlen2]
   simp only [S2] at hx
   by_cases h1 : m = n
   · rw [if_pos h1] at hx
     have := hS.dom n x (sub _ x hx)
     exact ⟨by omega, this.2⟩
   · rw [if_neg h1] at hx
     by_cases h2 : m < st.hp.length
     · rw [if_pos h2] at hx
       have := hS.dom m x hx
       exact ⟨by omega, this.2⟩
     · rw [if_neg h2] at hx
       have h3 := inn _ x hx
       have := hS.dom n x (sub _ x hx)
       exact ⟨by omega, this.2⟩
theorem Rep.cases' {objs : List (ObjT U)} (ho : ObjsOk objs) {s : U} {v : Value} {S : Nat → Prop} (w0 : World) (F : Nat → Prop) (h : Rep objs w s v S) : ∃ (t : Nat) (T : ObjT U) (ps : List (EV U)) (ρL : List Value) (Sf : Nat → Nat → Prop), s = T.obj ps ∧ objs[t]? = some T ∧ ps.length = T.nv ∧ T.ok ps ∧ ρL.length = T.hp.length ∧
 (∀ m h, T.hp[m]? = some h → Holds objs w0 F ps ρL h (hv ρL m) w (Sf m)) ∧ (∀ n m x, Sf n x → Sf m x → n = m) ∧ (∀ m x, Sf m x → S x) ∧ (∀ m x, Sf m x → m < T.hp.length) ∧ v = (if T.isNil then .pointer none else hv ρL 0) := by
 cases h with
 | mk t T ps ρL Sf S v ht hn hok hl hcell hrow habs habs' hro disj sub inn hv' =>
   refine ⟨t, T, ps, ρL, Sf, rfl, ht, hn, hok, hl, fun m h hm => ?_, disj, sub, inn, hv'⟩
   cases h with
   | cells vs ty => exact hcell m vs ty hm
   | row k ty i => exact hrow m k ty i hm
   | abs i => obtain ⟨s, hs⟩ := habs' m i hm; exact ⟨s, hs, habs m i s hm hs⟩
   | ro ks i => exact absurd (hro m _ hm) (by simp [plainH])
   | sys i j => exact absurd (hro m _ hm) (by simp [plainH])
   | gone => trivial
   | sp k ty len xs => exact absurd (hro m _ hm) (by simp [plainH])
   | mp i => exact absurd (hro m _ hm) (by simp [plainH])
   | kn k ty xs i => exact absurd (hro m _ hm) (by simp [plainH])
   | kc vs ty sz i => exact absurd (hro m _ hm) (by simp [plainH])
   | rb ty i => exact absurd (hro m _ hm) (by simp [plainH])
theorem openAll_sound (ho : ObjsOk X.objs) {K : St → Tree} : ∀ (l : List (Nat × List Nat)) (st : St) (env : List (EV U)) (ρ : List Value), Conc X.objs w0 F env ρ st a as w → (openAll X l st K).sat X R env →
 ∃ st' env' ρ', Conc X.objs w0 F env' ρ' st' a as w ∧ (K st').sat X R env' ∧ env <+: env' ∧ ρ <+: ρ'
 | [], st, env, ρ, hc, hs => ⟨st, env, ρ, hc, hs, List.prefix_refl _, List.prefix_refl _⟩
 | (n, ts) :: rest, st, env, ρ, hc, hs => by
   simp only [openAll] at hs
   split at hs
   · rename_i i hn
     obtain ⟨hno, hpick⟩ := opn_pick hs
     obtain ⟨S0, hS⟩ := hc.sat.own
     obtain ⟨s, hes, hrep⟩ := hS.holds n _ hn
     have hnlt := (List.getElem?_eq_some_iff.1 hn).1
     obtain ⟨t, T, ps, ρL, Sf, rfl, ht, hps, hok, hl, hholds, disj, sub, inn, hvv⟩ := hrep.cases' ho w0 F
     by_cases hmem : t ∈ ts
     · have ht2 := hpick t hmem
       rw [ht] at ht2
       dsimp only at ht2
       split at ht2
       · rename_i hnil
         rw [if_pos hnil] at hvv
         simp only [Tree.sat, ht] at ht2
         have ht3 := ht2 ps hps hok hes
         have hc2 := (hc.mapN (alike_swapH (u := .nilp) (by rw [hc.sat.len]; exact hnlt) hvv ⟨fun _ _ => rfl, trivial⟩)).ext ps
         rw [hps] at hc2
         obtain ⟨st', env', ρ', h1, h2, h3, h4⟩ := openAll_sound ho rest _ _ _ hc2 ht3
         exact ⟨st', env', ρ', h1, h2, (List.prefix_append _ _).trans h3, h4⟩
       · rename_i hnil
         have hnil' : T.isNil = false := by simpa using hnil
         rw [if_neg hnil] at hvv
         split at ht2
         · rename_i h hs' hsub
           simp only [Tree.sat, ht] at ht2
           have ht3 := ht2 ps hps hok hes
           have hroot : ∃ b, hv ρL 0 = .pointer (some ⟨b, 0, none⟩) := by
            obtain ⟨vs, ty, h0⟩ := ho.root t T ht hnil'
            obtain ⟨b, cs, e1, _⟩ := hholds 0 _ h0
            exact ⟨b, e1⟩
           obtain ⟨b, hb⟩ := hroot
           have hden : Den env ρ (.ptr n 0) (hv ρL 0) := by
            have := ptr_den (env := env) (ρ := ρ) (n := n) 0 (by rw [hc.sat.len]; exact hnlt)
            rw [hvv, hb, addrOf, add0] at this
            rw [hb]
            exact this
           have hc2 := hc.mapN (alike_swapH (u := .ptr n 0) (by rw [hc.sat.len]; exact hnlt) hvv hden)
           have hS2 : Own X.objs w0 F env ρ (st.mapN (swapH n (.ptr n 0))).hp w S0 := by
            refine ⟨fun m e hm => ?_, hS.disj, fun m x hx => by simpa [St.mapN] using hS.dom m x hx⟩
            simp only [St.mapN, List.getElem?_map, Option.map_eq_some_iff] at hm
            obtain ⟨e0, h0, rfl⟩ := hm
            exact (hS.holds m e0 h0).mapN (alike_swapH (u := .ptr n 0) (by rw [hc.sat.len]; exact hnlt) hvv hden)
           have hlen : (st.mapN (swapH n (.ptr n 0))).hp.length = st.hp.length := by simp [St.mapN]
           have hc3 := open_one ho hc2 hS2 (n := n) (by rw [hlen]; exact hnlt) ht hps hl hholds disj sub inn hnil' hvv (h := h) (hs := hs') (by rw [hlen]; exact hsub)
           obtain ⟨st', env', ρ', h1, h2, h3, h4⟩ := openAll_sound ho rest _ _ _ hc3 ht3
           exact ⟨st', env', ρ', h1, h2, (List.prefix_append _ _).trans h3, (List.prefix_append _ _).trans h4⟩
         · exact ht2.elim
     · exact absurd hes (hno t T ps ht hmem hps hok)
   · exact hs.elim
theorem foldl_gone : ∀ (σ : List Nat) (hp : List HE), (σ.foldl (fun hp a => hp.set a .gone) hp).length = hp.length ∧ ∀ m, (m ∉ σ → (σ.foldl (fun hp a => hp.set a .gone) hp)[m]? = hp[m]?) ∧ (m ∈ σ → m < hp.length → (σ.foldl (fun hp a => hp.set a .gone) hp)[m]? = some .gone)
 | [], hp => ⟨rfl, fun m => ⟨fun _ => rfl, by simp⟩⟩
 | b :: σ, hp => by
   obtain ⟨h1, h2⟩ := foldl_gone σ (hp.set b .gone)
   refine ⟨by simpa using h1, fun m => ⟨fun hm => ?_, fun hm hlt => ?_⟩⟩
   · simp only [List.mem_cons, not_or] at hm
     rw [List.foldl_cons, (h2 m).1 hm.2, List.getElem?_set_ne (Ne.symm hm.1)]
   · rw [List.foldl_cons]
     by_cases hms : m ∈ σ
     · exact (h2 m).2 hms (by simpa using hlt)
     · rcases List.mem_cons.1 hm with rfl | h
       · rw [(h2 m).1 hms, List.getElem?_set_self hlt]
       · exact absurd h hms
theorem foldTry_sound (ho : ObjsOk X.objs) {n : Nat} : ∀ {ts : List Nat} {t : Nat} {β : List Bnd} {st' : St} {T : ObjT U}, foldTry X n st ts = some (t, β, st') → X.objs[t]? = some T → T.ok (β.map (Bnd.den env)) → Conc X.objs w0 F env ρ st a as w →
 Conc X.objs w0 F (env ++ [.u (T.obj (β.map (Bnd.den env)))]) ρ st' a as w ∧ Alike env ρ (swapP n)
 | [], t, β, st', T, h, _, _, _ => by simp [foldTry] at h
 | t0 :: ts, t, β, st', T, h, ht, hok, hc => by
   have hrest : foldTry X n st ts = some (t, β, st') → _ := fun h => foldTry_sound ho h ht hok hc
   simp only [foldTry] at h
   split at h
   · rename_i T0 ht0
     split at h
     · exact hrest h
     · rename_i hnil
       split at h
       · exact hrest h
       · split at h
         · rename_i β0 σ _ _
           split at h
           · rename_i hcond
             simp only [Bool.and_eq_true, decide_eq_true_eq, beq_iff_eq] at hcond
             obtain ⟨⟨⟨⟨hchk, hnd⟩, hβl⟩, hσl⟩, hhead⟩ := hcond
             simp only [Option.some.injEq, Prod.mk.injEq] at h
             obtain ⟨rfl, rfl, rfl⟩ := h
             rw [ht0] at ht
             injection ht with ht
             subst ht
             have hnil' : T0.isNil = false := by simpa using hnil
             obtain ⟨S, hS⟩ := hc.sat.own
             have inj := nodup_inj hnd
             have hσ0 : σ[0]? = some n := by cases σ with | nil => simp at hhead | cons x l => simpa using hhead
             have hget : ∀ (j : Nat) (e : HE), T0.hp[j]? = some e → ∃ b h, σ[j]? = some b ∧ st.hp[b]? = some h ∧ e.subst β0 σ = some h ∧ Holds X.objs w0 F (β0.map (Bnd.den env)) (σ.map (hv ρ)) e (hv (σ.map (hv ρ)) j) w (fun x => ∃ b, σ[j]? = some b ∧ S b x) := fun j e he => by
              obtain ⟨b, h, e1, e2, e3⟩ := chkHp_spec T0.hp 0 hchk j e he
              rw [Nat.zero_add] at e1
              refine ⟨b, h, e1, e2, e3, ?_⟩
              rw [hv_map ρ e1]
              have hfun : (fun x => ∃ b, σ[j]? = some b ∧ S b x) = S b := by
               funext x
               apply propext
               constructor
               · rintro ⟨b', hb, hx⟩; rw [e1] at hb; injection hb with hb; subst hb; exact hx
               · intro hx; exact ⟨b, e1, hx⟩
              rw [hfun]
              exact (hS.holds b h e2).form0 e3
             have hnlt : n < st.hp.length := by
              have h0 : 0 < T0.hp.length := by rw [← hσl]; exact (List.getElem?_eq_some_iff.1 hσ0).1
              obtain ⟨b, h, e1, e2, _⟩ := hget 0 _ (List.getElem?_eq_getElem h0)
              rw [hσ0] at e1; injection e1 with e1; subst e1
              exact (List.getElem?_eq_some_iff.1 e2).1
             have hnρ : n < ρ.length := by rw [hc.sat.len]; exact hnlt
             have hroot : ∃ b, hv ρ n = .pointer (some ⟨b, 0, none⟩) := by
              obtain ⟨vs, ty, h0⟩ := ho.root _ T0 ht0 hnil'
              obtain ⟨_, _, _, _, _, b, cs, e1, _⟩ := hget 0 _ h0
              rw [hv_map ρ hσ0] at e1
              exact ⟨b, e1⟩
             obtain ⟨bb, hroot⟩ := hroot
             have hal := alike_swapP (env := env) hnρ hroot
             refine ⟨?_, hal⟩
             have hrep : Rep X.objs w (T0.obj (β0.map (Bnd.den env))) (hv ρ n) (inForm σ S) := by
              refine .mk _ T0 _ (σ.map (hv ρ)) (fun j x => ∃ b, σ[j]? = some b ∧ S b x) _ _ ht0 (by simp [hβl]) hok (by simp [hσl]) (fun j vs ty h => ?_) (fun j k ty i h => ?_) (fun j i s h hs => ?_) (fun j i h => ?_) (ho.noro _ T0 ht0) (fun i j x ⟨b, hb, hx⟩ ⟨c, hcc, hy⟩ => ?_) (fun j x ⟨b, hb, hx⟩ => ⟨j, b, hb, hx⟩) (fun j x ⟨b, hb, hx⟩ => ?_) ?_
              · obtain ⟨_, _, _, _, _, hh⟩ := hget j _ h; exact hh
              · obtain ⟨_, _, _, _, _, hh⟩ := hget j _ h; exact hh
              · obtain ⟨_, _, _, _, _, s', e1, e2⟩ := hget j _ h
                rw [hs] at e1; injection e1 with e1; injection e1 with e1; subst e1
                exact e2
              · obtain ⟨_, _, _, _, _, s', e1, e2⟩ := hget j _ h
                exact ⟨s', e1⟩
              · have := hS.disj b c x hx hy
                subst this
                exact inj i j b hb hcc
              · rw [← hσl]; exact (List.getElem?_eq_some_iff.1 hb).1
              · rw [if_neg hnil, hv_map ρ hσ0]
             have hc1 := hc.ext [EV.u (T0.obj (β0.map (Bnd.den env)))]
             obtain ⟨g1, g2⟩ := foldl_gone σ st.hp
             have hmem : ∀ m, m ∈ σ ↔ ∃ j : Nat, σ[j]? = some m := fun m => ⟨fun h => List.getElem?_of_mem h, fun ⟨j, h⟩ => List.mem_of_getElem? h⟩
             have hc2 : Conc X.objs w0 F (env ++ [EV.u (T0.obj (β0.map (Bnd.den env)))]) ρ { st with hp := (σ.foldl (fun hp a => hp.set a .gone) st.hp).set n (.abs st.ne), ne := st.ne + 1 } a as w := by
              refine ⟨hc1.ne, hc1.pc, hc1.tm, hc1.stk, by simp [g1, hc.sat.len], ⟨fun m x => if m = n then inForm σ S x else m ∉ σ ∧ S m x, ⟨fun m e hm => ?_, fun m k x hx hy => ?_, fun m x hx => ?_⟩⟩, hc.sat.frame⟩
              · by_cases hmn : m = n
                · subst hmn
                  rw [List.getElem?_set_self (by rw [g1]; exact hnlt)] at hm
                  injection hm with hm
                  subst hm
                  have hfun : (fun x => if m = m then inForm σ S x else m ∉ σ ∧ S m x) = inForm σ S := by funext x; simp
                  rw [hfun]
                  exact ⟨_, by rw [← hc.ne]; exact last_get _, hrep⟩
                · rw [List.getElem?_set_ne (Ne.symm hmn)] at hm
                  by_cases hms : m ∈ σ
                  · have hlt := (List.getElem?_eq_some_iff.1 hm).1
                    rw [g1] at hlt
                    rw [(g2 m).2 hms hlt] at hm
                    injection hm with hm
                    subst hm
                    trivial
                  · rw [(g2 m).1 hms] at hm
                    have hfun : (fun x => if m = n then inForm σ S x else m ∉ σ ∧ S m x) = S m := by funext x; simp [hmn, hms]
                    rw [hfun]
                    have := (hS.holds m e hm).ext [EV.u (T0.obj (β0.map (Bnd.den env)))] []
                    rwa [List.append_nil] at this
              · by_cases hmn : m = n
                · rw [if_pos hmn] at hx
                  by_cases hkn : k = n
                  · omega
                  · rw [if_neg hkn] at hy
                    obtain ⟨j, b, hb, hxb⟩ := hx
                    have := hS.disj b k x hxb hy.2
                    subst this
                    exact absurd ((hmem b).2 ⟨j, hb⟩) hy.1
                · rw [if_neg hmn] at hx
                  by_cases hkn : k = n
                  · rw [if_pos hkn] at hy
                    obtain ⟨j, b, hb, hxb⟩ := hy
                    have := hS.disj b m x hxb hx.2
                    subst this
                    exact absurd ((hmem b).2 ⟨j, hb⟩) hx.1
                  · rw [if_neg hkn] at hy
                    exact hS.disj m k x hx.2 hy.2
              · rw [List.length_set, g1]
                by_cases hmn : m = n
                · rw [if_pos hmn] at hx
                  obtain ⟨j, b, hb, hxb⟩ := hx
                  exact ⟨by omega, (hS.dom b x hxb).2⟩
                · rw [if_neg hmn] at hx
                  exact hS.dom m x hx.2
             exact hc2.mapN (alike_swapP hnρ hroot)
           · exact hrest h
         · exact hrest h
   · cases h
end
section
variable {U : Type} [Nil U] {X : Cx U} {R : List (EV U) → List (EV U) → Prop} {w0 : World} {F : Nat → Prop} {env : List (EV U)} {ρ : List Value} {w : World} {st : St} {a : Act} {as : List Act}
theorem nilRet_sound (ho : ObjsOk X.objs) {post : List HE} {folds : List (Nat × List Nat)} {ret v : SV} {K : SV → St → Tree} {r : Value} (hc : Conc X.objs w0 F env ρ st a as w) (hr : Rel env ρ v r) (hs : (nilRet X post folds ret v st K).sat X R env) :
 ∃ v' st' env' ρ', Conc X.objs w0 F env' ρ' st' a as w ∧ Rel env' ρ' v' r ∧ (K v' st').sat X R env' ∧ env <+: env' ∧ ρ <+: ρ' := by
 have hnm : ∀ (xs : List (EV U)) (ys : List Value), hv (ρ ++ [Value.pointer none] ++ ys) st.hp.length = .pointer none := fun xs ys => by
  rw [hv_app (by simp [hc.sat.len]), ← hc.sat.len, hv_len]
 unfold nilRet at hs
 split at hs
 · split at hs
   · rename_i k ty _ _
     refine ⟨.slice st.hp.length (.lit 0) (.lit 0), _, _, _, hc.nilRowName k ty, .inr ⟨fun xs ys => ?_, fun _ => rfl, fun _ => rfl⟩, hs, List.prefix_append _ _, List.prefix_append _ _⟩
     have := (hr.den (by simp)).now
     simp only [SV.den] at this ⊢
     rw [hnm xs ys]
     exact this
   · exact hs.elim
 · rename_i j
   split at hs
   · rename_i t hfind
     have h2 : ∃ T, X.objs[t]? = some T ∧ T.isNil = true ∧ T.nv = 0 := by
      cases ha : assoc j folds with
      | none => simp [ha] at hfind
      | some ts =>
        simp only [ha, Option.bind_some] at hfind
        have := List.find?_some hfind
        split at this
        · rename_i T hT; simp only [Bool.and_eq_true, beq_iff_eq] at this; exact ⟨T, hT, this.1, this.2⟩
        · cases this
     obtain ⟨T, hT, hn1, hn2⟩ := h2
     simp only [Tree.sat, hT, List.map_nil] at hs
     obtain ⟨hok, hs⟩ := hs
     refine ⟨.hnd st.hp.length, _, _, _, hc.nilName ho hT hn1 hn2 hok, .inr ⟨fun xs ys => ?_, trivial⟩, hs, List.prefix_append _ _, List.prefix_append _ _⟩
     have := (hr.den (by simp)).now
     simp only [SV.den] at this ⊢
     rw [hnm xs ys, this]
   · exact hs.elim
 · rename_i j b0 b
   split at hs
   · rename_i t hfind
     have h2 : ∃ T, X.objs[t]? = some T ∧ T.isNil = true ∧ T.nv = 0 := by
      cases ha : assoc j folds with
      | none => simp [ha] at hfind
      | some ts =>
        simp only [ha, Option.bind_some] at hfind
        have := List.find?_some hfind
        split at this
        · rename_i T hT; simp only [Bool.and_eq_true, beq_iff_eq] at this; exact ⟨T, hT, this.1, this.2⟩
        · cases this
     obtain ⟨T, hT, hn1, hn2⟩ := h2
     simp only [Tree.sat, hT, List.map_nil] at hs
     obtain ⟨hok, hs⟩ := hs
     obtain ⟨cs, hcs, hd⟩ := den_tuple (hr.den (by simp))
     obtain ⟨c1, ds, rfl, e1, e2⟩ := hd.uncons
     refine ⟨.tuple [.hnd st.hp.length, b], _, _, _, hc.nilName ho hT hn1 hn2 hok, .inr ?_, hs, List.prefix_append _ _, List.prefix_append _ _⟩
     rw [hcs]
     refine tuple_den (DenL.cons ⟨fun xs ys => ?_, trivial⟩ (e2.ext _ _))
     have := e1.now
     simp only [SV.den] at this ⊢
     rw [hnm xs ys, this]
   · exact hs.elim
 · exact ⟨v, st, env, ρ, hc, hr, hs, List.prefix_refl _, List.prefix_refl _⟩
theorem foldAll_sound (ho : ObjsOk X.objs) {σ : List (Option Nat)} {K : SV → St → Tree} {r : Value} : ∀ (l : List (Nat × List Nat)) (v : SV) (st : St) (env : List (EV U)), Conc X.objs w0 F env ρ st a as w → Rel env ρ v r → (foldAll X σ l v st K).sat X R env →
 ∃ v' st' env', Conc X.objs w0 F env' ρ st' a as w ∧ Rel env' ρ v' r ∧ (K v' st').sat X R env' ∧ env <+: env'
 | [], v, st, env, hc, hr, hs => ⟨v, st, env, hc, hr, hs, List.prefix_refl _⟩
 | (j, ts) :: rest, v, st, env, hc, hr, hs => by
   simp only [foldAll] at hs
   split at hs
   · rename_i n hσ
     split at hs
     · exact foldAll_sound ho rest v st env hc hr hs
     · split at hs
       · rename_i t β st' hf
         simp only [Tree.sat] at hs
         split at hs
         · rename_i T hT
           obtain ⟨hok, hs⟩ := hs
           obtain ⟨h1, h2⟩ := foldTry_sound ho hf hT hok hc
           have hr2 : Rel (env ++ [.u (T.obj (β.map (Bnd.den env)))]) ρ (v.mapN (swapP n)) r := by
            have := (hr.mapN h2).ext [.u (T.obj (β.map (Bnd.den env)))] []
            rwa [List.append_nil] at this
           obtain ⟨v', st2, env', g1, g2, g3, g4⟩ := foldAll_sound ho rest _ _ _ h1 hr2 hs
           exact ⟨v', st2, env', g1, g2, g3, (List.prefix_append _ _).trans g4⟩
         · exact hs.elim
       · exact hs.elim
   · exact hs.elim
def ctrR (c : Ctr U) (env outs : List (EV U)) : Prop := c.may (env.take c.nin) outs
theorem finish_sound (ho : ObjsOk X.objs) {c : Ctr U} {folds : List (Nat × List Nat)} {v : SV} {r : Value} {ins : List (EV U)} {ρ0 : List Value} (hil : ins.length = c.nin) (hρl : ρ0.length = c.heap.length)
 (hp : Pfx (ins, ρ0) env ρ) (hc : Conc X.objs w0 F env ρ st a as w) (hr : Rel env ρ v r) (hs : (finish X c folds v st).sat X (ctrR c) env) :
 ∃ ρ' outs, c.may ins outs ∧ Den (ins ++ outs) (ρ0 ++ ρ') c.ret r ∧ Sat X.objs w0 F (ins ++ outs) (ρ0 ++ ρ') c.post w := by
 unfold finish at hs
 obtain ⟨st0, env0, ρ00, hc0, hs0, he0, hρ00⟩ := nilFix_sound ho _ _ _ _ hc hs
 have hr0 : Rel env0 ρ00 v r := by
  obtain ⟨o1, rfl⟩ := he0
  obtain ⟨o2, rfl⟩ := hρ00
  exact hr.ext _ _
 replace hp : Pfx (ins, ρ0) env0 ρ00 := ⟨hp.1.trans he0, hp.2.trans hρ00⟩
 obtain ⟨v1, st1, env1, ρ1, hc1, hr1, hs1, he1, hρ1⟩ := nilRet_sound ho hc0 hr0 hs0
 dsimp only at hs1
 split at hs1
 · exact hs1.elim
 · obtain ⟨v2, st2, env2, hc2, hr2, hs2, he2⟩ := foldAll_sound ho _ _ _ _ hc1 hr1 hs1
   split at hs2
   · exact hs2.elim
   · split at hs2
     · exact hs2.elim
     · split at hs2
       · rename_i β σ _ _
         split at hs2
         · rename_i hcond
           simp only [Bool.and_eq_true, decide_eq_true_eq, beq_iff_eq] at hcond
           obtain ⟨⟨⟨⟨⟨⟨hret, hchk⟩, hnd⟩, hβl⟩, hσl⟩, hvars⟩, hσ0⟩ := hcond
           simp only [Tree.sat, ctrR] at hs2
           have hpe : ins <+: env2 := (hp.1.trans he1).trans he2
           have hpr : ρ0 <+: ρ1 := hp.2.trans hρ1
           have htake : env2.take c.nin = ins := by obtain ⟨o, rfl⟩ := hpe; rw [← hil, List.take_left]
           rw [htake] at hs2
           have henv : β.map (Bnd.den env2) = ins ++ (β.drop c.nin).map (Bnd.den env2) := by
            conv => lhs; rw [← List.take_append_drop c.nin β, List.map_append]
            rw [← htake]
            congr 1
            apply List.ext_getElem?
            intro i
            by_cases hi : i < c.nin
            · have hv := isVars_spec hvars i hi
              rw [Nat.zero_add] at hv
              have hl : i < env2.length := by have := hpe.length_le; omega
              simp only [List.getElem?_map, List.getElem?_take, hi, if_true, hv, Option.map_some, Bnd.den, List.getD, List.getElem?_eq_getElem hl, Option.getD_some]
            · rw [List.getElem?_eq_none (by simp; omega), List.getElem?_eq_none (by simp; omega)]
           have hnames : σ.map (hv ρ1) = ρ0 ++ (σ.map (hv ρ1)).drop c.heap.length := by
            conv => lhs; rw [← List.take_append_drop c.heap.length (σ.map (hv ρ1))]
            congr 1
            apply List.ext_getElem?
            intro i
            rw [← List.map_take, hσ0]
            by_cases hi : i < c.heap.length
            · rw [List.getElem?_map, List.getElem?_range hi]
              have : i < ρ0.length := by omega
              obtain ⟨o, rfl⟩ := hpr
              simp [hv, List.getElem?_append_left this, List.getElem?_eq_getElem this]
            · rw [List.getElem?_eq_none (by simp; omega), List.getElem?_eq_none (by omega)]
           obtain ⟨S, hS⟩ := hc2.sat.own
           have inj := liveN_inj hnd
           refine ⟨(σ.map (hv ρ1)).drop c.heap.length, (β.drop c.nin).map (Bnd.den env2), hs2, ?_, ?_⟩
           · rw [← hnames, ← henv]
             unfold chkL at hret
             split at hret
             · rename_i l hl
               simp only [Bool.and_eq_true] at hret
               have := SV.beqL_eq hret.1
               subst this
               simp only [SV.sureL, Bool.and_true] at hret
               have h1 := form_DenL (cs := [r]) hl (DenL.one (hr2.den (sure_ne hret.2)))
               obtain ⟨c', ds, e1, e2, _⟩ := h1.uncons
               injection e1 with e1
               subst e1
               exact e2
             · cases hret
           · rw [← hnames, ← henv]
             refine ⟨by simp [hσl], ⟨fun j x => c.post[j]? ≠ some .gone ∧ ∃ b, σ[j]? = some b ∧ S b x, ⟨fun j t ht => ?_, fun i j x ⟨g1, b, hb, hx⟩ ⟨g2, d, hd, hy⟩ => ?_, fun j x ⟨_, b, hb, hx⟩ => ?_⟩⟩, hc2.sat.frame⟩
             · by_cases hg : t = .gone
               · subst hg; trivial
               obtain ⟨b, h, e1, e2, e3⟩ := chkHpG_spec c.post 0 hchk j t ht hg
               rw [Nat.zero_add] at e1
               rw [hv_map ρ1 e1]
               have hfun : (fun x => c.post[j]? ≠ some .gone ∧ ∃ b, σ[j]? = some b ∧ S b x) = S b := by
                funext x
                apply propext
                constructor
                · rintro ⟨_, b', hb, hx⟩; rw [e1] at hb; injection hb with hb; subst hb; exact hx
                · intro hx; exact ⟨by rw [ht]; intro h; injection h with h; exact hg h, b, e1, hx⟩
               rw [hfun]
               exact (hS.holds b h e2).form0 e3
             · have := hS.disj b d x hx hy
               subst this
               exact inj i j b g1 g2 hb hd
             · have := hS.dom b x hx
               exact ⟨by rw [← hσl]; exact (List.getElem?_eq_some_iff.1 hb).1, this.2⟩
         · exact hs2.elim
       · exact hs2.elim
theorem runCtr_holdsm (ho : ObjsOk X.objs) (hmix : X.P.follows .mixedOrders = true) (hcts : ∀ (ci : Nat) (c : Ctr U), X.cts[ci]? = some c → c.Holds X.objs X.P) {fuel : Nat} {c : Ctr U} {opens folds : List (Nat × List Nat)}
 (hcall : Callable X.P c.fn) (hout : ∀ ins outs, ins.length = c.nin → c.pre ins → c.may ins outs → outs.length = c.nout)
 (hs : ∀ ins, ins.length = c.nin → c.pre ins → (runCtr X fuel c opens folds).sat X (ctrR c) ins) : c.Holds X.objs X.P := by
 refine ⟨hcall, hout, fun ins ρ w vals F hil hpre hd hsat => ?_⟩
 have hs := hs ins hil hpre
 unfold runCtr at hs
 have harg := ArgsRel.of_den hd
 have hc : Conc X.objs w F ins ρ { tm := Tm.ofList c.args c.args.length, stk := [], hp := c.heap, ne := c.nin } { tmps := vals.toArray, defers := [] } [] w := by
  have h0 := ofList_rel (n := c.args.length) harg
  rw [show c.args.length - vals.toArray.size = 0 by have := harg.1; simp; omega] at h0
  exact ⟨hil, (by intro _ h; cases h), .of (by simpa using h0) rfl (by simp [Tm.ofList]) rfl, .nil, hsat⟩
 obtain ⟨st', env', ρ', hc1, hs1, he1, hρ1⟩ := openAll_sound ho opens _ _ _ hc hs
 have hc2 : Conc X.objs w F env' ρ' { st' with tm := Tm.ofList [] 0 } { tmps := #[], defers := [] } [] w := by
  refine ⟨hc1.ne, hc1.pc, .of ⟨rfl, fun i => .inl ?_⟩ rfl (by simp [Tm.ofList]) rfl, hc1.stk, hc1.sat⟩
  simp [Tm.getD, Tm.ofList, Tr.mk', Nat.blt, Nat.ble, Tr.get]
 have harg1 : ArgsRel env' ρ' st'.tm.list vals := by
  refine ⟨by have := hc1.tm.1.1; simpa [Tm.list] using this, fun i => ?_⟩
  have h0 := hc1.tm.1.2 i
  by_cases hi : i < st'.tm.len
  · simpa [Tm.list, Tm.getD, List.getD, hi] using h0
  · have : st'.tm.list.getD i .junk = .junk := by simp [Tm.list, List.getD, hi]
    rw [this]; exact .inl rfl
 have hrun := (runFn_sound (X := X) (R := ctrR c) (w0 := w) (F := F) ho hmix hcts fuel).1 (ins, ρ) noRnd (fun _ _ _ _ _ _ _ _ _ _ _ _ _ _ _ _ _ h => h.elim) (ins, ρ) c.fn st'.tm.list { st' with tm := Tm.ofList [] 0 } (fun v st' => finish X c folds v st') env' ρ' { tmps := #[], defers := [] } [] w vals
  (fun r w' => ∃ ρ2 outs, c.may ins outs ∧ Den (ins ++ outs) (ρ ++ ρ2) c.ret r ∧ Sat X.objs w F (ins ++ outs) (ρ ++ ρ2) c.post w') ⟨List.prefix_refl _, List.prefix_refl _⟩ ⟨he1, hρ1⟩ hc2 harg1
  (fun v st3 env3 ρ3 r w3 hp3 hc3 hr3 hs3 => finish_sound ho hil hsat.len hp3 hc3 hr3 hs3) hs1
 exact Calls.mono hrun.2 fun e w' ⟨r, he, ρ2, outs, hm, h1, h2⟩ => ⟨r, ρ2, outs, hm, he, h1, h2⟩
theorem runCtr_holds (ho : ObjsOk X.objs) (hmix : X.P.follows .mixedOrders = true) (hcts : ∀ (ci : Nat) (c : Ctr U), X.cts[ci]? = some c → c.Holds X.objs X.P) {fuel : Nat} {c : Ctr U} {opens folds : List (Nat × List Nat)}
 (hcall : Callable X.P c.fn) (hout : ∀ ins, ins.length = c.nin → c.pre ins → (c.out ins).length = c.nout)
 (hs : ∀ ins, ins.length = c.nin → c.pre ins → (runCtr X fuel c opens folds).sat X (ctrR c) ins) (hm : c.many = none := by rfl) (hrel : c.rel = none := by rfl) : c.Holds X.objs X.P :=
 runCtr_holdsm ho hmix hcts hcall (fun ins outs h1 h2 h3 => by simp only [Ctr.may, hm, hrel] at h3; subst h3; exact hout ins h1 h2) hs
end
end Go.Proofs.Ytbmbiiiacajolaa
