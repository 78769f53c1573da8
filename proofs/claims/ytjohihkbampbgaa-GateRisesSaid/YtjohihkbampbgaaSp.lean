/- The symbolic executor: code and functions do what the executor says. No program is named here. -/
import Derived.Test.YtjohihkbampbgaaSx
namespace Go.Proofs.Ytjohihkbampbgaa
set_option linter.unusedVariables false
set_option linter.unusedSimpArgs false
set_option linter.unusedSectionVars false
open Go

section
variable {U : Type} [Nil U] {X : Cx U} {R : List (EV U) → List (EV U) → Prop} {w0 : World} {F : Nat → Prop}
  {inlR : Rnd → FuncId → List SV → St → (SV → St → Tree) → Tree} {rnd : Rnd}

theorem headOf_ne (s : LoopS U) (ws : List Tmp) (st : St) : (headOf s ws st).ne = st.ne + s.nv := rfl

theorem iterC_sound {P : Program} {ro : Option Nat} {c : Code} {as : List Act} {pre : List (EV U) × List Value} (body : St → (SExit → St → Tree) → Tree)
    (hb : ∀ (st : St) (K : SExit → St → Tree) (Q : SExit → Act → World → Prop) (env : List (EV U)) (ρ : List Value) (a : Act) (w : World), Pfx pre env ρ → Conc X.objs w0 F env ρ st a as w → Outs X R w0 F pre as K Q → (body st K).sat X R env → c.wpIn (fR ro) 0 P (lift Q) a w)
    {K : SExit → St → Tree} {Q : SExit → Act → World → Prop} (hK : Outs X R w0 F pre as K Q) (n : Nat) (st : St) (env : List (EV U)) (ρ : List Value) (a : Act) (w : World) (hp : Pfx pre env ρ) (hc : Conc X.objs w0 F env ρ st a as w) (hs : (iterC body n st K).sat X R env) :
    (Code.loop c).wpIn (fR ro) 0 P (lift Q) a w := by
  refine wpIn_loop_g (G := Nat × St × List (EV U) × List Value) (fun g a w => Pfx pre g.2.2.1 g.2.2.2 ∧ Conc X.objs w0 F g.2.2.1 g.2.2.2 g.2.1 a as w ∧ (iterC body g.1 g.2.1 K).sat X R g.2.2.1) (fun g => g.1) (n, st, env, ρ) ⟨hp, hc, hs⟩ ?_
  rintro ⟨n, st, env, ρ⟩ a w ⟨hp, hc, hs⟩
  cases n with
  | zero => exact hs.elim
  | succ n =>
    simp only [iterC] at hs
    refine wpIn_mono (hb st _ (fun ex a' w' => match ex with
      | .normal => ∃ g' : Nat × St × List (EV U) × List Value, (Pfx pre g'.2.2.1 g'.2.2.2 ∧ Conc X.objs w0 F g'.2.2.1 g'.2.2.2 g'.2.1 a' as w' ∧ (iterC body g'.1 g'.2.1 K).sat X R g'.2.2.1) ∧ g'.1 < n + 1
      | e => Q e a' w') env ρ a w hp hc ?_ hs) ?_
    · intro ex st' env' ρ' a' w' hp' hc' hs'
      cases ex with
      | normal => exact ⟨(n, st', env', ρ'), ⟨hp', hc', hs'⟩, by simp⟩
      | exit i => exact hK _ _ _ _ _ _ hp' hc' hs'
      | ret => exact hK _ _ _ _ _ _ hp' hc' hs'
    · intro e a' w' h
      cases e <;> first | exact h | exact h.elim

theorem prefix_take {α : Type} {p l : List α} {n : Nat} (h : p <+: l) (hn : p.length ≤ n) : p <+: l.take n := by
  obtain ⟨r, rfl⟩ := h
  rw [List.take_append]
  rw [List.take_of_length_le hn]
  exact List.prefix_append _ _
theorem prefix_names {p ρ ρ' : List Value} {h0 : Nat} (h : p <+: ρ) (hn : p.length ≤ h0) (hs : ∀ n, n < h0 → n < ρ'.length ∧ hv ρ' n = hv ρ n) : p <+: ρ' := by
  obtain ⟨r, rfl⟩ := h
  refine ⟨ρ'.drop p.length, ?_⟩
  have hpl : p.length ≤ ρ'.length := by
    by_cases h : p.length = 0
    · omega
    · have := (hs (p.length - 1) (by omega)).1; omega
  apply List.ext_getElem?
  intro i
  by_cases hi : i < p.length
  · obtain ⟨h1, h2⟩ := hs i (by omega)
    rw [List.getElem?_append_left hi, List.getElem?_eq_getElem hi, List.getElem?_eq_getElem h1]
    simp only [hv, List.getD, List.getElem?_eq_getElem h1, List.getElem?_append_left hi, List.getElem?_eq_getElem hi, Option.getD_some] at h2
    rw [h2]
  · rw [List.getElem?_append_right (by omega), List.getElem?_drop]
    congr 1
    omega

theorem findLoop_spec {f rid id : Nat} {s : LoopS U} : ∀ (ss : List (LoopS U)) (i : Nat), findLoop f rid i ss = some (id, s) → ∃ j, id = i + j ∧ ss[j]? = some s
  | [], i, h => by simp [findLoop] at h
  | t :: ss, i, h => by
    simp only [findLoop] at h
    split at h
    · simp only [Option.some.injEq, Prod.mk.injEq] at h
      exact ⟨0, h.1.symm, by simp [h.2]⟩
    · obtain ⟨j, e1, e2⟩ := findLoop_spec ss (i + 1) h
      exact ⟨j + 1, by omega, by simpa using e2⟩

def jumpOf : SExit → Option Code
  | .normal => none
  | .ret => some .ret
  | .exit id => some (.exit id)
theorem objOf_stOf (L : Loop) (ex : SExit) : objOf L (stOf ex) = .loop { L with state := if (jumpOf ex).isNone then .ready else .done, pending := jumpOf ex } := by cases ex <;> rfl
theorem isNorm_jump (ex : SExit) : (jumpOf ex).isNone = isNorm ex := by cases ex <;> rfl
set_option maxHeartbeats 1000000 in
theorem range_sound (ho : ObjsOk X.objs) (hinl : ∀ base rnd, RndOk X R w0 F base rnd → InlOk X R w0 F base (inlR rnd)) {f : FuncId} {base : List (EV U) × List Value} {rnd : Rnd} (hrnd : RndOk X R w0 F base rnd)
    {ro : Option Nat} {rd : Bool} (hrd : rd = false → ro = none) {as : List Act} {h0 : Nat} {g : Operand} {ps : Array Tmp} {x y : Code}
    (ihx : ∀ (base : List (EV U) × List Value) (rnd : Rnd) (hrnd : RndOk X R w0 F base rnd)
      (ro : Option Nat) (rd : Bool) (hrd : rd = false → ro = none) (as : List Act) (h0 : Nat) (pre : List (EV U) × List Value) (st : St) (K : SExit → St → Tree) (Q : SExit → Act → World → Prop)
      (env : List (EV U)) (ρ : List Value) (a : Act) (w : World), Pfx base pre.1 pre.2 → Pfx pre env ρ → pre.2.length ≤ h0 → Conc X.objs w0 F env ρ st a as w → Outs X R w0 F pre as K Q → (runCode X inlR rnd f h0 rd x st K).sat X R env → x.wpIn (fR ro) 0 X.P (lift Q) a w)
    (ihy : ∀ (base : List (EV U) × List Value) (rnd : Rnd) (hrnd : RndOk X R w0 F base rnd)
      (ro : Option Nat) (rd : Bool) (hrd : rd = false → ro = none) (as : List Act) (h0 : Nat) (pre : List (EV U) × List Value) (st : St) (K : SExit → St → Tree) (Q : SExit → Act → World → Prop)
      (env : List (EV U)) (ρ : List Value) (a : Act) (w : World), Pfx base pre.1 pre.2 → Pfx pre env ρ → pre.2.length ≤ h0 → Conc X.objs w0 F env ρ st a as w → Outs X R w0 F pre as K Q → (runCode X inlR rnd f h0 rd y st K).sat X R env → y.wpIn (fR ro) 0 X.P (lift Q) a w)
    {pre : List (EV U) × List Value} {st : St} {K : SExit → St → Tree} {Q : SExit → Act → World → Prop} {env : List (EV U)} {ρ : List Value} {a : Act} {w : World} (hb : Pfx base pre.1 pre.2) (hp : Pfx pre env ρ) (hc : Conc X.objs w0 F env ρ st a as w)
    (hK : Outs X R w0 F pre as K Q) (hs : (runCode X inlR rnd f h0 rd (.rangeFunc g ps x y) st K).sat X R env) : (Code.rangeFunc g ps x y).wpIn (fR ro) 0 X.P (lift Q) a w := by
  simp only [runCode] at hs
  split at hs
  · exact hs.elim
  rename_i hrdf
  have hro : ro = none := hrd (by simpa using hrdf)
  subst hro
  split at hs
  rotate_left
  · exact hs.elim
  rename_i it first captured hg
  have hgr := evalO_rel hc.tm.1 g
  rw [hg] at hgr
  obtain ⟨fs, cs, e, hfd, hcd⟩ := den_func (hgr.den (by simp))
  refine wpIn_rangeFunc (fun fn _ => ?_)
  let L : Loop := { state := .ready, pending := none, fn := fn, tmps := a.tmps, params := ps, assign := x, body := y, defers := w.heap.size }
  have hi : (env ++ [EV.r L])[st.ne]? = some (.r L) := by rw [← hc.ne]; exact last_get _
  have hlen := hc.sat.len
  let ρ1 : List Value := ρ ++ [.pointer (some ⟨w.heap.size, 0, none⟩)] ++ [.pointer (some ⟨w.heap.size + 1, 0, none⟩)]
  let w1 : World := (w.alloc (.deferred (some []))).alloc (.loop L)
  let a1 : Act := { a with defers := [{ target := .collected w.heap.size, args := #[] }] ++ a.defers }
  let st1 : St := { st with tm := { st.tm with mks := st.hp.length :: st.tm.mks }, hp := st.hp ++ [HE.sys st.ne .dfr, HE.sys st.ne .ready], ne := st.ne + 1 }
  have hm : hv ρ1 st.hp.length = .pointer (some ⟨w.heap.size, 0, none⟩) := by
    show hv (ρ ++ [_] ++ [_]) _ = _
    rw [hv_app (by simp [hlen]), ← hlen, hv_len]
  have hn : hv ρ1 (st.hp.length + 1) = .pointer (some ⟨w.heap.size + 1, 0, none⟩) := by
    have : st.hp.length + 1 = (ρ ++ [Value.pointer (some ⟨w.heap.size, 0, none⟩)]).length := by simp [hlen]
    rw [this]
    exact hv_len _ _
  have hcC : Conc X.objs w0 F (env ++ [.r L]) ρ1 st1 a1 as w1 := by
    have hcB := ((hc.ext [.r L]).allocSys .dfr hi).allocSys .ready hi
    have hsz : (w.alloc (objOf L .dfr)).heap.size = w.heap.size + 1 := World.size_alloc ..
    rw [hsz] at hcB
    refine ⟨hcB.ne, hcB.pc, ⟨hcB.tm.1, ?_, ?_⟩, hcB.stk, ?_⟩
    · show [_] ++ a.defers = List.map _ (st.hp.length :: st.tm.mks)
      have h2 : a.defers = st.tm.mks.map (markOf ρ1) := hcB.tm.2.1
      rw [List.map_cons, ← h2]
      unfold markOf
      rw [hm]
      rfl
    · intro k hk
      rcases List.mem_cons.1 hk with rfl | hk
      · simp [ρ1, hlen]
      · exact hcB.tm.2.2 k hk
    · have h := hcB.sat
      have happ : st.hp ++ [HE.sys st.ne .dfr, HE.sys st.ne .ready] = (st.hp ++ [HE.sys st.ne .dfr]) ++ [HE.sys st.ne .ready] := by simp
      show Sat X.objs w0 F _ ρ1 (st.hp ++ [HE.sys st.ne .dfr, HE.sys st.ne .ready]) w1
      rw [happ]
      exact h
  have hpx : Pfx (env, ρ) (env ++ [.r L]) ρ1 := ⟨List.prefix_append _ _, (List.prefix_append _ _).trans (List.prefix_append _ _)⟩
  have hyd : DenL (env ++ [.r L]) ρ1 [.yld (st.hp.length + 1)] [.func (.yield (w.heap.size + 1)) #[] #[]] := by
    refine DenL.cons ⟨fun xs ys => ?_, trivial⟩ DenL.nil
    simp only [SV.den]
    rw [hv_app (by simp [ρ1, hlen]), hn]
    rfl
  have hargs : ArgsRel (env ++ [.r L]) ρ1 (first ++ [.yld (st.hp.length + 1)] ++ captured) (fs ++ [.func (.yield (w.heap.size + 1)) #[] #[]] ++ cs) := by
    have e1 := hfd.ext [EV.r L] ([.pointer (some ⟨w.heap.size, 0, none⟩)] ++ [.pointer (some ⟨w.heap.size + 1, 0, none⟩)])
    have e2 := hcd.ext [EV.r L] ([.pointer (some ⟨w.heap.size, 0, none⟩)] ++ [.pointer (some ⟨w.heap.size + 1, 0, none⟩)])
    rw [← List.append_assoc] at e1 e2
    exact ((ArgsRel.of_den e1).append (ArgsRel.of_den hyd)).append (ArgsRel.of_den e2)
  -- a round
  have hrnd1 : RndOk X R w0 F (env ++ [.r L], ρ1) (fun n' args st' K' => if n' = st.hp.length + 1 then roundS st.tm st.ne (st.hp.length + 1) ps.toList (runCode X inlR rnd f st'.hp.length true x) (runCode X inlR rnd f st'.hp.length true y) args st' K' else rnd n' args st' K') := by
    intro pre2 m args st2 K2 env2 ρ2 a2 as2 w2 vals N2 hb2 hp2 hc2 ha2 hK2 hs2
    have hbp : Pfx base pre2.1 pre2.2 := by
      have h1 := (hb.trans hp).trans (p := (env, ρ)) hpx
      exact ⟨h1.1.trans hb2.1, h1.2.trans hb2.2⟩
    dsimp only at hs2
    split at hs2
    rotate_left
    · exact hrnd pre2 m args st2 K2 env2 ρ2 a2 as2 w2 vals N2 hbp hp2 hc2 ha2 hK2 hs2
    rename_i hmn
    subst hmn
    have hE : (env ++ [EV.r L]) <+: env2 := hb2.1.trans hp2.1
    have hR : ρ1 <+: ρ2 := hb2.2.trans hp2.2
    have hL2 : env2[st.ne]? = some (.r L) := get_pre hE hi
    have hn2 : hv ρ2 (st.hp.length + 1) = .pointer (some ⟨w.heap.size + 1, 0, none⟩) := by rw [hv_pre hR (by simp [ρ1, hlen]), hn]
    unfold roundS at hs2
    split at hs2
    rotate_left
    · exact hs2.elim
    rename_i i hsys
    split at hs2
    rotate_left
    · exact hs2.elim
    rename_i hcond
    obtain ⟨rfl, hal⟩ := hcond
    obtain ⟨b, L', e1, e2, e3⟩ := hc2.sysAt hsys
    rw [hn2] at e1; injection e1 with e1; injection e1 with e1; injection e1 with e1; subst e1
    rw [hL2] at e2; injection e2 with e2; injection e2 with e2; subst e2
    have hbk : (addrOf (hv ρ2 (st.hp.length + 1))).block = w.heap.size + 1 := by rw [hn2]; rfl
    rw [hbk]
    have hvl : vals.length = ps.size := by rw [← ha2.1, hal]; simp
    refine ⟨{ L with state := .ready, pending := none }, e3, hvl, ?_⟩
    have hlen2 : pre2.2.length ≤ st2.hp.length := by
      have := hp2.2.length_le
      rw [hc2.sat.len] at this
      exact this
    have hca : Conc X.objs w0 F env2 ρ2 { st2 with tm := { setTms st.tm ps.toList args with mks := [] }, stk := st2.tm :: st2.stk }
        { tmps := (ps.zip vals.toArray).foldl (fun tmps (t, a) => tmps.setIfInBounds t a) a.tmps, defers := [] } (a2 :: as2) w2 := by
      refine ⟨hc2.ne, hc2.pc, ⟨?_, rfl, by simp⟩, .cons hc2.tm hc2.stk, hc2.sat⟩
      have h2 : TmRel env2 ρ2 st.tm a.tmps := by
        obtain ⟨o, rfl⟩ := hE
        obtain ⟨r, rfl⟩ := hR
        have := (hc.tm.ext [EV.r L] ([.pointer (some ⟨w.heap.size, 0, none⟩)] ++ [.pointer (some ⟨w.heap.size + 1, 0, none⟩)])).ext o r
        rw [← List.append_assoc ρ] at this
        exact this.1
      have h3 := setTms_rel ps.toList args vals st.tm a.tmps h2 ha2.1 ha2.2
      rw [show (ps.zip vals.toArray).foldl (fun tmps (x : Tmp × Value) => tmps.setIfInBounds x.1 x.2) a.tmps = (ps.toList.zip vals).foldl (fun tmps (x : Tmp × Value) => tmps.setIfInBounds x.1 x.2) a.tmps by
        rw [← Array.foldl_toList]; simp]
      exact h3
    refine roundIn_of_wpIn (F := Fence.wide) trivial (wpIn_mono (ihx base rnd hrnd (some (w.heap.size + 1)) true (fun h => by cases h) (a2 :: as2) st2.hp.length pre2 _ _
      (fun ex a' w' => ex = .normal ∧ ∃ w3, (Instr.beginRound (w.heap.size + 1)).run X.P w' = .ok () w3 ∧ y.wpIn (Fence.wide.inRound (w.heap.size + 1)) 0 X.P (roundPost X.P (w.heap.size + 1) (fun e w'' => ∃ c, e = .returned c ∧ N2 c w'')) a' w3)
      env2 ρ2 _ _ hbp hp2 hlen2 hca ?_ hs2) ?_)
    rotate_left
    · intro e a' w' h
      cases e with
      | normal => exact h.2
      | ret => cases h.1
      | exit i => cases h.1
      | goto l => exact h.elim
      | panic c => exact h.elim
      | outgrown => exact h.elim
    intro ex5 st5 env5 ρ5 a5 w5 hp5 hc5 hs5
    dsimp only at hs5
    split at hs5
    rotate_left
    · exact hs5.elim
    rename_i i5 hsys5
    split at hs5
    rotate_left
    · exact hs5.elim
    rename_i hii5
    subst hii5
    have hE5 : (env ++ [EV.r L]) <+: env5 := hb2.1.trans hp5.1
    have hR5 : ρ1 <+: ρ5 := hb2.2.trans hp5.2
    have hL5 : env5[st.ne]? = some (.r L) := get_pre hE5 hi
    have hn5 : hv ρ5 (st.hp.length + 1) = .pointer (some ⟨w.heap.size + 1, 0, none⟩) := by rw [hv_pre hR5 (by simp [ρ1, hlen]), hn]
    obtain ⟨b5, L5, q1, q2, q3⟩ := hc5.sysAt hsys5
    rw [hn5] at q1; injection q1 with q1; injection q1 with q1; injection q1 with q1; subst q1
    rw [hL5] at q2; injection q2 with q2; injection q2 with q2; subst q2
    have hcb := hc5.setSys (j' := .busy) hsys5 hn5 hL5
    refine ⟨rfl, _, run_beginRound q3 rfl, ?_⟩
    refine wpIn_mono (ihy base rnd hrnd (some (w.heap.size + 1)) true (fun h => by cases h) (a2 :: as2) st2.hp.length pre2 _ _ (fun ex a' w' => ∃ v w'', (Instr.endRound (w.heap.size + 1) (jumpOf ex)).run X.P w' = .ok v w'' ∧ ∃ c, Ending.returned v = .returned c ∧ N2 c w'')
      env5 ρ5 _ _ hbp hp5 hlen2 hcb ?_ hs5) ?_
    · intro ex st3 env3 ρ3 a3 w3 hp3 hc3 hs3
      dsimp only at hs3
      have hstk := hc3.stk
      obtain ⟨tm0, stk0, hst, g1, g2⟩ : ∃ tm0 stk0, st3.stk = tm0 :: stk0 ∧ TmOk env3 ρ3 tm0 a2 ∧ Stk env3 ρ3 stk0 as2 := by
        generalize st3.stk = l at hstk
        cases hstk with
        | cons h1 h2 => exact ⟨_, _, rfl, h1, h2⟩
      rw [hst] at hs3
      split at hs3
      rotate_left
      · exact hs3.elim
      rename_i tm1 stk1 i3 hcons hsys3
      injection hcons with q1 q2
      subst q1 q2
      split at hs3
      rotate_left
      · exact hs3.elim
      rename_i hii
      subst hii
      have hE3 : (env ++ [EV.r L]) <+: env3 := hb2.1.trans hp3.1
      have hR3 : ρ1 <+: ρ3 := hb2.2.trans hp3.2
      have hL3 : env3[st.ne]? = some (.r L) := get_pre hE3 hi
      have hn3 : hv ρ3 (st.hp.length + 1) = .pointer (some ⟨w.heap.size + 1, 0, none⟩) := by rw [hv_pre hR3 (by simp [ρ1, hlen]), hn]
      obtain ⟨b3, L3, f1, f2, f3⟩ := hc3.sysAt hsys3
      rw [hn3] at f1; injection f1 with f1; injection f1 with f1; injection f1 with f1; subst f1
      rw [hL3] at f2; injection f2 with f2; injection f2 with f2; subst f2
      have hend := run_endRound (P := X.P) (jumpOf ex) f3
      have hc4 := hc3.setSys (j' := stOf ex) hsys3 hn3 hL3
      rw [objOf_stOf] at hc4
      have hc5 : Conc X.objs w0 F env3 ρ3 { st3 with tm := tm0, stk := stk0, hp := st3.hp.set (st.hp.length + 1) (.sys st.ne (stOf ex)) } a2 as2 _ := ⟨hc4.ne, hc4.pc, g1, g2, hc4.sat⟩
      refine ⟨_, _, hend, _, rfl, hK2 _ _ env3 ρ3 _ _ hp3 hc5 (.inr ?_) hs3⟩
      rw [isNorm_jump]
      exact bool_den (denB_lit (isNorm ex))
    · intro e a' w' h
      cases e with
      | normal => exact h
      | ret => exact h
      | exit i => exact h
      | goto l => exact h.elim
      | panic c => exact h.elim
      | outgrown => exact h.elim
  have hsL : (Tree.rng _).sat X R env := hs
  have hs1 := hsL L
  clear hsL
  have hI := hinl _ _ hrnd1
  have hI2 := fun hk => hI (env ++ [.r L], ρ1) it _ st1 _ (env ++ [.r L]) ρ1 a1 as w1 (fs ++ [.func (.yield (w.heap.size + 1)) #[] #[]] ++ cs)
    (fun _ w3 => ∃ jump w4, (Instr.endLoop (w.heap.size + 1)).run X.P w3 = .ok jump w4 ∧ (match jump with | none => lift Q .normal a1 w4 | some c => c.wpIn (fR none) 0 X.P (lift Q) a1 w4))
    ⟨List.prefix_refl _, List.prefix_refl _⟩ ⟨List.prefix_refl _, List.prefix_refl _⟩ hcC hargs hk hs1
  obtain ⟨⟨fnI, body, hfn, hbody, hname⟩, hcalls⟩ := hI2 (by
    intro v st3 env3 ρ3 c3 w3 hp3 hc3 hr3 hs3
    split at hs3
    rotate_left
    · exact hs3.elim
    rename_i i3 j3 hsys3
    split at hs3
    rotate_left
    · exact hs3.elim
    rename_i hii
    subst hii
    split at hs3
    rotate_left
    · exact hs3.elim
    rename_i ex hex
    have hL3 : env3[st.ne]? = some (.r L) := get_pre hp3.1 hi
    have hn3 : hv ρ3 (st.hp.length + 1) = .pointer (some ⟨w.heap.size + 1, 0, none⟩) := by rw [hv_pre hp3.2 (by simp [ρ1, hlen]), hn]
    obtain ⟨b3, L3, f1, f2, f3⟩ := hc3.sysAt hsys3
    rw [hn3] at f1; injection f1 with f1; injection f1 with f1; injection f1 with f1; subst f1
    rw [hL3] at f2; injection f2 with f2; injection f2 with f2; subst f2
    have hpp : Pfx pre env3 ρ3 := (hp.trans (p := (env, ρ)) hpx).trans (p := (env ++ [.r L], ρ1)) hp3
    cases j3 with
    | dfr => cases hex
    | busy => cases hex
    | ready =>
      injection hex with hex; subst hex
      exact ⟨_, _, run_endLoop f3 (by simp), hK _ _ _ _ _ _ hpp (hc3.freeSys _ hsys3 hn3) hs3⟩
    | ret =>
      injection hex with hex; subst hex
      exact ⟨_, _, run_endLoop f3 (by simp), wpIn_ret (hK _ _ _ _ _ _ hpp (hc3.freeSys _ hsys3 hn3) hs3)⟩
    | exit id =>
      injection hex with hex; subst hex
      exact ⟨_, _, run_endLoop f3 (by simp), wpIn_exit (hK _ _ _ _ _ _ hpp (hc3.freeSys _ hsys3 hn3) hs3)⟩)
  have k1 : (Instr.enterLoop fn a.tmps ps x y (fR none).round).run X.P w = .ok (w.heap.size + 1, [{ target := .collected w.heap.size, args := #[] }]) w1 := run_enterLoop_outer fn a.tmps ps x y
  have k2 : (resolve a.eval (rangeCall g (w.heap.size + 1)) 0).run X.P w1 = .ok { target := .fn (.func it) cs.toArray, args := fs.toArray ++ #[Value.func (.yield (w.heap.size + 1)) #[] #[]] } w1 := by
    have hmap : Array.map a.eval #[Operand.const (Value.func (.yield (w.heap.size + 1)) #[] #[])] = #[Value.func (.yield (w.heap.size + 1)) #[] #[]] := by simp [Act.eval]
    simp only [resolve, rangeCall, e, Deferred.ofValue, Sem.run_pure, hmap]
  have k3 : (invoke (.fn (.func it) cs.toArray) (fs.toArray ++ #[Value.func (.yield (w.heap.size + 1)) #[] #[]])).run X.P w1 = .ok (.enter it (fs ++ [Value.func (.yield (w.heap.size + 1)) #[] #[]] ++ cs).toArray) w1 := by
    have hee := Go.MuLone.run_callFunc_enter hfn hname hbody (fs ++ [Value.func (.yield (w.heap.size + 1)) #[] #[]] ++ cs).toArray w1
    have harr : (fs.toArray ++ #[Value.func (.yield (w.heap.size + 1)) #[] #[]] ++ cs.toArray : Array Value) = (fs ++ [Value.func (.yield (w.heap.size + 1)) #[] #[]] ++ cs).toArray := by apply Array.toList_inj.1; simp
    simp only [invoke]
    rw [harr, hee]
  have k4 : CallsIn (fR none) (0 - 1) X.P it (fs ++ [Value.func (.yield (w.heap.size + 1)) #[] #[]] ++ cs).toArray w1 (rangePost (fR none) 0 X.P (w.heap.size + 1) (lift Q) a1) := by
    refine CallsIn.mono (callsR hcalls) fun e w' he => ?_
    obtain ⟨c, rfl, hn⟩ := he
    exact hn
  exact ⟨w.heap.size + 1, _, w1, _, w1, it, _, w1, k1, k2, fun _ _ => trivial, k3, depthR, k4⟩

theorem runCode_sound (ho : ObjsOk X.objs) (hinl : ∀ base rnd, RndOk X R w0 F base rnd → InlOk X R w0 F base (inlR rnd)) (hmix : X.P.follows .mixedOrders = true) (f : FuncId) : ∀ (c : Code) (base : List (EV U) × List Value) (rnd : Rnd) (hrnd : RndOk X R w0 F base rnd)
    (ro : Option Nat) (rd : Bool) (hrd : rd = false → ro = none) (as : List Act) (h0 : Nat) (pre : List (EV U) × List Value) (st : St) (K : SExit → St → Tree) (Q : SExit → Act → World → Prop)
    (env : List (EV U)) (ρ : List Value) (a : Act) (w : World), Pfx base pre.1 pre.2 → Pfx pre env ρ → pre.2.length ≤ h0 → Conc X.objs w0 F env ρ st a as w → Outs X R w0 F pre as K Q → (runCode X inlR rnd f h0 rd c st K).sat X R env → c.wpIn (fR ro) 0 X.P (lift Q) a w := by
  intro c
  induction c with
  | skip => intro base rnd hrnd ro rd hrd as h0 pre st K Q env ρ a w hb hp hl hc hK hs; exact wpIn_skip (hK _ _ _ _ _ _ hp hc hs)
  | label l => intro base rnd hrnd ro rd hrd as h0 pre st K Q env ρ a w hb hp hl hc hK hs; exact wpIn_label (hK _ _ _ _ _ _ hp hc hs)
  | region id ops draw =>
    intro base rnd hrnd ro rd hrd as h0 pre st K Q env ρ a w hb hp hl hc hK hs
    have hg : Goes X R w0 F pre as (K .normal) (Q .normal) := fun st' env' ρ' a' w' h1 h2 h3 => hK _ _ _ _ _ _ h1 h2 h3
    cases draw with
    | false => exact wpIn_region_list (runOps_sound ho (hinl base rnd hrnd) hb hrnd (fun a w h => h) hg _ _ _ _ _ _ hp hc hs)
    | true =>
      simp only [runCode] at hs
      split at hs
      · rename_i hnos
        exact draw_sound ho (hinl base rnd hrnd) hb hmix (Bool.and_eq_true _ _ ▸ hnos).1 (Bool.and_eq_true _ _ ▸ hnos).2 (fun a w h => h) (fun c a w h => h) (fun ⟨_, _, h⟩ => h) hg hp hc id _ _ 0 _ _ hs
      · exact hs.elim
  | seq x y ihx ihy =>
    intro base rnd hrnd ro rd hrd as h0 pre st K Q env ρ a w hb hp hl hc hK hs
    simp only [runCode] at hs
    refine wpIn_seq (wpIn_mono (ihx base rnd hrnd ro rd hrd as h0 pre st _ (fun ex a' w' => match ex with | .normal => y.wpIn (fR ro) 0 X.P (lift Q) a' w' | e => Q e a' w') env ρ a w hb hp hl hc ?_ hs) ?_)
    · intro ex st' env' ρ' a' w' hp' hc' hs'
      cases ex with
      | normal => exact ihy base rnd hrnd ro rd hrd as h0 pre st' K Q env' ρ' a' w' hb hp' hl hc' hK hs'
      | exit i => exact hK _ _ _ _ _ _ hp' hc' hs'
      | ret => exact hK _ _ _ _ _ _ hp' hc' hs'
    · intro e a' w' h
      cases e <;> first | exact h | exact h.elim
  | cond c x y ihx ihy =>
    intro base rnd hrnd ro rd hrd as h0 pre st K Q env ρ a w hb hp hl hc hK hs
    simp only [runCode] at hs
    have hr := evalO_rel hc.tm.1 c
    split at hs
    · rename_i hcv
      rw [hcv] at hr
      exact wpIn_cond_true (den_bool (hr.den (by simp))).1 (ihx base rnd hrnd ro rd hrd as h0 pre st K Q env ρ a w hb hp hl hc hK hs)
    · rename_i hcv
      rw [hcv] at hr
      exact wpIn_cond_false (den_bool (hr.den (by simp))).1 (ihy base rnd hrnd ro rd hrd as h0 pre st K Q env ρ a w hb hp hl hc hK hs)
    · rename_i x' hn1 hn2 hcv
      split at hs
      · rename_i d
        rw [hcv] at hr
        have hcv' : st.tm.getD d .junk = .bool x' := hcv
        have he := (den_bool (hr.den (by simp))).1
        obtain ⟨pc', hpc', hbr⟩ := brK_sound hc.pc (den_bool (hr.den (by simp))).2 hs
        have hc' := hc.setPc hpc'
        rcases hbr with ⟨hbx, h1⟩ | ⟨hbx, h1⟩
        · rw [hbx] at he
          exact wpIn_cond_true he (ihx base rnd hrnd ro rd hrd as h0 pre _ K Q env ρ a w hb hp hl (hc'.setB hcv' hbx) hK h1)
        · rw [hbx] at he
          exact wpIn_cond_false he (ihy base rnd hrnd ro rd hrd as h0 pre _ K Q env ρ a w hb hp hl (hc'.setB hcv' hbx) hK h1)
      · exact hs.elim
    · exact hs.elim
  | block id c ih =>
    intro base rnd hrnd ro rd hrd as h0 pre st K Q env ρ a w hb hp hl hc hK hs
    simp only [runCode] at hs
    refine wpIn_block (wpIn_mono (ih base rnd hrnd ro rd hrd as h0 pre st _ (fun ex a' w' => match ex with | .exit i => if i = id then Q .normal a' w' else Q (.exit i) a' w' | e => Q e a' w') env ρ a w hb hp hl hc ?_ hs) ?_)
    · intro ex st' env' ρ' a' w' hp' hc' hs'
      cases ex with
      | normal => exact hK _ _ _ _ _ _ hp' hc' hs'
      | exit i =>
        dsimp only at hs' ⊢
        split at hs'
        · rename_i hi; rw [if_pos hi]; exact hK _ _ _ _ _ _ hp' hc' hs'
        · rename_i hi; rw [if_neg hi]; exact hK _ _ _ _ _ _ hp' hc' hs'
      | ret => exact hK _ _ _ _ _ _ hp' hc' hs'
    · intro e a' w' h
      cases e <;> first | exact h | exact h.elim
  | loop c ih =>
    intro base rnd hrnd ro rd hrd as h0 pre st K Q env ρ a w hb hp hl hc hK hs
    simp only [runCode, St.force_eq] at hs
    split at hs
    · exact iterC_sound _ (fun st K Q env ρ a w hp hc hK hs => ih base rnd hrnd ro rd hrd as h0 pre st K Q env ρ a w hb hp hl hc hK hs) hK 70 st env ρ a w hp hc hs
    · rename_i id s hfind
      obtain ⟨st1, env1, ρ1, hc1, hs1, he1, hr1⟩ := nilFix_sound ho _ _ _ _ hc hs
      split at hs1
      · exact hs1.elim
      · rename_i hcond
        simp only [Bool.or_eq_true, Bool.not_eq_true', decide_eq_true_eq, not_or, Bool.not_eq_false, Nat.not_lt] at hcond
        split at hs1
        · rename_i β hfit
          have hne1 : st.ne ≤ st1.ne := by rw [← hc.ne, ← hc1.ne]; exact he1.length_le
          obtain ⟨ρ2, hc2, hsame, hβl⟩ := fit_sound hfit hne1 (by rw [headOf_ne]; omega) hc1
          rw [headOf_ne] at hβl
          simp only [Tree.sat] at hs1
          split at hs1
          · rename_i s' hid
            obtain ⟨hinv, hbody⟩ := hs1
            have hss : s = s' := by
              obtain ⟨j, e1, e2⟩ := findLoop_spec _ _ hfind
              rw [Nat.zero_add] at e1
              subst e1
              rw [hid] at e2
              injection e2 with e2
              exact e2.symm
            have htake : env1.take st.ne = env := by
              obtain ⟨r, rfl⟩ := he1
              rw [← hc.ne]
              simp
            -- the head, with whatever numbers
            refine wpIn_loop_g (G := List (EV U) × List Value) (fun g a w => ∃ fr, g.1 = env ++ fr ∧ fr.length = s'.nv ∧ s'.inv (env ++ fr) ∧ Conc X.objs w0 F g.1 g.2 (headOf s (writes c) st) a as w ∧ pre.2 <+: g.2) (fun g => s'.mu g.1) (env ++ β.map (Bnd.den env1), ρ2)
              ⟨_, rfl, ?_, by rw [← htake]; exact hinv, by rw [← htake]; exact hc2, prefix_names (hp.2.trans hr1) hl hsame⟩ ?_
            · rw [List.length_map, hβl, hss]; omega
            · rintro ⟨env3, ρ3⟩ a3 w3 ⟨fr, rfl, hfl, hinv3, hc3, hpn⟩
              have hsb := hbody fr hfl (by rw [htake]; exact hinv3)
              rw [htake] at hsb
              refine wpIn_mono (ih base rnd hrnd ro rd hrd as h0 (env ++ fr, pre.2) _ _ (fun ex a' w' => match ex with
                | .normal => ∃ g' : List (EV U) × List Value, (∃ fr, g'.1 = env ++ fr ∧ fr.length = s'.nv ∧ s'.inv (env ++ fr) ∧ Conc X.objs w0 F g'.1 g'.2 (headOf s (writes c) st) a' as w' ∧ pre.2 <+: g'.2) ∧ s'.mu g'.1 < s'.mu (env ++ fr)
                | e => Q e a' w') (env ++ fr) ρ3 a3 w3 ⟨hb.1.trans (hp.1.trans (List.prefix_append _ _)), hb.2⟩ ⟨List.prefix_refl _, hpn⟩ hl hc3 ?_ hsb) ?_
              · intro ex st' env' ρ' a' w' hp' hc' hs'
                have hpre' : Pfx pre env' ρ' := ⟨(hp.1.trans (List.prefix_append _ _)).trans hp'.1, hp'.2⟩
                cases ex with
                | normal =>
                  dsimp only at hs' ⊢
                  obtain ⟨st4, env4, ρ4, hc4, hs4, he4, hr4⟩ := nilFix_sound ho _ _ _ _ hc' hs'
                  split at hs4
                  · rename_i β' hfit'
                    have hne4 : st.ne ≤ st4.ne := by
                      have h1 := (hp'.1.trans he4).length_le
                      have := hc.ne; have := hc4.ne
                      simp at h1; omega
                    obtain ⟨ρ5, hc5, hsame5, hβl5⟩ := fit_sound hfit' hne4 (by rw [headOf_ne]; omega) hc4
                    simp only [Tree.sat, hid] at hs4
                    have ht4 : env4.take st.ne = env := by
                      obtain ⟨r, rfl⟩ := (hp'.1.trans he4)
                      rw [← hc.ne, List.append_assoc]
                      simp
                    have ht5 : env4.take (st.ne + s'.nv) = env ++ fr := by
                      obtain ⟨r, rfl⟩ := (hp'.1.trans he4)
                      rw [← hc.ne, ← hfl, ← List.length_append, List.take_left]
                    rw [ht4, ht5] at hs4
                    rw [ht4] at hc5
                    exact ⟨(env ++ β'.map (Bnd.den env4), ρ5), ⟨_, rfl, by rw [headOf_ne] at hβl5; rw [List.length_map, hβl5, hss]; omega, hs4.1, hc5, prefix_names (hp'.2.trans hr4) hl hsame5⟩, hs4.2⟩
                  · exact hs4.elim
                | exit i => exact hK _ _ _ _ _ _ hpre' hc' hs'
                | ret => exact hK _ _ _ _ _ _ hpre' hc' hs'
              · intro e a' w' h
                cases e <;> first | exact h | exact h.elim
          · exact hs1.elim
        · exact iterC_sound _ (fun st K Q env ρ a w hp hc hK hs => ih base rnd hrnd ro rd hrd as h0 pre st K Q env ρ a w hb hp hl hc hK hs) hK 2 st1 env1 ρ1 a w ⟨hp.1.trans he1, hp.2.trans hr1⟩ hc1 hs1
  | exit id => intro base rnd hrnd ro rd hrd as h0 pre st K Q env ρ a w hb hp hl hc hK hs; exact wpIn_exit (hK _ _ _ _ _ _ hp hc hs)
  | ret => intro base rnd hrnd ro rd hrd as h0 pre st K Q env ρ a w hb hp hl hc hK hs; exact wpIn_ret (hK _ _ _ _ _ _ hp hc hs)
  | scope c ih =>
    intro base rnd hrnd ro rd hrd as h0 pre st K Q env ρ a w hb hp hl hc hK hs
    simp only [runCode] at hs
    refine wpIn_scope_straight (wpIn_mono (ih base rnd hrnd ro rd hrd as h0 pre st K Q env ρ a w hb hp hl hc hK hs) ?_)
    intro e a' w' h
    cases e <;> first | exact h | exact h.elim
  | rangeFunc g ps x y ihx ihy =>
    intro base rnd hrnd ro rd hrd as h0 pre st K Q env ρ a w hb hp hl hc hK hs
    exact range_sound ho hinl hrnd hrd ihx ihy hb hp hc hK hs
  | goto l => intro base rnd hrnd ro rd hrd as h0 pre st K Q env ρ a w hb hp hl hc hK hs; exact hs.elim
  | refuse s => intro base rnd hrnd ro rd hrd as h0 pre st K Q env ρ a w hb hp hl hc hK hs; exact hs.elim

def resF (tmps : Array Value) (r : ResultVar) : Sem Value :=
  match r with
  | .tmp t => pure (tmps.getD t undef)
  | .cell a t => do loadVar t (← asAddr (tmps.getD a undef))
theorem results_eq (fn : Func) (tmps : Array Value) : results fn tmps = (do let vs ← fn.results.mapM (resF tmps); pure (if h : vs.size = 1 then vs[0] else .tuple vs)) := rfl
theorem resS_sound {env : List (EV U)} {ρ : List Value} {hp : List HE} {tm : Tm} {tmps : Array Value} {w : World} (ht : TmRel env ρ tm tmps) (hr : Reads env ρ hp w) : ∀ (rs : List ResultVar) (l : List SV), resS X.P hp tm rs = some l →
    ∃ cs : List Value, DenL env ρ l cs ∧ (rs.mapM (resF tmps)).run X.P w = .ok cs w
  | [], l, h => by
    simp only [resS, Option.some.injEq] at h
    subst h
    exact ⟨[], DenL.nil, by simp⟩
  | .tmp t :: rs, l, h => by
    simp only [resS] at h
    split at h
    · rename_i hsure
      simp only [Option.map_eq_some_iff] at h
      obtain ⟨l', hl', rfl⟩ := h
      obtain ⟨cs, h1, h2⟩ := resS_sound ht hr rs l' hl'
      exact ⟨_ :: cs, DenL.cons ((ht.2 t).den (sure_ne hsure)) h1, by simp [h2, resF]⟩
    · cases h
  | .cell a t :: rs, l, h => by
    simp only [resS] at h
    split at h
    · rename_i v hload
      split at h
      · rename_i hsure
        simp only [Option.map_eq_some_iff] at h
        obtain ⟨l', hl', rfl⟩ := h
        obtain ⟨cs, h1, h2⟩ := resS_sound ht hr rs l' hl'
        obtain ⟨c, ad, e1, e2, e3⟩ := loadS_sound (W := fun w' => w' = w) hload (ht.2 a) (fun w' h => by rw [h]; exact hr) rfl (by simp)
        refine ⟨c :: cs, DenL.cons (e1.den (sure_ne hsure)) h1, ?_⟩
        have e4 : (resF tmps (.cell a t)).run X.P w = .ok c w := by
          simp only [resF, e2, asAddr, Sem.run_bind, Sem.run_pure, Result.andThen_ok, e3 w rfl]
        simp [e4, h2]
      · cases h
    · cases h

theorem resV_sound {env : List (EV U)} {ρ : List Value} {l : List SV} {cs : List Value} (h : DenL env ρ l cs) : Den env ρ (resV l) (if h : cs.toArray.size = 1 then cs.toArray[0] else .tuple cs.toArray) := by
  have hl := h.len
  unfold resV
  split
  · rename_i v
    obtain ⟨c, ds, rfl, h1, h2⟩ := h.uncons
    have : ds = [] := by simpa using hl
    subst this
    simpa using h1
  · rename_i hne
    have : ¬ cs.toArray.size = 1 := by
      intro e
      simp at e
      rw [← hl] at e
      obtain ⟨v, rfl⟩ := List.length_eq_one_iff.1 e
      exact hne v rfl
    rw [dif_neg this]
    exact tuple_den h

theorem ofList_rel {env : List (EV U)} {ρ : List Value} {args : List SV} {vals : List Value} {n : Nat} (ha : ArgsRel env ρ args vals) :
    TmRel env ρ (Tm.ofList args n) (vals.toArray ++ Array.replicate (n - vals.toArray.size) undef) := by
  refine ⟨by have := ha.1; simp [Tm.ofList]; omega, fun i => ?_⟩
  have h := Tr.get_mk (fun i => args.getD i .junk) (args.length + (n - args.length)) 12 1 0 i
  simp only [Nat.one_mul, Nat.add_zero] at h
  simp only [Tm.getD, Tm.ofList]
  rcases h with h | h
  · rw [h]
    by_cases hi : i < args.length
    · have := ha.2 i
      have hi2 : i < vals.length := by rw [← ha.1]; exact hi
      simp only [List.getD, Array.getD_eq_getD_getElem?] at this ⊢
      rw [Array.getElem?_append_left (by simpa using hi2)]
      simpa using this
    · simp only [List.getD, List.getElem?_eq_none (Nat.le_of_not_lt hi)]
      exact .inl rfl
  · rw [h]; exact .inl rfl

theorem leaves_marks {objs : List (ObjT U)} {env : List (EV U)} {ρ : List Value} {P : Program} {fn : Func} {tmps : Array Value} {R : Ending → World → Prop} : ∀ (mks : List Nat) (hp hp1 : List HE) {w : World}, unMark hp mks = some hp1 → Sat objs w0 F env ρ hp w →
    (∀ w1, Sat objs w0 F env ρ hp1 w1 → LeavesInM (fR none) 0 P fn tmps R [] .returning w1) → LeavesInM (fR none) 0 P fn tmps R (mks.map (markOf ρ)) .returning w
  | [], hp, hp1, w, h, hs, hk => by
    simp only [unMark, Option.some.injEq] at h
    subst h
    exact hk w hs
  | m :: ms, hp, hp1, w, h, hs, hk => by
    simp only [unMark] at h
    split at h
    · rename_i i hm
      obtain ⟨S, hS⟩ := hs.own
      obtain ⟨b, L, e1, e2, e3, e4⟩ := hS.holds m _ hm
      refine ⟨by simp, .inl ⟨b, w.putObj b (.deferred none), by simp [markOf, e1, addrOf], run_takeDeferred e3, leaves_marks ms _ _ h (hs.freeSys _ hm e1) hk⟩⟩
    · cases h

theorem runFn_sound (ho : ObjsOk X.objs) (hmix : X.P.follows .mixedOrders = true) (hcts : ∀ (ci : Nat) (c : Ctr U), X.cts[ci]? = some c → c.Holds X.objs X.P) : ∀ n base rnd, RndOk X R w0 F base rnd → InlOk X R w0 F base (runFn X n rnd) := by
  intro n
  induction n with
  | zero => intro base rnd hrnd pre g args st K env ρ a as w vals N hbase hp hc ha hK hs; exact hs.elim
  | succ n ih0 =>
    have hinl : ∀ base rnd, RndOk X R w0 F base rnd → InlOk X R w0 F base ((fun rnd g as st K => toRows X.P (wantRows X.cts g as) st fun st => match tryCtrs g as st K 0 X.cts with | some t => t | none => runFn X n rnd g as st K : Rnd → FuncId → List SV → St → (SV → St → Tree) → Tree) rnd) := by
      intro base rnd hrnd
      have ih := ih0 base rnd hrnd
      intro pre g args st K env ρ a as w vals N hbase hp hc ha hK hs
      obtain ⟨st2, o, hc2, hs2⟩ := toRows_sound _ _ _ hc hs
      have main : ∀ st (env : List (EV U)), Pfx pre env ρ → Conc X.objs w0 F env ρ st a as w → ArgsRel env ρ args vals → (match tryCtrs g args st K 0 X.cts with | some t => t | none => runFn X n rnd g args st K).sat X R env →
          Callable X.P g ∧ Calls X.P g vals.toArray w fun e w' => ∃ c, e = .returned c ∧ N c w' := by
        clear hs hc ha hp hs2 hc2
        intro st env hp hc ha hs
        split at hs
        · rename_i T hT
          have key : ∀ (cs : List (Ctr U)) (i : Nat), (∀ j, cs[j]? = X.cts[i + j]?) → tryCtrs g args st K i cs = some T → ∃ ci c, X.cts[ci]? = some c ∧ c.fn = g ∧ tryCtr c ci args st K = some T := by
            intro cs
            induction cs with
            | nil => intro i _ h; simp [tryCtrs] at h
            | cons c cs ihc =>
              intro i hcs h
              have hrest := ihc (i + 1) (fun j => by have := hcs (j + 1); simp at this; rw [this]; congr 1; omega)
              simp only [tryCtrs] at h
              split at h
              · rename_i hfn
                split at h
                · rename_i t ht
                  injection h with h
                  subst h
                  exact ⟨i, c, by have := hcs 0; simpa using this.symm, hfn, ht⟩
                · exact hrest h
              · exact hrest h
          obtain ⟨ci, c, h1, rfl, h2⟩ := key X.cts 0 (fun j => by simp) hT
          exact tryCtr_sound h1 (hcts ci c h1) h2 hp hc ha hK hs
        · exact ih pre g args st K env ρ a as w vals N hbase hp hc ha hK hs
      exact main st2 _ (hp.env o) hc2 ⟨ha.1, fun i => by simpa using (ha.2 i).ext o []⟩ hs2
    intro base rnd hrnd pre g args st K env ρ a as w vals N hbase hp hc ha hK hs
    simp only [runFn, St.force_eq] at hs
    split at hs
    · rename_i fn hfn
      split at hs
      · rename_i c hb
        split at hs
        · exact hs.elim
        · rename_i hname
          refine ⟨⟨fn, c, hfn, hb, by simpa using hname⟩, ?_⟩
          refine callsR' (ro := none) (n := 0) (callsIn_of_wp_marks (F := fR none) hfn hb trivial ?_)
          have hc2 : Conc X.objs w0 F env ρ { st with tm := Tm.ofList args fn.ntmps, stk := st.tm :: st.stk } { tmps := vals.toArray ++ Array.replicate (fn.ntmps - vals.toArray.size) undef, defers := [] } (a :: as) w :=
            ⟨hc.ne, hc.pc, ⟨ofList_rel ha, rfl, by simp [Tm.ofList]⟩, .cons hc.tm hc.stk, hc.sat⟩
          refine wpIn_mono (runCode_sound ho hinl hmix g c base rnd hrnd none false (fun _ => rfl) (a :: as) st.hp.length pre _ _ (fun ex a' w' => (∀ i, ex ≠ .exit i) ∧ LeavesInM (fR none) 0 X.P fn a'.tmps (fun e w' => ∃ c, e = .returned c ∧ N c w') a'.defers .returning w') env ρ _ w hbase hp ?_ hc2 ?_ hs) ?_
          · have := hp.2.length_le
            rw [hc.sat.len] at this
            exact this
          · intro ex st' env' ρ' a' w' hp' hc' hs'
            have hne : ∀ i, ex ≠ .exit i := by
              intro i e
              subst e
              exact hs'.elim
            refine ⟨hne, ?_⟩
            have hstk := hc'.stk
            obtain ⟨tm0, stk0, hst, h1, h2⟩ : ∃ tm0 stk0, st'.stk = tm0 :: stk0 ∧ TmOk env' ρ' tm0 a ∧ Stk env' ρ' stk0 as := by
              generalize st'.stk = l at hstk
              cases hstk with
              | cons h1 h2 => exact ⟨_, _, rfl, h1, h2⟩
            dsimp only at hs'
            rw [hst] at hs'
            have hs2 : (match unMark st'.hp st'.tm.mks with
              | some hp1 =>
                match resS X.P hp1 st'.tm fn.results.toList with
                | some l => K (resV l) { st' with tm := tm0, stk := stk0, hp := hp1 }
                | none => Tree.fail "results"
              | none => Tree.fail "marks").sat X R env' := by
              cases ex with
              | exit i => exact absurd rfl (hne i)
              | normal => exact hs'
              | ret => exact hs'
            split at hs2
            rotate_left
            · exact hs2.elim
            rename_i hp1 hmks
            rw [hc'.tm.2.1]
            refine leaves_marks _ _ _ hmks hc'.sat fun w1 hsat1 => ?_
            split at hs2
            · rename_i l hl
              obtain ⟨cs, e1, e2⟩ := resS_sound (X := X) hc'.tm.1 (hsat1.reads ho) _ _ hl
              have hd := resV_sound e1
              refine ⟨_, ?_, _, rfl, hK _ { st' with tm := tm0, stk := stk0, hp := hp1 } env' ρ' _ w1 hp' ⟨hc'.ne, hc'.pc, h1, h2, hsat1⟩ (.inr hd) hs2⟩
              rw [results_eq, Sem.run_bind, Array.mapM_eq_mapM_toList]
              simp only [Sem.run_map, e2, Result.andThen_ok, Sem.run_pure]
            · exact hs2.elim
          · intro e a' w' h
            cases e with
            | normal => exact h.2
            | ret => exact h.2
            | exit i => exact (h.1 i rfl).elim
            | goto l => exact h.elim
            | panic c => exact h.elim
            | outgrown => exact h.elim
      · exact hs.elim
    · exact hs.elim
end
end Go.Proofs.Ytjohihkbampbgaa
