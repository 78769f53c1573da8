/- The symbolic executor: regions, in their own order and in whatever order. No program is named here. -/
import Derived.Test.YtjohihkbampbgaaSz
namespace Go.Proofs.Ytjohihkbampbgaa
set_option linter.unusedVariables false
set_option linter.unusedSimpArgs false
set_option linter.unusedSectionVars false
open Go

section
variable {U : Type} [Nil U] {X : Cx U} {R : List (EV U) → List (EV U) → Prop} {w0 : World} {F : Nat → Prop} {env : List (EV U)} {ρ : List Value} {w : World}
  {inl : FuncId → List SV → St → (SV → St → Tree) → Tree} {st : St} {a : Act} {as : List Act} {base pre : List (EV U) × List Value} {Q : Exit → Act → World → Prop} {N : Act → World → Prop}

theorem stepO_sound (ho : ObjsOk X.objs) (hinl : InlOk X R w0 F base inl) (hbase : Pfx base pre.1 pre.2) {o : Oper} {K : St → Tree} (hc : Conc X.objs w0 F env ρ st a as w) (hK : Goes X R w0 F pre as K N) (hpre : Pfx pre env ρ) (hs : (stepO X inl o st K).sat X R env) :
    o.wp X.P a w N Q := by
  unfold stepO at hs
  simp only [St.force_eq] at hs
  split at hs
  · rename_i ns v he
    obtain ⟨hns, hs⟩ := needs_sat hs
    obtain ⟨c, h1, h2⟩ := evalP_sound (W := fun w' => w' = w) he hc.tm.1 (fun w' h => by rw [h]; exact hc.sat.reads ho) rfl hns
    unfold Oper.wp
    rw [h2 w rfl]
    exact hK _ _ _ _ _ hpre (hc.put o.dst h1) hs
  · exact execE_sound ho hinl hbase hc hK hpre hs

theorem tm_bool {d : Tmp} {b : Bx} (hc : Conc X.objs w0 F env ρ st a as w) (h : st.tm.getD d .junk = .bool b) : a.tmps.getD d undef = .bool (b.den env) ∧ a.tmps[d]? = some (.bool (b.den env)) ∧ DenB env b (b.den env) := by
  have := hc.tm.1.2 d
  rw [h] at this
  obtain ⟨h1, h2⟩ := den_bool (this.den (by simp))
  refine ⟨h1, ?_, h2⟩
  by_cases hd : d < a.tmps.size
  · rw [Array.getElem?_eq_getElem hd]
    simpa [hd] using h1
  · simp [hd, undef] at h1
theorem Conc.setTm (hc : Conc X.objs w0 F env ρ st a as w) {d : Tmp} {v : SV} (h : Rel env ρ v (a.tmps.getD d undef)) : Conc X.objs w0 F env ρ { st with tm := st.tm.set d v } a as w := by
  refine ⟨hc.ne, hc.pc, ⟨⟨by rw [Tm.set_len]; exact hc.tm.1.1, fun i => ?_⟩, by rw [Tm.set_mks]; exact hc.tm.2⟩, hc.stk, hc.sat⟩
  have h0 := hc.tm.1.2 i
  unfold Tm.set
  split
  · by_cases hi : d = i
    · subst hi
      rcases (Tr.get_set st.tm.t d d v).1 rfl with e | e
      · simp only [Tm.getD, e]; exact h
      · simp only [Tm.getD, e]; exact .inl rfl
    · simp only [Tm.getD, (Tr.get_set st.tm.t d i v).2 hi]
      exact h0
  · exact h0
theorem Conc.setB {d : Tmp} {b : Bx} {r : Bool} (hc : Conc X.objs w0 F env ρ st a as w) (h : st.tm.getD d .junk = .bool b) (hr : b.den env = r) : Conc X.objs w0 F env ρ (setB st d r) a as w := by
  refine hc.setTm ?_
  rw [(tm_bool hc h).1, hr]
  exact .inr (bool_den (denB_lit r))
theorem skip_den {env : List (EV U)} {ρ : List Value} : Den env ρ (.tuple []) undef := ⟨fun _ _ => rfl, trivial⟩
theorem wantS_spec {ops : Array Oper} {o : Oper} {b : Bool} (hc : Conc X.objs w0 F env ρ st a as w) (h : wantS ops st.tm o = some b) : Region.wanted o (yielded ops a.tmps) = b := by
  unfold wantS at h
  split at h
  · rename_i hg
    injection h with h
    simp [Region.wanted, hg, h]
  · rename_i j want hg
    split at h
    · rename_i d hd
      split at h
      · rename_i b' hb
        injection h with h
        have h2 := (tm_bool hc hb).2.1
        simp only [Bx.den] at h2
        simp [Region.wanted, hg, yielded, hd, h2, ← h]
      · rename_i l hb
        split at h
        · rename_i hlt
          injection h with h
          have hlt2 : d < a.tmps.size := by rw [← hc.tm.1.1]; exact blt_true hlt
          have h1 := (hc.tm.1.2 d).den (by rw [hb]; simp)
          rw [hb] at h1
          obtain ⟨cs, h3, _⟩ := den_tuple h1
          have h2 : a.tmps[d]? = some (.tuple cs.toArray) := by
            rw [Array.getElem?_eq_getElem hlt2]
            simpa [hlt2] using h3
          simp [Region.wanted, hg, yielded, hd, h2, ← h]
        · cases h
      · cases h
    · cases h
theorem splitOf_spec {ops : Array Oper} {tm : Tm} {o : Oper} {d : Tmp} {b : Bx} (h : splitOf ops tm o = some (d, b)) : tm.getD d .junk = .bool b := by
  unfold splitOf at h
  repeat' split at h
  all_goals first
    | (injection h with h
       injection h with h1 h2
       subst h1
       subst h2
       assumption)
    | cases h
theorem idxOf_spec {P : Program} {hp : List HE} {tm : Tm} {o : Oper} {c : Tmp} {k : IntKind} {e : Ex} {len : Nat} (h : idxOf P hp tm o = some (c, k, e, len)) : tm.getD c .junk = .int k e := by
  unfold idxOf at h
  repeat' split at h
  all_goals first
    | (injection h with h
       injection h with h1 h2
       injection h2 with h2 h3
       injection h3 with h3 h4
       subst h1
       subst h2
       subst h3
       assumption)
    | cases h
theorem known_sound : ∀ {pc : List (Bx × Bool)} {b : Bx} {v : Bool}, PcOk env pc → known pc b = some v → b.den env = v
  | [], b, v, _, h => by simp [known] at h
  | (c, x) :: l, b, v, hp, h => by
    have h0 := hp (c, x) (by simp)
    have hl : PcOk env l := fun p hp' => hp p (by simp [hp'])
    have h00 : c.den env = x := by have := h0 []; simpa using this
    simp only [known] at h
    split at h
    · rename_i he
      injection h with h
      rw [← Bx.beq_eq he, h00, h]
    · split at h
      · rename_i e i e' j
        split at h
        · rename_i hee
          injection h with h
          have := Ex.beq_eq hee
          subst this
          simp only [Bx.den, cmpDen, Ex.den, beq_iff_eq] at h00 ⊢
          rw [h00]
          exact h
        · exact known_sound hl h
      · exact known_sound hl h
theorem brL_sound {b : Bx} {K1 K2 : St → Tree} (hpc : PcOk env st.pc) (hb : DenB env b (b.den env)) (hs : (brL st b K1 K2).sat X R env) :
    ∃ pc', PcOk env pc' ∧ (b.den env = true ∧ (K1 { st with pc := pc' }).sat X R env ∨ b.den env = false ∧ (K2 { st with pc := pc' }).sat X R env) := by
  unfold brL at hs
  split at hs
  · rename_i hk; exact ⟨st.pc, hpc, .inl ⟨known_sound hpc hk, hs⟩⟩
  · rename_i hk; exact ⟨st.pc, hpc, .inr ⟨known_sound hpc hk, hs⟩⟩
  · obtain ⟨h1, h2⟩ := hs
    cases hbd : b.den env
    · exact ⟨(b, false) :: st.pc, fun p hp => by rcases List.mem_cons.1 hp with rfl | hp; (exact hbd ▸ hb); exact hpc p hp, .inr ⟨rfl, h2 hbd⟩⟩
    · exact ⟨(b, true) :: st.pc, fun p hp => by rcases List.mem_cons.1 hp with rfl | hp; (exact hbd ▸ hb); exact hpc p hp, .inl ⟨rfl, h1 hbd⟩⟩
theorem brK_sound {b : Bx} {K1 K2 : St → Tree} (hpc : PcOk env st.pc) (hb : DenB env b (b.den env)) (hs : (brK st b K1 K2).sat X R env) :
    ∃ pc', PcOk env pc' ∧ (b.den env = true ∧ (K1 { st with pc := pc' }).sat X R env ∨ b.den env = false ∧ (K2 { st with pc := pc' }).sat X R env) := by
  unfold brK at hs
  split at hs
  · rename_i c
    have hc : DenB env c (c.den env) := fun xs => by
      have := hb xs
      simp only [Bx.den] at this
      cases h1 : c.den (env ++ xs) <;> cases h2 : c.den env <;> simp_all
    obtain ⟨pc', h1, h2⟩ := brL_sound hpc hc hs
    refine ⟨pc', h1, ?_⟩
    rcases h2 with ⟨h2, h3⟩ | ⟨h2, h3⟩
    · exact .inr ⟨by simp [Bx.den, h2], h3⟩
    · exact .inl ⟨by simp [Bx.den, h2], h3⟩
  · exact brL_sound hpc hb hs
theorem Conc.setPc (hc : Conc X.objs w0 F env ρ st a as w) {pc : List (Bx × Bool)} (h : PcOk env pc) : Conc X.objs w0 F env ρ { st with pc := pc } a as w := ⟨hc.ne, h, hc.tm, hc.stk, hc.sat⟩
theorem idxTree_sound {c : Tmp} {k : IntKind} {e : Ex} {K : St → Tree} (he : DenE env e (e.den env)) : ∀ (m j : Nat) (st : St), PcOk env st.pc → (idxTree c k e K j m st).sat X R env → ∃ (i : Nat) (pc' : List (Bx × Bool)), PcOk env pc' ∧ e.den env = i ∧ (K { st with tm := st.tm.set c (.int k (.lit i)), pc := pc' }).sat X R env
  | 0, j, st, _, h => by obtain ⟨h, _⟩ := h; cases h
  | m + 1, j, st, hpc, h => by
    simp only [idxTree] at h
    have hb : DenB env (.cmp .eql e (.lit j)) ((Bx.cmp .eql e (.lit j)).den env) := fun xs => by simp only [Bx.den, Ex.den]; rw [he xs]
    obtain ⟨pc', h1, h2⟩ := brK_sound hpc hb h
    rcases h2 with ⟨h2, h3⟩ | ⟨h2, h3⟩
    · exact ⟨j, pc', h1, by simpa [Bx.den, cmpDen, Ex.den] using h2, h3⟩
    · obtain ⟨i, pc2, g1, g2, g3⟩ := idxTree_sound he m (j + 1) { st with pc := pc' } h1 h3
      exact ⟨i, pc2, g1, g2, g3⟩
theorem idx_den {c : Tmp} {k : IntKind} {e : Ex} (hc : Conc X.objs w0 F env ρ st a as w) (h : st.tm.getD c .junk = .int k e) : DenE env e (e.den env) := by
  have := hc.tm.1.2 c
  rw [h] at this
  exact (den_int (this.den (by simp))).2
theorem Conc.setI {c : Tmp} {k : IntKind} {e : Ex} {i : Nat} (hc : Conc X.objs w0 F env ρ st a as w) (h : st.tm.getD c .junk = .int k e) (hi : e.den env = i) : Conc X.objs w0 F env ρ { st with tm := st.tm.set c (.int k (.lit i)) } a as w := by
  refine hc.setTm ?_
  have := hc.tm.1.2 c
  rw [h] at this
  rw [(den_int (this.den (by simp))).1, hi]
  exact .inr (int_den (denE_lit _))

/-- rounds are carried out as told -/
def RndOk (X : Cx U) (R : List (EV U) → List (EV U) → Prop) (w0 : World) (F : Nat → Prop) (base : List (EV U) × List Value) (rnd : Rnd) : Prop :=
  ∀ (pre : List (EV U) × List Value) m args st K env ρ a as w vals (N : Value → World → Prop), Pfx base pre.1 pre.2 → Pfx pre env ρ → Conc X.objs w0 F env ρ st a as w → ArgsRel env ρ args vals →
    (∀ v st' env' ρ' c w', Pfx pre env' ρ' → Conc X.objs w0 F env' ρ' st' a as w' → Rel env' ρ' v c → (K v st').sat X R env' → N c w') → (rnd m args st K).sat X R env →
    ∃ L : Loop, w.heap[(addrOf (hv ρ m)).block]? = some (.loop L) ∧ vals.length = L.params.size ∧
      RoundIn Fence.wide 0 X.P (addrOf (hv ρ m)).block L.fn ((L.params.zip vals.toArray).foldl (fun tmps (t, a) => tmps.setIfInBounds t a) L.tmps) L.assign L.body w (fun e w' => ∃ c, e = .returned c ∧ N c w')
theorem stepO_nodefer {o : Oper} {K : St → Tree} (hs : (stepO X inl o st K).sat X R env) (c : Call) : o.op ≠ .defer c := by
  intro e
  simp only [stepO, evalP, execE, e] at hs
  exact hs.elim
theorem yieldOf_spec {o : Oper} {n : Nat} {args : List SV} (hc : Conc X.objs w0 F env ρ st a as w) (h : yieldOf st.tm o = some (n, args)) :
    ∃ c f, o.op = .call c ∧ c.callee = .value f ∧ a.eval f = .func (.yield (addrOf (hv ρ n)).block) #[] #[] ∧ args = c.args.toList.map (evalO st.tm) := by
  unfold yieldOf at h
  split at h
  · rename_i c hop
    split at h
    · rename_i f hcal
      split at h
      · rename_i m hf
        injection h with h
        injection h with h1 h2
        subst h1 h2
        have hfr := evalO_rel hc.tm.1 f
        rw [hf] at hfr
        have hd := (hfr.den (by simp)).now.symm
        exact ⟨c, f, hop, hcal, hd, rfl⟩
      · cases h
    · cases h
  · cases h
theorem stepY_sound (ho : ObjsOk X.objs) (hinl : InlOk X R w0 F base inl) (hbase : Pfx base pre.1 pre.2) {rnd : Rnd} (hrnd : RndOk X R w0 F base rnd) {ro : Option Nat} {o : Oper} {K : St → Tree} (hc : Conc X.objs w0 F env ρ st a as w) (hK : Goes X R w0 F pre as K N) (hpre : Pfx pre env ρ) (hs : (stepY X inl rnd o st K).sat X R env) :
    o.wpIn (fR ro) 0 X.P a w N Q := by
  unfold stepY at hs
  split at hs
  · rename_i n args hy
    simp only [St.force_eq] at hs
    obtain ⟨c, f, hop, hcal, hev, rfl⟩ := yieldOf_spec hc hy
    obtain ⟨L, hL, hlen, hround⟩ := hrnd pre n _ st _ env ρ a as w (c.args.toList.map a.eval) (fun v w' => N (a.put o.dst v) w') hbase hpre hc (ArgsRel.of_ops hc.tm.1 _) (fun v st' env' ρ' c' w' hp hcc hrel hsat => hK _ _ _ _ _ hp (hcc.put o.dst hrel) hsat) hs
    refine ⟨fun _ _ => trivial, ?_⟩
    have hrun : (o.semAt (fR ro).round a.eval).run X.P w = .ok (.round (addrOf (hv ρ n)).block L.fn ((L.params.zip (c.args.toList.map a.eval).toArray).foldl (fun tmps (t, a) => tmps.setIfInBounds t a) L.tmps) L.assign L.body) w := by
      rw [Oper.semAt_eq _ _ _ (fun c' e => by rw [hop] at e; cases e)]
      have harr : (#[] ++ c.args.map a.eval : Array Value) = (c.args.toList.map a.eval).toArray := by apply Array.toList_inj.1; simp
      have hsz : ¬ (c.args.toList.map a.eval).toArray.size ≠ L.params.size := by simpa using hlen
      simp only [execOp, hop, resolve, hcal, hev, Deferred.ofValue, Sem.run_bind, Sem.run_pure, Result.andThen_ok, invoke]
      rw [harr]
      exact run_yield hL (by simpa using hlen)
    rw [hrun, Oper.uponIn_round]
    exact ⟨depthR, RoundIn.mono hround fun e w' ⟨c', he, hn⟩ => by subst he; exact hn⟩
  · exact operR (stepO_nodefer hs) (stepO_sound ho hinl hbase hc hK hpre hs)

theorem runOps_sound (ho : ObjsOk X.objs) (hinl : InlOk X R w0 F base inl) (hbase : Pfx base pre.1 pre.2) {rnd : Rnd} (hrnd : RndOk X R w0 F base rnd) {ro : Option Nat} {ops : Array Oper} (hQ : ∀ a w, N a w → Q .normal a w) {K : St → Tree} (hK : Goes X R w0 F pre as K N) :
    ∀ (l : List Oper) (st : St) (env : List (EV U)) (ρ : List Value) (a : Act) (w : World), Pfx pre env ρ → Conc X.objs w0 F env ρ st a as w → (runOps X inl rnd ops l st K).sat X R env → wpListR ro X.P ops Q l a w := by
  intro l
  induction l with
  | nil => intro st env ρ a w hp hc hs; exact hQ _ _ (hK _ _ _ _ _ hp hc hs)
  | cons o rest ih =>
    intro st env ρ a w hp hc hs
    have hgo : Goes X R w0 F pre as (fun st => runOps X inl rnd ops rest st K) (wpListR ro X.P ops Q rest) := fun st' env' ρ' a' w' hp' hc' hs' => ih st' env' ρ' a' w' hp' hc' hs'
    have hst : ∀ (st : St), Conc X.objs w0 F env ρ st a as w → Region.wanted o (yielded ops a.tmps) = true → (stepY X inl rnd o st fun st => runOps X inl rnd ops rest st K).sat X R env → wpListR ro X.P ops Q (o :: rest) a w := by
      intro st hc hw hs
      show if _ then _ else _
      rw [if_pos hw]
      exact stepY_sound ho hinl hbase hrnd hc hgo hp hs
    have go : ∀ (st : St), Conc X.objs w0 F env ρ st a as w →
        (match wantS ops st.tm o with
          | some true =>
            match splitOf ops st.tm o with
            | some (d, b) => brK st b (fun st => stepY X inl rnd o (Go.Proofs.Ytjohihkbampbgaa.setB st d true) fun st => runOps X inl rnd ops rest st K) (fun st => stepY X inl rnd o (Go.Proofs.Ytjohihkbampbgaa.setB st d false) fun st => runOps X inl rnd ops rest st K)
            | none =>
              match idxOf X.P st.hp st.tm o with
              | some (c, k, e, len) => idxTree c k e (fun st => stepY X inl rnd o st fun st => runOps X inl rnd ops rest st K) 0 len st
              | none => stepY X inl rnd o st fun st => runOps X inl rnd ops rest st K
          | some false => runOps X inl rnd ops rest (st.put o.dst (.tuple [])) K
          | none => Tree.fail "guard").sat X R env → wpListR ro X.P ops Q (o :: rest) a w := by
      intro st hc hs
      split at hs
      · rename_i hw
        have hw := wantS_spec hc hw
        split at hs
        · rename_i d b hsp
          have hb := splitOf_spec hsp
          obtain ⟨pc', hpc', hbr⟩ := brK_sound hc.pc (tm_bool hc hb).2.2 hs
          have hc' := hc.setPc hpc'
          rcases hbr with ⟨hbd, h1⟩ | ⟨hbd, h1⟩
          · exact hst _ (hc'.setB hb hbd) hw h1
          · exact hst _ (hc'.setB hb hbd) hw h1
        · split at hs
          · rename_i c k e len hix
            obtain ⟨i, pc', hpc', hi, hs⟩ := idxTree_sound (idx_den hc (idxOf_spec hix)) _ _ _ hc.pc hs
            exact hst _ ((hc.setPc hpc').setI (idxOf_spec hix) hi) hw hs
          · exact hst _ hc hw hs
      · rename_i hw
        have hw := wantS_spec hc hw
        show if _ then _ else _
        rw [if_neg (by rw [hw]; exact Bool.false_ne_true)]
        exact ih _ _ _ _ _ hp (hc.put o.dst (.inr skip_den)) hs
      · exact hs.elim
    simp only [runOps] at hs
    split at hs
    · rename_i d b hw hsp
      have hb := splitOf_spec hsp
      obtain ⟨pc', hpc', hbr⟩ := brK_sound hc.pc (tm_bool hc hb).2.2 hs
      have hc' := hc.setPc hpc'
      rcases hbr with ⟨hbd, h1⟩ | ⟨hbd, h1⟩
      · exact go _ (hc'.setB hb hbd) h1
      · exact go _ (hc'.setB hb hbd) h1
    · exact go _ hc hs

/-! ### in whatever order -/
def blkOf (ρ : List Value) (n : Nat) : Nat := (addrOf (hv ρ n)).block
/-- the kept blocks are as they were -/
def KeptS (kept : List Nat) (ρs : List Value) (ws w : World) : Prop := ∀ n ∈ kept, ∀ ad, hv ρs n = .pointer (some ad) → w.heap[ad.block]? = ws.heap[ad.block]?
def KeptH (kept : List Nat) (hp0 hp : List HE) : Prop := ∀ n ∈ kept, ∃ h, hp0[n]? = some h ∧ hp[n]? = some h ∧ stays h = true
theorem keptOk_spec {hp0 hp : List HE} : ∀ {kept : List Nat}, keptOk hp0 hp kept = none → ∀ n ∈ kept, ∃ h, hp0[n]? = some h ∧ hp[n]? = some h
  | [], _, n, hn => by simp at hn
  | m :: kept, h, n, hn => by
    simp only [keptOk] at h
    split at h
    · rename_i x y hx hy
      split at h
      · rename_i he
        rcases List.mem_cons.1 hn with rfl | hn
        · exact ⟨x, hx, by rw [hy, HE.beq_eq he]⟩
        · exact keptOk_spec h n hn
      · cases h
    · cases h
theorem add_block (ad : Addr) (k : Nat) : (ad.add k).block = ad.block := by unfold Addr.add; split <;> rfl

theorem onlyKept_get {kept : List Nat} {hp : List HE} {n : Nat} {h : HE} (hg : (onlyKept kept hp)[n]? = some h) : ∃ h0, hp[n]? = some h0 ∧ ((∃ i, h0 = .abs i) ∧ h = h0 ∨ n ∈ kept ∧ h = h0 ∨ h = .gone) := by
  unfold onlyKept at hg
  simp only [List.getElem?_map, Option.map_eq_some_iff] at hg
  obtain ⟨⟨h0, m⟩, hz, hh⟩ := hg
  rw [List.getElem?_zipIdx] at hz
  simp only [Option.map_eq_some_iff, Prod.mk.injEq, Nat.zero_add] at hz
  obtain ⟨h1, e1, rfl, rfl⟩ := hz
  refine ⟨h1, e1, ?_⟩
  cases h1 with
  | abs i => exact .inl ⟨⟨i, rfl⟩, hh.symm⟩
  | _ =>
    dsimp only at hh
    split at hh
    · rename_i hk; exact .inr (.inl ⟨by simpa using hk, hh.symm⟩)
    · exact .inr (.inr hh.symm)

theorem kept_reads (ho : ObjsOk X.objs) {kept : List Nat} {hp0 : List HE} {ρs : List Value} {ws : World} (hl : hp0.length ≤ ρs.length) (hρ : ρs <+: ρ) (hc : Conc X.objs w0 F env ρ st a as w) (hk : KeptH kept hp0 st.hp) (hS : KeptS kept ρs ws w)
    {w' : World} (hS' : KeptS kept ρs ws w') : Reads env ρ (onlyKept kept st.hp) w' := by
  intro n h hn
  obtain ⟨h0, e0, hcase⟩ := onlyKept_get hn
  obtain ⟨hlt, hr⟩ := hc.sat.reads ho n h0 e0
  refine ⟨hlt, ?_⟩
  rcases hcase with ⟨⟨i, rfl⟩, rfl⟩ | ⟨hmem, rfl⟩ | rfl
  · exact hr
  · obtain ⟨h1, f1, f2, f3⟩ := hk n hmem
    have hns : n < ρs.length := Nat.lt_of_lt_of_le (List.getElem?_eq_some_iff.1 f1).1 hl
    have hvs : hv ρ n = hv ρs n := by obtain ⟨ys, rfl⟩ := hρ; exact hv_app hns ys
    have hb : ∀ ad, hv ρ n = .pointer (some ad) → w'.heap[ad.block]? = w.heap[ad.block]? := fun ad e => (hS' n hmem ad (by rw [← hvs]; exact e)).trans (hS n hmem ad (by rw [← hvs]; exact e)).symm
    cases h with
    | cells vs ty => obtain ⟨b, cs, e1, e2, e3⟩ := hr; exact ⟨b, cs, e1, e2, (hb _ e1).trans e3⟩
    | row k ty i =>
      rcases hr with hr | ⟨b, cs, e1, e2, e3⟩
      · exact .inl hr
      · exact .inr ⟨b, cs, e1, e2, (hb _ e1).trans e3⟩
    | ro ks i =>
      rcases hr with hr | ⟨ad, g, m, e1, e2, e3⟩
      · exact .inl hr
      exact .inr ⟨ad, g, m, e1, e2, fun j hj c k hk => by
        rw [← e3 j hj c k hk]
        exact World.cell?_of_block (w := w) (by rw [add_block]; exact hb _ e1)⟩
    | abs i => exact hr
    | sys i j => trivial
    | gone => trivial
  · trivial

theorem kept_after {kept : List Nat} {hp0 : List HE} {envs : List (EV U)} {ρs : List Value} {ws : World} {sts : St} {a0 : Act} {as0 : List Act} (hcs : Conc X.objs w0 F envs ρs sts a0 as0 ws) (h0 : sts.hp = hp0) (hp : Pfx (envs, ρs) env ρ)
    (hc : Conc X.objs w0 F env ρ st a as w) (hk : KeptH kept hp0 st.hp) : KeptS kept ρs ws w := by
  subst h0
  intro n hn
  obtain ⟨h, e1, e2, e3⟩ := hk n hn
  obtain ⟨S, hS⟩ := hcs.sat.own
  obtain ⟨S', hS'⟩ := hc.sat.own
  have g1 := hS.holds n h e1
  have g2 := hS'.holds n h e2
  obtain ⟨⟨o, rfl⟩, ⟨r, rfl⟩⟩ := hp
  have hns : n < ρs.length := by rw [hcs.sat.len]; exact (List.getElem?_eq_some_iff.1 e1).1
  rw [hv_app hns] at g2
  intro ad had
  cases h with
  | cells vs ty =>
    obtain ⟨b, cs, f1, f2, f3, _⟩ := g1
    obtain ⟨b', cs', f1', f2', f3', _⟩ := g2
    rw [f1] at f1'; injection f1' with f1'; injection f1' with f1'; injection f1' with f1'; subst f1'
    have : cs' = cs := by rw [← f2.1 o r, ← f2'.1 [] []]; simp
    subst this
    rw [f1] at had; injection had with had; injection had with had; subst had
    rw [f3, f3']
  | row k ty i =>
    rcases g1 with ⟨f1, _⟩ | ⟨b, cs, f1, f2, f3, _⟩
    · rw [f1] at had; cases had
    rcases g2 with ⟨f1', _⟩ | ⟨b', cs', f1', f2', f3', _⟩
    · rw [f1] at f1'; cases f1'
    rw [f1] at f1'; injection f1' with f1'; injection f1' with f1'; injection f1' with f1'; subst f1'
    rw [get_ext f2] at f2'; injection f2' with f2'; injection f2' with f2'; subst f2'
    rw [f1] at had; injection had with had; injection had with had; subst had
    rw [f3, f3']
  | ro ks i =>
    rcases g1 with ⟨f1, _⟩ | ⟨ad', g, m, f1, f2, f3, f4, f5⟩
    · rw [f1] at had; cases had
    rw [f1] at had; injection had with had; injection had with had; subst had
    rw [hc.sat.frame.block _ f3 f4, hcs.sat.frame.block _ f3 f4]
  | abs i => simp [stays] at e3
  | sys i j => simp [stays] at e3
  | gone => simp [stays] at e3

theorem runDraw_sound (ho : ObjsOk X.objs) (hinl : InlOk X R w0 F base inl) (hbase : Pfx base pre.1 pre.2) {ops : Array Oper} (hnos : Region.noSelect ops = true) (hQ : ∀ a w, N a w → Q .normal a w) (hQp : ∀ c a w, ¬ Q (.panic c) a w) {K : St → Tree} (hK : Goes X R w0 F pre as K N)
    {tag : Nat} {kept : List Nat} {hp0 : List HE} {envs : List (EV U)} {ρs : List Value} {ws : World} {sts : St} {a0 : Act} {as0 : List Act} (hcs : Conc X.objs w0 F envs ρs sts a0 as0 ws) (h0 : sts.hp = hp0) (hps : Pfx pre envs ρs) (hst : ∀ n ∈ kept, ∃ h, hp0[n]? = some h ∧ stays h = true) :
    ∀ (n m : Nat) (pend : List Nat) (listed : Array Bool) (st : St) (env : List (EV U)) (ρ : List Value) (a : Act) (w : World), Pfx (envs, ρs) env ρ → Conc X.objs w0 F env ρ st a as w → KeptH kept hp0 st.hp →
      (runDraw X inl ops tag kept hp0 n m pend listed st K).sat X R env → wpAnyH X.P .any ops Q (KeptS kept ρs ws) m listed a w := by
  have hl : hp0.length ≤ ρs.length := by rw [hcs.sat.len, h0]; exact Nat.le_refl _
  have hpre : ∀ {env : List (EV U)} {ρ : List Value}, Pfx (envs, ρs) env ρ → Pfx pre env ρ := fun h => ⟨hps.1.trans h.1, hps.2.trans h.2⟩
  intro n
  induction n with
  | zero => intro m pend listed st env ρ a w _ _ _ hs; exact hs.elim
  | succ n ih =>
    intro m pend listed st env ρ a w hp hc hk hs
    have hS : KeptS kept ρs ws w := kept_after hcs h0 hp hc hk
    simp only [runDraw, fArr_eq, St.force_eq] at hs
    split at hs
    · rename_i i hfind
      have htake := List.find?_some hfind
      simp only [Bool.and_eq_true] at htake
      obtain ⟨hrdy, htake⟩ := htake
      unfold takeable at htake
      simp only [Bool.and_eq_true] at htake
      obtain ⟨hfree, htake⟩ := htake
      have hfree : Region.free .any ops listed i = true := by
        rcases Bool.or_eq_true _ _ ▸ hfree with h | h
        · exact free_static h
        · exact h
      split at hs
      · exact hs.elim
      · rename_i m'
        split at hs
        · rename_i o hoi
          have hrc : (Region.ready .any ops listed).contains i = true := by
            have hlt : i < ops.size := (Array.getElem?_eq_some_iff.1 hoi).1
            simp only [List.contains_eq_mem, decide_eq_true_eq]
            unfold Region.ready
            exact List.mem_filter.2 ⟨List.mem_range.2 hlt, hrdy⟩
          have take : ∀ {v : Value}, YieldsIf X.P ops (KeptS kept ρs ws) o v a → wpAnyH X.P .any ops Q (KeptS kept ρs ws) m' (listed.setIfInBounds i true) (a.put o.dst v) w → wpAnyH X.P .any ops Q (KeptS kept ρs ws) (m' + 1) listed a w :=
            fun hy h => wpAnyH_take hoi hnos hfree hrc (fun c a w h => absurd h (hQp c _ w)) hy hS h
          simp only [hoi] at htake
          split at hs
          · rename_i hw
            exact take (.inr ⟨wantS_spec hc hw, rfl⟩) (ih _ _ _ _ _ _ _ _ hp (hc.put o.dst (.inr skip_den)) (by cases o.dst <;> exact hk) hs)
          · rename_i hwn
            split at hs
            · rename_i d b hsp
              have hb := splitOf_spec hsp
              obtain ⟨pc', hpc', hbr⟩ := brK_sound hc.pc (tm_bool hc hb).2.2 hs
              have hc' := hc.setPc hpc'
              rcases hbr with ⟨hbd, h1⟩ | ⟨hbd, h1⟩
              · exact ih _ _ _ _ _ _ _ _ hp (hc'.setB hb hbd) hk h1
              · exact ih _ _ _ _ _ _ _ _ hp (hc'.setB hb hbd) hk h1
            · rename_i hsp
              have hw : wantS ops st.tm o = some true := by
                cases hww : wantS ops st.tm o with
                | none => simp [hww, hsp] at htake
                | some b => cases b
                            · exact absurd hww hwn
                            · rfl
              split at hs
              · rename_i c k e len hix
                obtain ⟨j, pc', hpc', hj, hs⟩ := idxTree_sound (idx_den hc (idxOf_spec hix)) _ _ _ hc.pc hs
                exact ih _ _ _ _ _ _ _ _ hp ((hc.setPc hpc').setI (idxOf_spec hix) hj) hk hs
              · split at hs
                · rename_i ns v he
                  obtain ⟨hns, hs⟩ := needs_sat hs
                  obtain ⟨c, h1, h2⟩ := evalP_sound (W := KeptS kept ρs ws) he hc.tm.1 (fun w' hw' => kept_reads ho hl hp.2 hc hk hS hw') hS hns
                  exact take (.inl ⟨wantS_spec hc hw, fun w' hw' => h2 w' hw'⟩) (ih _ _ _ _ _ _ _ _ hp (hc.put o.dst h1) (by cases o.dst <;> exact hk) hs)
                · exact hs.elim
        · exact hs.elim
    · split at hs
      · rename_i hrs
        exact wpAnyH_done hrs (hQ _ _ (hK _ _ _ _ _ (hpre hp) hc hs)) m
      · rename_i hrs
        split at hs
        · exact hs.elim
        · rename_i m'
          refine wpAnyH_all rfl (fun e => hrs e) fun i hi => ?_
          have pick : ∀ (l : List Nat) (g : Nat → Tree), (l.foldr (fun i acc => Tree.and (g i) acc) .ok).sat X R env → ∀ i ∈ l, (g i).sat X R env := by
            intro l g
            induction l with
            | nil => intro _ i hi; simp at hi
            | cons x l ihl => intro h i hi; rcases List.mem_cons.1 hi with rfl | hi; exact h.1; exact ihl h.2 i hi
          have hs := pick _ _ hs i hi
          unfold wpOp
          cases hoi : ops[i]? with
          | none => simp only [hoi] at hs; exact hs.elim
          | some o =>
            simp only [hoi] at hs ⊢
            split at hs
            · rename_i hw
              rw [if_pos (wantS_spec hc hw)]
              refine .inl (stepO_sound (pre := (envs, ρs)) ho hinl (hbase.trans hps) hc (fun st' env' ρ' a' w' hp' hc' hs' => ?_) hp hs)
              split at hs'
              · rename_i hko
                have hk' : KeptH kept hp0 st'.hp := fun n hn => by
                  obtain ⟨h, e1, e2⟩ := keptOk_spec hko n hn
                  obtain ⟨h', e3, e4⟩ := hst n hn
                  rw [e1] at e3; injection e3 with e3; subst e3
                  exact ⟨h, e1, e2, e4⟩
                exact ⟨kept_after hcs h0 hp' hc' hk', ih _ _ _ _ _ _ _ _ hp' hc' hk' hs'⟩
              · exact hs'.elim
            · rename_i hw
              rw [if_neg (by rw [wantS_spec hc hw]; exact Bool.false_ne_true)]
              have hk2 : KeptH kept hp0 (st.put o.dst (.tuple [])).hp := by cases o.dst <;> exact hk
              exact ⟨hS, ih _ _ _ _ _ _ _ _ hp (hc.put o.dst (.inr skip_den)) hk2 hs⟩
            · exact hs.elim
end
end Go.Proofs.Ytjohihkbampbgaa
