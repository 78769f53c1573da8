/- The symbolic executor: operations that change blocks do what the executor says. No program is named here. -/
import Derived.Test.YtjohihkbampbgaaSj
import Derived.Laws.Append
import Derived.Laws.AppendOwn
namespace Go.Proofs.Ytjohihkbampbgaa
set_option linter.unusedVariables false
set_option linter.unusedSimpArgs false
set_option linter.unusedSectionVars false
open Go

section
variable {U : Type} [Nil U] {X : Cx U} {R : List (EV U) → List (EV U) → Prop} {w0 : World} {F : Nat → Prop} {env : List (EV U)} {ρ : List Value} {w : World}

/-- the state goes on -/
def Goes (X : Cx U) (R : List (EV U) → List (EV U) → Prop) (w0 : World) (F : Nat → Prop) (pre : List (EV U) × List Value) (as : List Act) (K : St → Tree) (N : Act → World → Prop) : Prop :=
  ∀ st' env' ρ' a' w', Pfx pre env' ρ' → Conc X.objs w0 F env' ρ' st' a' as w' → (K st').sat X R env' → N a' w'

theorem zeroRow_spec {P : Program} {t : TypeId} {k : IntKind} {len : Nat} (h : zeroRow P t = some (k, len)) : ∃ z, (∀ w, (zeroValue t).run P w = .ok z w) ∧ z.cells = (List.replicate len (Value.int k 0)).toArray := by
  unfold zeroRow at h
  split at h
  · rename_i len' elem z hu hz
    split at h
    · rename_i k' hk
      split at h
      · rename_i hc
        simp only [Option.some.injEq, Prod.mk.injEq] at h
        obtain ⟨rfl, rfl⟩ := h
        simp only [Bool.and_eq_true, beq_iff_eq] at hc
        obtain ⟨⟨_, hall⟩, hlen⟩ := hc
        cases hi : P.info? t with
        | none => simp [hi] at hz
        | some i =>
          simp only [hi, Option.bind_some] at hz
          refine ⟨z, fun w => by simp [zeroValue, typeInfo, hi, hz], ?_⟩
          apply Array.toList_inj.1
          rw [List.toList_toArray, List.eq_replicate_iff]
          refine ⟨hlen, fun v hv => ?_⟩
          have := List.all_eq_true.1 hall v hv
          cases v <;> simp_all
      · cases h
    · cases h
  · cases h

theorem gL_get {i : Nat} {xs : List Int} (h : env[i]? = some (.l xs)) : gL env i = xs := by simp [gL, h]
theorem eqLit {a b : Ex} (h : (Bx.cmp .eql a b).den env = true) : a.den env = b.den env := by simpa [Bx.den, cmpDen] using h
theorem last_get (x : EV U) : (env ++ [x])[env.length]? = some x := by simp

theorem flatten_den (hz : ∀ n : Nat, n = n) {l : List SV} {cs : List Value} (hd : DenL env ρ l cs) : ∀ n : Nat, DenL env ρ (List.replicate n l).flatten (List.replicate n cs).flatten
  | 0 => DenL.nil
  | n + 1 => by simp only [List.replicate_succ, List.flatten_cons]; exact hd.append (flatten_den hz hd n)
theorem zeros_array (z : Array Value) (s : Nat) (hs : z.size = s) (hp : 0 < s) (n : Nat) : (Array.range (n * s)).map (fun j => z[j % z.size]!) = ((List.replicate n z.toList).flatten).toArray := by
  apply Array.toList_inj.1
  apply List.ext_getElem?
  intro i
  rw [List.toList_toArray]
  have key : ∀ n i, i < n * s → ((List.replicate n z.toList).flatten)[i]? = z[i % s]? := by
    intro n
    induction n with
    | zero => intro i hi; omega
    | succ n ih =>
      intro i hi
      rw [List.replicate_succ, List.flatten_cons]
      by_cases h : i < s
      · rw [List.getElem?_append_left (by simpa [hs] using h), Nat.mod_eq_of_lt h]; simp
      · rw [List.getElem?_append_right (by simp [hs]; omega)]
        simp only [Array.length_toList, hs]
        rw [ih (i - s) (by rw [Nat.succ_mul] at hi; omega), ← Nat.mod_eq_sub_mod (by omega)]
  by_cases hi : i < n * s
  · rw [key n i hi]
    have hm : i % s < z.size := by rw [hs]; exact Nat.mod_lt _ hp
    have e1 : z[i % s]! = z[i % s] := getElem!_pos z (i % s) hm
    simp [hi, hs, e1, Array.getElem?_eq_getElem hm]
  · have hlen : ((List.replicate n z.toList).flatten).length = n * s := by simp [hs]
    have h0 : ((List.replicate n z.toList).flatten)[i]? = none := List.getElem?_eq_none (by rw [hlen]; omega)
    rw [h0]
    simp
    omega

theorem ArgsRel.append {a b : List SV} {x y : List Value} (h1 : ArgsRel env ρ a x) (h2 : ArgsRel env ρ b y) : ArgsRel env ρ (a ++ b) (x ++ y) := by
  refine ⟨by simp [h1.1, h2.1], fun i => ?_⟩
  by_cases hi : i < a.length
  · have := h1.2 i
    simp only [List.getD] at this ⊢
    rw [List.getElem?_append_left hi, List.getElem?_append_left (by rw [← h1.1]; exact hi)]
    exact this
  · have := h2.2 (i - a.length)
    simp only [List.getD] at this ⊢
    rw [List.getElem?_append_right (by omega), List.getElem?_append_right (by rw [← h1.1]; omega), ← h1.1]
    exact this
theorem ArgsRel.of_den {l : List SV} {vals : List Value} (hd : DenL env ρ l vals) : ArgsRel env ρ l vals := by
  refine ⟨hd.len, fun x => ?_⟩
  by_cases hx : x < l.length
  · obtain ⟨c', h1, h2⟩ := hd.get (List.getElem?_eq_getElem hx)
    rw [List.getD, List.getD, List.getElem?_eq_getElem hx, h1]
    exact .inr h2
  · rw [List.getD, List.getElem?_eq_none (by omega)]; exact .inl rfl
theorem ArgsRel.of_ops {tm : Tm} {a : Act} (ht : TmRel env ρ tm a.tmps) (xs : List Operand) : ArgsRel env ρ (xs.map (evalO tm)) (xs.map a.eval) := by
  refine ⟨by simp, fun x => ?_⟩
  simp only [List.getD, List.getElem?_map]
  cases h : xs[x]? with
  | none => exact .inl rfl
  | some o => exact evalO_rel ht o

theorem run_append_zero {P : Program} (t ty e : TypeId) (i : TypeInfo) (ht : P.underlying t = some (.slice e)) (hi : P.info? e = some i) (b y : Option Addr) (c : Nat) (w : World) :
    (Builtin.append_ #[t, t] ty #[.slice b 0 0, .slice y 0 c]).run P w = .ok (.slice b 0 0) w := by
  cases y with
  | none => cases b <;> simp [Builtin.append_, run_underlying ht, sizeOf, typeInfo, hi, Builtin.lenOf, Builtin.firstCells, storeCells]
  | some a =>
    have hf := run_firstCells_some (P := P) w i.size 0 a 0 c [] (by simp) (by simp)
    cases b <;> simp [Builtin.append_, run_underlying ht, sizeOf, typeInfo, hi, Builtin.lenOf, hf, storeCells]
theorem execE_sound (ho : ObjsOk X.objs) {inl : FuncId → List SV → St → (SV → St → Tree) → Tree} {base : List (EV U) × List Value} (hinl : InlOk X R w0 F base inl) {o : Oper} {st : St} {K : St → Tree} {a : Act} {as : List Act} {pre : List (EV U) × List Value} (hbase : Pfx base pre.1 pre.2) {N : Act → World → Prop} {Q : Exit → Act → World → Prop}
    (hc : Conc X.objs w0 F env ρ st a as w) (hK : Goes X R w0 F pre as K N) (hpre : Pfx pre env ρ) (hs : (execE X inl o st K).sat X R env) : o.wp X.P a w N Q := by
  have hr := hc.sat.reads ho
  have skip : ∀ {st' : St} {w' : World}, Conc X.objs w0 F env ρ st' a as w' → (K (st'.put o.dst .junk)).sat X R env → N (a.put o.dst undef) w' := fun h1 h2 => hK _ _ _ _ _ hpre (h1.put o.dst (.inl rfl)) h2
  unfold execE at hs
  dsimp only at hs
  unfold Oper.wp
  split at hs
  · -- store
    rename_i t ad v hop
    have had := evalO_rel hc.tm.1 ad
    have hv0 := evalO_rel hc.tm.1 v
    split at hs
    · rename_i n off hvv
      rw [hvv] at had
      have hca := den_ptr (had.den (by simp))
      split at hs
      · rename_i vs ty hn
        split at hs
        · rename_i hcond
          simp only [Bool.and_eq_true, decide_eq_true_eq] at hcond
          obtain ⟨hsz, hall⟩ := hcond
          split at hs
          · rename_i vs' hsp
            obtain ⟨_, b, cs, hb, hd, hheap⟩ := hr n _ hn
            obtain ⟨hfl, hone⟩ := flat_spec hr hall hv0
            obtain ⟨hle, hd'⟩ := splice_spec hsp hd hfl
            have hlen := hfl.len
            have hst := run_storeCells_at X.P b off _ (a.eval v).cells.toList 0 cs.toArray w hheap (by simpa using hle) hone
            rw [hb, addrOf, add0] at hca
            have hrun : (execOp a.eval o).run X.P w = .ok .skip (w.setRow b (cs.take off ++ (a.eval v).cells.toList ++ cs.drop (off + (a.eval v).cells.toList.length)).toArray) := by
              simp only [execOp, hop, Instr.storeAt, hca, Instr.sureAddr, Sem.run_bind, Sem.run_pure, Result.andThen_ok, storeVar, sizeT_run hsz]
              have : ¬ (a.eval v).cells.size ≠ (evalO st.tm v).flat.length := by rw [hlen]; simp
              simp only [this, if_false, hst, Result.andThen_ok, Nat.add_zero]
            rw [hrun]
            exact skip (hc.setCells hn hb hd') hs
          · exact hs.elim
        · exact hs.elim
      · rename_i k ty i k' j hn hrv
        split at hs
        · rename_i m hm
          split at hs
          · rename_i hk
            subst hk
            obtain ⟨h1, h2, h3⟩ := hs
            have h1 := eqLit h1
            have h2 := eqLit h2
            rw [hrv] at hv0
            obtain ⟨_, b, xs, hb, hi, hheap⟩ := hr.row hn (by simp only [Ex.den] at h1; omega)
            have hd := hv0.den (by simp)
            have hcv := hd.now.symm
            simp only [SV.den] at hcv
            have hj : ∃ ys, env[j]? = some (.l ys) := by
              simp only [Ex.den, gL] at h2
              split at h2
              · exact ⟨_, by assumption⟩
              · simp at h2; omega
            obtain ⟨ys, hj⟩ := hj
            rw [gL_get hj] at hcv
            simp only [Ex.den, gL_get hi, gL_get hj] at h1 h2
            rw [hb, addrOf, add0] at hca
            have e2 : xs.length = ys.length := by omega
            have hst := run_storeCells_at X.P b 0 ty (ys.map (Value.int k)) 0 (xs.map (Value.int k)).toArray w hheap (by simp; omega) (by simp; intro x _; rfl)
            have hset : ((xs.map (Value.int k)).toArray.toList.take (0 + 0) ++ ys.map (Value.int k) ++ (xs.map (Value.int k)).toArray.toList.drop (0 + 0 + (ys.map (Value.int k)).length)) = ys.map (Value.int k) := by
              simp [← e2]
            rw [hset] at hst
            have hrun : (execOp a.eval o).run X.P w = .ok .skip (w.setRow b (ys.map (Value.int k)).toArray) := by
              simp only [execOp, hop, Instr.storeAt, hca, Instr.sureAddr, Sem.run_bind, Sem.run_pure, Result.andThen_ok, storeVar, sizeT_run hm, hcv, Value.cells]
              have e1 : ¬ (ys.map (Value.int k)).toArray.size ≠ m + 1 := by simp; omega
              simp only [e1, if_false, hst, Result.andThen_ok]
            rw [hrun]
            exact skip (hc.setRow' hn hb hj) h3
          · exact hs.elim
        · exact hs.elim
      · exact hs.elim
    · rename_i n e hvv
      rw [hvv] at had
      have hca := (had.den (by simp)).now.symm
      simp only [SV.den] at hca
      split at hs
      · rename_i k ty i k' x hn hvx
        split at hs
        · rename_i hk
          obtain ⟨rfl, hsz⟩ := hk
          obtain ⟨hns, hs⟩ := needs_sat hs
          have b1 := leE_spec (env := env) (fun c hc => hns c (by simp only [List.mem_append]; exact .inl hc))
          have b2 := ltE_spec (env := env) (fun c hc => hns c (by simp only [List.mem_append]; exact .inr hc))
          simp only [Ex.den] at b1 b2
          obtain ⟨_, b, xs, hb, hi, hheap⟩ := hr.row hn (by omega)
          simp only [gL_get hi] at b2
          rw [hvx] at hv0
          obtain ⟨hcv, _⟩ := den_int (hv0.den (by simp))
          rw [hb, addrOf, add0] at hca
          simp only [Nat.mul_one, Nat.add_zero] at hca
          have hlt : (e.den env).toNat < xs.length := by omega
          have hst := run_storeCells_at X.P b (e.den env).toNat ty [Value.int k (x.den env)] 0 (xs.map (Value.int k)).toArray w hheap (by simp; omega) (by simp; rfl)
          have hset : ((xs.map (Value.int k)).take ((e.den env).toNat + 0) ++ [Value.int k (x.den env)] ++ (xs.map (Value.int k)).drop ((e.den env).toNat + 0 + [Value.int k (x.den env)].length)) = (xs.set (e.den env).toNat (x.den env)).map (Value.int k) := by
            rw [List.map_set, List.set_eq_take_append_cons_drop, if_pos (by simpa using hlt)]
            simp
          have hrun : (execOp a.eval o).run X.P w = .ok .skip (w.setRow b ((xs.set (e.den env).toNat (x.den env)).map (Value.int k)).toArray) := by
            simp only [execOp, hop, Instr.storeAt, hca, Instr.sureAddr, Sem.run_bind, Sem.run_pure, Result.andThen_ok, storeVar, sizeT_run hsz, hcv, Value.cells]
            rw [← hset]
            simp at hst ⊢
            simp [hst]
          rw [hrun]
          simp only [Tree.sat] at hs
          rw [gL_get hi] at hs
          have hc2 := hc.ext [EV.l (xs.set (e.den env).toNat (x.den env))]
          have hc3 := hc2.setRow' (n := n) (i := i) (j := st.ne) (k := k) (ty := ty) (xs := xs.set (e.den env).toNat (x.den env)) hn hb (by rw [← hc.ne]; exact last_get _)
          exact hK _ _ _ _ _ (hpre.env _) (hc3.put o.dst (v := .junk) (c := undef) (.inl rfl)) hs
        · exact hs.elim
      · exact hs.elim
    · exact hs.elim
  · -- alloc
    rename_i t hop
    split at hs
    · rename_i k len hz
      obtain ⟨z, hz1, hz2⟩ := zeroRow_spec hz
      simp only [Tree.sat, Ex.den, Int.toNat_natCast] at hs
      have hrun : (execOp a.eval o).run X.P w = .ok (.value (.pointer (some ⟨w.heap.size, 0, none⟩))) (w.alloc (.cells ((List.replicate len (0 : Int)).map (Value.int k)).toArray t)) := by
        simp only [execOp, hop, Instr.alloc, Sem.run_bind, hz1, Result.andThen_ok, newVar, newRow, run_newObj, Sem.run_pure, hz2, List.map_replicate]
        rfl
      rw [hrun]
      have hc2 := hc.ext [EV.l (List.replicate len (0 : Int))]
      have hc3 := hc2.allocRow k t (i := st.ne) (xs := List.replicate len (0 : Int)) (by rw [← hc.ne]; exact last_get _)
      exact hK _ _ _ _ _ ((hpre.env _).rho _) (hc3.put o.dst (.inr (newptr_den hc.sat.len))) hs
    · split at hs
      · rename_i zs hz
        obtain ⟨z, hz1, hz2⟩ := zeroT_spec (env := env) (ρ := ρ) hz
        have hrun : (execOp a.eval o).run X.P w = .ok (.value (.pointer (some ⟨w.heap.size, 0, none⟩))) (w.alloc (.cells z.cells.toList.toArray t)) := by
          simp only [execOp, hop, Instr.alloc, Sem.run_bind, hz1, Result.andThen_ok, newVar, newRow, run_newObj, Sem.run_pure]
          rfl
        rw [hrun]
        exact hK _ _ _ _ _ (hpre.rho _) ((hc.alloc t hz2).put o.dst (.inr (newptr_den hc.sat.len))) hs
      · exact hs.elim
  · -- box
    rename_i t x hop
    split at hs
    · rename_i hall
      obtain ⟨hfl, _⟩ := flat_spec hr hall (evalO_rel hc.tm.1 x)
      have hrun : (execOp a.eval o).run X.P w = .ok (.value (.pointer (some ⟨w.heap.size, 0, none⟩))) (w.alloc (.cells (a.eval x).cells.toList.toArray t)) := by
        simp only [execOp, hop, Instr.box, Sem.run_bind, Result.andThen_ok, newVar, newRow, run_newObj, Sem.run_pure]
        rfl
      rw [hrun]
      exact hK _ _ _ _ _ (hpre.rho _) ((hc.alloc t hfl).put o.dst (.inr (newptr_den hc.sat.len))) hs
    · exact hs.elim
  · -- buildSlice
    rename_i t len parts hop
    split at hs
    · rename_i elem hu
      split at hs
      · rename_i s z hsz hz
        split at hs
        · rename_i hcond
          obtain ⟨hl, hs0, hzl⟩ := hcond
          split at hs
          · rename_i l hf
            obtain ⟨zv, hz1, hz2⟩ := zeroT_spec (env := env) (ρ := ρ) hz
            have hzs : zv.cells.size = s := by have := hz2.len; simp at this; omega
            have hzz := flatten_den (fun _ => rfl) hz2 len
            have hparts : ∀ (j : Nat) p q, (parts.toList.map fun (i, x) => (i, evalO st.tm x))[j]? = some p → (parts.toList.map fun (i, x) => (i, a.eval x))[j]? = some q → p.1 = q.1 ∧ Rel env ρ p.2 q.2 := by
              intro j p q hp1 hq1
              simp only [List.getElem?_map, Option.map_eq_some_iff] at hp1 hq1
              obtain ⟨u, hu, rfl⟩ := hp1
              obtain ⟨u', hu', rfl⟩ := hq1
              rw [hu] at hu'; injection hu' with hu'; subst hu'
              exact ⟨rfl, evalO_rel hc.tm.1 _⟩
            obtain ⟨cs, e0, e1, _⟩ := fillS_spec (pl := fun i => some (i * s, s)) (pl' := fun i => some (i * s, s)) hr (fun _ _ h => h) _ (parts.toList.map fun (i, x) => (i, a.eval x)) _ l _ (by simp) hparts hf hzz
            rw [← zeros_array zv.cells s hzs hs0 len] at e0
            have hrun : (execOp a.eval o).run X.P w = .ok (.value (.slice (some ⟨w.heap.size, 0, none⟩) len len)) (w.alloc (.cells cs.toArray elem)) := by
              simp only [execOp, hop, Instr.buildSlice, Sem.run_bind, run_underlying hu, Result.andThen_ok, sizeT_run hsz]
              have h1 : ¬ len * s > 2 ^ 24 := by omega
              have r0 : Array.range 0 = #[] := rfl
              rw [if_neg h1]
              by_cases h0 : len * s = 0
              · have hlen0 : len = 0 := by
                  rcases Nat.mul_eq_zero.1 h0 with h | h
                  · exact h
                  · omega
                subst hlen0
                simp only [Nat.zero_mul, show Array.range 0 = #[] from rfl, Array.map_empty] at e0
                have e0' : Instr.fill (fun i => some (i * s, s)) #[] (parts.map fun x => (x.1, a.eval x.2)).toList = some cs.toArray := by rw [Array.toList_map]; exact e0
                simp only [h0, if_true, Sem.run_pure, Result.andThen_ok, r0, Array.map_empty, e0', newRow, Sem.run_bind, run_newObj]
                rfl
              · have e0' : Instr.fill (fun i => some (i * s, s)) ((Array.range (len * s)).map fun j => zv.cells[j % zv.cells.size]!) (parts.map fun x => (x.1, a.eval x.2)).toList = some cs.toArray := by rw [Array.toList_map]; exact e0
                simp only [h0, if_false, Sem.run_bind, hz1, Sem.run_pure, Result.andThen_ok, e0', newRow, run_newObj]
                rfl
            rw [hrun]
            refine hK _ _ _ _ _ (hpre.rho _) ((hc.alloc elem e1).put o.dst (.inr ?_)) hs
            have := slice_den (env := env) (ρ := ρ ++ [Value.pointer (some ⟨w.heap.size, 0, none⟩)]) (n := st.hp.length) (l := .lit len) (c := .lit len) (by simp [hc.sat.len]) (fun _ => rfl) (fun _ => rfl)
            rw [← hc.sat.len, hv_len] at this
            rw [← hc.sat.len]
            simpa [baseOf, Ex.den] using this
          · exact hs.elim
        · exact hs.elim
      · exact hs.elim
    · exact hs.elim
  · -- makeSlice
    rename_i t l c hop
    have hlr := evalO_rel hc.tm.1 l
    have hcr := evalO_rel hc.tm.1 c
    split at hs
    · rename_i elem k1 n k2 m hu hl1 hc1
      split at hs
      · rename_i s z i hsz hz hi
        split at hs
        · rename_i hcond
          obtain ⟨hnm, hn0, hn1, hs0, hzl, hby⟩ := hcond
          subst hnm
          rw [hl1] at hlr
          rw [hc1] at hcr
          obtain ⟨el, _⟩ := den_int (hlr.den (by simp))
          obtain ⟨ec, _⟩ := den_int (hcr.den (by simp))
          simp only [Ex.den] at el ec
          obtain ⟨zv, hz1, hz2⟩ := zeroT_spec (env := env) (ρ := ρ) hz
          have hzs : zv.cells.size = s := by have := hz2.len; simp at this; omega
          have hzz := flatten_den (fun _ => rfl) hz2 n.toNat
          have hwrap : IntKind.i64.wrap n = n := wrap_small n hn0 (by omega)
          have hrun : (execOp a.eval o).run X.P w = .ok (.value (.slice (some ⟨w.heap.size, 0, none⟩) n.toNat n.toNat)) (w.alloc (.cells ((List.replicate n.toNat zv.cells.toList).flatten).toArray elem)) := by
            have hti : (typeInfo elem).run X.P w = .ok i w := by simp [typeInfo, hi]
            have hbig : ¬ ((i.bytes : Int) * n > 2 ^ 48) := by
              have : (i.bytes : Int) * n ≤ 4096 * 64 := Int.mul_le_mul (by omega) (by omega) hn0 (by omega)
              omega
            have hneg : ¬ n < 0 := by omega
            simp only [execOp, hop, Instr.makeSlice, Sem.run_bind, run_underlying hu, Result.andThen_ok, el, ec, asInt, asIntOf, Sem.run_pure, hti, hwrap]
            simp only [hneg, hbig, decide_false, Bool.false_or, Bool.or_false, Int.lt_irrefl, gt_iff_lt, or_self, if_false, Bool.false_eq_true, Sem.run_bind, run_askRoom, Result.andThen_ok, sizeT_run hsz]
            have hzl : n.toNat * s = 0 → n.toNat = 0 := fun h => by
              rcases Nat.mul_eq_zero.1 h with h | h
              · exact h
              · omega
            by_cases h0 : n.toNat * s = 0
            · have hn' := hzl h0
              rw [if_pos h0]
              simp only [hn', Nat.zero_mul, show Array.range 0 = #[] from rfl, Array.map_empty, List.replicate_zero, List.flatten_nil, Sem.run_bind, Sem.run_pure, Result.andThen_ok, newRow, run_newObj]
              rfl
            · rw [if_neg h0]
              have hz := zeros_array zv.cells s hzs hs0 n.toNat
              simp only [Sem.run_bind, hz1, Sem.run_pure, Result.andThen_ok, newRow, run_newObj, hz]
              rfl
          rw [hrun]
          refine hK _ _ _ _ _ (hpre.rho _) ((hc.alloc elem hzz).put o.dst (.inr ?_)) hs
          have := slice_den (env := env) (ρ := ρ ++ [Value.pointer (some ⟨w.heap.size, 0, none⟩)]) (n := st.hp.length) (l := .lit n) (c := .lit n) (by simp [hc.sat.len]) (fun _ => rfl) (fun _ => rfl)
          rw [← hc.sat.len, hv_len] at this
          rw [← hc.sat.len]
          simpa [baseOf, Ex.den] using this
        · exact hs.elim
      · exact hs.elim
    · rename_i elem k1 e k2 e' _ hu hl1 hc1
      split at hs
      · rename_i k i hue hi
        split at hs
        · rename_i k' hz
          split at hs
          · rename_i hcond
            simp only [Bool.and_eq_true, decide_eq_true_eq] at hcond
            obtain ⟨⟨⟨hee, hkk⟩, hsize⟩, hby⟩ := hcond
            subst hkk
            have hee := Ex.beq_eq hee
            subst hee
            obtain ⟨hns, hs⟩ := needs_sat hs
            have b1 := leE_spec (env := env) (fun c hc => hns c (by simp only [List.mem_append]; exact .inl hc))
            have b2 := leE_spec (env := env) (fun c hc => hns c (by simp only [List.mem_append]; exact .inr hc))
            simp only [Ex.den] at b1 b2
            rw [hl1] at hlr
            rw [hc1] at hcr
            obtain ⟨el, hes⟩ := den_int (hlr.den (by simp))
            obtain ⟨ec, _⟩ := den_int (hcr.den (by simp))
            generalize hn : e.den env = n at el ec b1 b2 hes
            have hsz : sizeT X.P elem = some 1 := by simp [sizeT, hi, hsize]
            have hz1 : ∀ w, (zeroValue elem).run X.P w = .ok (.int k 0) w := fun w => by simp [zeroValue, typeInfo, hi, hz]
            have hwrap : IntKind.i64.wrap n = n := wrap_small n b1 (by omega)
            have hrun : (execOp a.eval o).run X.P w = .ok (.value (.slice (some ⟨w.heap.size, 0, none⟩) n.toNat n.toNat)) (w.alloc (.cells ((List.replicate n.toNat (0 : Int)).map (Value.int k)).toArray elem)) := by
              have hti : (typeInfo elem).run X.P w = .ok i w := by simp [typeInfo, hi]
              have hbig : ¬ ((i.bytes : Int) * n > 2 ^ 48) := by
                have : (i.bytes : Int) * n ≤ 8 * 1000000 := Int.mul_le_mul (by omega) (by omega) b1 (by omega)
                omega
              have hneg : ¬ n < 0 := by omega
              simp only [execOp, hop, Instr.makeSlice, Sem.run_bind, run_underlying hu, Result.andThen_ok, el, ec, asInt, asIntOf, Sem.run_pure, hti, hwrap]
              simp only [hneg, hbig, decide_false, Bool.false_or, Bool.or_false, Int.lt_irrefl, gt_iff_lt, or_self, if_false, Bool.false_eq_true, Sem.run_bind, run_askRoom, Result.andThen_ok, sizeT_run hsz, Nat.mul_one]
              by_cases h0 : n.toNat = 0
              · rw [if_pos h0]
                simp only [h0, show Array.range 0 = #[] from rfl, Array.map_empty, List.replicate_zero, List.map_nil, Sem.run_bind, Sem.run_pure, Result.andThen_ok, newRow, run_newObj]
                rfl
              · rw [if_neg h0]
                have hz := zeros_array #[Value.int k 0] 1 rfl (by omega) n.toNat
                have hfl : (List.replicate n.toNat (#[Value.int k 0] : Array Value).toList).flatten = (List.replicate n.toNat (0 : Int)).map (Value.int k) := by
                  simp [List.map_replicate]
                rw [hfl, Nat.mul_one] at hz
                simp only [Sem.run_bind, hz1, Sem.run_pure, Result.andThen_ok, newRow, run_newObj, Value.cells, hz]
                rfl
            rw [hrun]
            simp only [Tree.sat, hn, Ex.den] at hs
            have hc2 := hc.ext [EV.l (List.replicate n.toNat (0 : Int))]
            have hc3 := hc2.allocRow k elem (i := st.ne) (xs := List.replicate n.toNat (0 : Int)) (by rw [← hc.ne]; exact last_get _)
            refine hK _ _ _ _ _ ((hpre.env _).rho _) (hc3.put o.dst (.inr ?_)) hs
            have hes' : ∀ xs, e.den (env ++ [EV.l (List.replicate n.toNat (0 : Int))] ++ xs) = n := fun xs => by rw [List.append_assoc]; exact hes _
            have := slice_den (env := env ++ [EV.l (List.replicate n.toNat (0 : Int))]) (ρ := ρ ++ [Value.pointer (some ⟨w.heap.size, 0, none⟩)]) (n := st.hp.length) (l := e) (c := e) (by simp [hc.sat.len]) (DenE.stab hes') (DenE.stab hes')
            rw [← hc.sat.len, hv_len] at this
            have h00 : e.den (env ++ [EV.l (List.replicate n.toNat (0 : Int))]) = n := hes _
            rw [h00] at this
            show Den _ _ (SV.slice st.hp.length e e) _
            rw [← hc.sat.len]
            simpa [baseOf] using this
          · exact hs.elim
        · exact hs.elim
      · exact hs.elim
    · exact hs.elim
  · -- call
    rename_i c hop
    split at hs
    · rename_i f hcal
      split at hs
      · rename_i g first captured hf
        have hfr := evalO_rel hc.tm.1 f
        rw [hf] at hfr
        obtain ⟨fs, cs, e, hfd, hcd⟩ := den_func (hfr.den (by simp))
        have hargs : ArgsRel env ρ (first ++ c.args.toList.map (evalO st.tm) ++ captured) (fs ++ c.args.toList.map a.eval ++ cs) :=
          ((ArgsRel.of_den hfd).append (ArgsRel.of_ops hc.tm.1 _)).append (ArgsRel.of_den hcd)
        obtain ⟨⟨fn, body, hfn, hbody, hname⟩, hcalls⟩ := hinl pre g _ st _ env ρ a as w _ (fun v w' => N (a.put o.dst v) w') hbase hpre hc hargs (fun v st' env' ρ' c' w' hp hcc hrel hsat => hK _ _ _ _ _ hp (hcc.put o.dst hrel) hsat) hs
        have hrun : (execOp a.eval o).run X.P w = .ok (.enter g (fs ++ c.args.toList.map a.eval ++ cs).toArray) w := by
          have hee := Go.MuLone.run_callFunc_enter hfn hname hbody (fs ++ c.args.toList.map a.eval ++ cs).toArray w
          have harr : (fs.toArray ++ c.args.map a.eval ++ cs.toArray) = (fs ++ c.args.toList.map a.eval ++ cs).toArray := by apply Array.toList_inj.1; simp
          simp only [execOp, hop, resolve, hcal, e, Deferred.ofValue, Sem.run_bind, Sem.run_pure, Result.andThen_ok, invoke]
          rw [harr, hee]
        rw [hrun]
        show Calls X.P g _ w _
        exact Calls.mono hcalls fun e' w' ⟨c', he, hn⟩ => by subst he; exact hn
      · exact hs.elim
    · -- append to what is empty
      rename_i hcal
      split at hs
      · rename_i n1 n2 e ce t t2 hargs htypes
        split at hs
        · rename_i htt
          subst htt
          split at hs
          · rename_i elem vs1 ty1 k ty i hu hn1 hn2
            split at hs
            · rename_i k' inf hue hinf
              split at hs
              · rename_i k'' hz
                split at hs
                · rename_i hcond
                  simp only [Bool.and_eq_true, decide_eq_true_eq] at hcond
                  obtain ⟨⟨⟨rfl, rfl⟩, hsize⟩, hbytes⟩ := hcond
                  obtain ⟨hns, hs⟩ := needs_sat hs
                  have b1 := leE_spec (env := env) (a := .lit 0) (b := e) (fun c hc => hns c (by simp only [List.mem_append]; exact .inl (.inl hc)))
                  have b2 := leE_spec (env := env) (a := e) (b := .len i) (fun c hc => hns c (by simp only [List.mem_append]; exact .inl (.inr hc)))
                  have b3 := leE_spec (env := env) (a := e) (b := .lit 1000000) (fun c hc => hns c (by simp only [List.mem_append]; exact .inr hc))
                  simp only [Ex.den] at b1 b2 b3
                  obtain ⟨x1, x2, hx⟩ : ∃ x1 x2, c.args.toList = [x1, x2] := by
                    have := congrArg List.length hargs
                    simp only [List.length_map, List.length_cons, List.length_nil] at this
                    match hl : c.args.toList, this with
                    | [x1, x2], _ => exact ⟨x1, x2, rfl⟩
                  rw [hx] at hargs
                  simp only [List.map_cons, List.map_nil, List.cons.injEq, and_true] at hargs
                  obtain ⟨g1, g2⟩ := hargs
                  have hr1 := evalO_rel hc.tm.1 x1
                  rw [g1] at hr1
                  have hr2 := evalO_rel hc.tm.1 x2
                  rw [g2] at hr2
                  obtain ⟨ev1, _, _⟩ := den_slice (hr1.den (by simp))
                  obtain ⟨ev2, hst, _⟩ := den_slice (hr2.den (by simp))
                  simp only [Ex.den, Int.toNat_zero] at ev1
                  have harr : c.args.map a.eval = #[a.eval x1, a.eval x2] := by apply Array.toList_inj.1; simp [hx]
                  have hty : c.argTypes = #[t2, t2] := by apply Array.toList_inj.1; rw [htypes]
                  obtain ⟨S, hS⟩ := hc.sat.own
                  obtain ⟨bb1, cs1, p1, p2, p3, p4⟩ := hS.holds n1 _ hn1
                  have hrow := hS.holds n2 _ hn2
                  have hrun0 : ∀ r w', (Builtin.append_ #[t2, t2] o.type #[a.eval x1, a.eval x2]).run X.P w = .ok r w' → (execOp a.eval o).run X.P w = .ok (.value r) w' := by
                    intro r w' h
                    simp only [execOp, hop, resolve, hcal, Sem.run_bind, Sem.run_pure, Result.andThen_ok, invoke, builtin, harr, hty, h]
                  obtain ⟨hs0, hs1⟩ := hs
                  rw [p1] at ev1
                  by_cases h0 : e.den env = 0
                  · have hk := hs0 (by simp [Bx.den, cmpDen, Ex.den, h0])
                    rw [h0] at ev2
                    rw [hrun0 _ _ (by rw [ev1, ev2]; exact run_append_zero t2 o.type elem inf hu hinf _ _ _ w)]
                    refine hK _ _ _ _ _ hpre (hc.put o.dst (.inr ?_)) hk
                    have := hr1.den (by simp)
                    rw [ev1] at this
                    exact this
                  · rcases hrow with ⟨_, q2⟩ | ⟨b2', xs, q1, q2, q3, q4⟩
                    · simp [gL, q2] at b2; omega
                    have hxs : gL env i = xs := by simp [gL, q2]
                    rw [hxs] at b2
                    rw [q1] at ev2
                    have hN : 0 < (e.den env).toNat := by omega
                    have hcell : ∀ j v, ((xs.take (e.den env).toNat).map (Value.int k''))[j]? = some v → w.cell? ((⟨b2', 0, none⟩ : Addr).add j) = some v := by
                      intro j v hj
                      rw [Addr.add_lit]
                      simp only [List.getElem?_map, Option.map_eq_some_iff] at hj
                      obtain ⟨x, hx1, rfl⟩ := hj
                      rw [List.getElem?_take] at hx1
                      split at hx1
                      · simp [World.cell?, q3, hx1]
                      · cases hx1
                    have hgrow := run_append_grow (P := X.P) (w := w) t2 o.type elem inf (.int k'' 0) hu hinf hz ⟨bb1, 0, none⟩ 0 0 [] (by simp) (by simp) ⟨b2', 0, none⟩ (e.den env).toNat (ce.den env).toNat ((xs.take (e.den env).toNat).map (Value.int k''))
                      (by simp [hsize]; omega) hcell (by omega) (by omega) (by
                        rw [Nat.zero_add, nextslicecap_zero hN]
                        have : (e.den env).toNat * inf.bytes ≤ 1000000 * 8 := Nat.mul_le_mul (by omega) hbytes
                        omega)
                    have hk := hs1 (by simp [Bx.den, cmpDen, Ex.den, h0]) (grownCap w (0 + (e.den env).toNat) 0 elem - (0 + (e.den env).toNat))
                    rw [hxs] at hk
                    rw [hrun0 _ _ (by rw [ev1, ev2]; exact hgrow)]
                    have hge := grownCap_ge w (0 + (e.den env).toNat) 0 elem
                    generalize hcap : grownCap w (0 + (e.den env).toNat) 0 elem - (0 + (e.den env).toNat) = cp at hk ⊢
                    have hcap2 : grownCap w (0 + (e.den env).toNat) 0 elem = (e.den env).toNat + cp := by omega
                    rw [hcap2]
                    have hcells : (([] : List Value).toArray ++ ((xs.take (e.den env).toNat).map (Value.int k'')).toArray ++ Builtin.zeroCells (Value.int k'' 0).cells cp) = ((xs.take (e.den env).toNat ++ List.replicate cp 0).map (Value.int k'')).toArray := by
                      have hzc : Builtin.zeroCells (Value.int k'' 0).cells cp = ((List.replicate cp (0 : Int)).map (Value.int k'')).toArray := by
                        apply Array.ext
                        · simp [Builtin.zeroCells, Value.cells]
                        · intro i h1 h2
                          simp [Builtin.zeroCells, Value.cells, Nat.mod_one]
                      rw [hzc]
                      simp
                    rw [hcells]
                    have hc2 := (hc.drewn (w.drawn + 1)).ext [EV.l (xs.take (e.den env).toNat ++ List.replicate cp 0), EV.i (((e.den env).toNat + cp : Nat) : Int)]
                    have hc3 := hc2.allocRow k'' elem (i := st.ne) (xs := xs.take (e.den env).toNat ++ List.replicate cp 0) (by rw [← hc.ne]; simp)
                    refine hK _ _ _ _ _ ((hpre.env _).rho _) (hc3.put o.dst (.inr ?_)) hk
                    have hv1 : ∀ xs' : List (EV U), (Ex.var (st.ne + 1)).den ((env ++ [EV.l (xs.take (e.den env).toNat ++ List.replicate cp 0), EV.i (((e.den env).toNat + cp : Nat) : Int)]) ++ xs') = (((e.den env).toNat + cp : Nat) : Int) := by
                      intro xs'
                      rw [← hc.ne, List.append_assoc]
                      simp only [Ex.den, gI]
                      rw [List.getElem?_append_right (by omega), Nat.add_sub_cancel_left]
                      rfl
                    have hv0 := hv1 []
                    rw [List.append_nil] at hv0
                    have hd := slice_den (env := env ++ [EV.l (xs.take (e.den env).toNat ++ List.replicate cp 0), EV.i (((e.den env).toNat + cp : Nat) : Int)]) (ρ := ρ ++ [Value.pointer (some ⟨w.heap.size, 0, none⟩)]) (n := st.hp.length) (l := e) (c := .var (st.ne + 1)) (by simp [hc.sat.len]) (EStab.ext hst _) (fun xs' => by rw [hv1 xs', hv0])
                    rw [← hc.sat.len, hv_len, hst, hv0, Int.toNat_natCast] at hd
                    rw [Nat.zero_add]
                    show Den _ _ (SV.slice st.hp.length e (.var (st.ne + 1))) _
                    rw [← hc.sat.len]
                    exact hd
                · exact hs.elim
              · exact hs.elim
            · exact hs.elim
          · exact hs.elim
        · exact hs.elim
      · exact hs.elim
    · exact hs.elim
  · exact hs.elim

end
end Go.Proofs.Ytjohihkbampbgaa
