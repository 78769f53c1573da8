/- The symbolic executor: an operation that changes nothing yields what its value denotes: all together. No program is named here. -/
import Derived.Test.YtjohihkbampbgaaSg
namespace Go.Proofs.Ytjohihkbampbgaa
set_option linter.unusedVariables false
set_option linter.unusedSimpArgs false
set_option linter.unusedSectionVars false
open Go

section
variable {U : Type} [Nil U] {env : List (EV U)} {ρ : List Value} {P : Program} {hp : List HE} {W : World → Prop} {w1 : World}

theorem binS_sound (hr : Reads env ρ hp w1) {op : BinOp} {t : TypeId} {x y : SV} {ns : List Bx} {v : SV} {cx cy : Value} (h : binS P hp op t x y = some (ns, v)) (hx : Rel env ρ x cx) (hy : Rel env ρ y cy)
    (hns : ∀ b ∈ ns, b.den env = true) (xo yo : Operand) : ∃ c, Rel env ρ v c ∧ ∀ w, (do eqGuard op t xo yo cx cy; binOp op t cx cy : Sem Value).run P w = .ok c w := by
  unfold binS at h
  have arith : ∀ {k k' : IntKind} {a b : Ex}, x = .int k a → y = .int k' b → k = k' → (op = .add ∨ op = .sub ∨ op = .mul ∨ op = .and ∨ op = .or ∨ op = .xor ∨ op = .andNot) → v = .int k (mkBin op k a b) →
      ∃ c, Rel env ρ v c ∧ ∀ w, (do eqGuard op t xo yo cx cy; binOp op t cx cy : Sem Value).run P w = .ok c w := by
    intro k k' a b hx' hy' hk hop hv
    subst hx' hy' hk hv
    obtain ⟨rfl, e1⟩ := den_int (hx.den (by simp))
    obtain ⟨rfl, e2⟩ := den_int (hy.den (by simp))
    refine ⟨_, .inr (int_den (denE_bin op k e1 e2)), fun w => ?_⟩
    rcases hop with rfl | rfl | rfl | rfl | rfl | rfl | rfl <;> simp [eqGuard, binOp, Op.intArith, binDen, intBits_and, intBits_or, intBits_xor, intBits_andNot]
  split at h
  · simp only [Option.map_eq_some_iff, Prod.mk.injEq] at h
    obtain ⟨b, hb, rfl, rfl⟩ := h
    obtain ⟨r, e1, e2, e3⟩ := eqlS_sound hr hb hx hy xo yo
    exact ⟨_, .inr (bool_den e1), e2⟩
  · simp only [Option.map_eq_some_iff, Prod.mk.injEq] at h
    obtain ⟨b, hb, rfl, rfl⟩ := h
    obtain ⟨r, e1, e2, e3⟩ := eqlS_sound hr hb hx hy xo yo
    exact ⟨_, .inr (bool_den (denB_not e1)), e3⟩
  · split at h
    · rename_i k a k' b
      simp only [Option.some.injEq, Prod.mk.injEq] at h
      obtain ⟨rfl, rfl⟩ := h
      obtain ⟨rfl, e1⟩ := den_int (hx.den (by simp))
      obtain ⟨rfl, e2⟩ := den_int (hy.den (by simp))
      have b1 := leE_spec hns
      simp only [Ex.den] at b1
      have : ¬ b.den env < 0 := by omega
      exact ⟨_, .inr (int_den (denE_bin .shl k e1 e2)), fun w => by simp [eqGuard, binOp, Op.shift, this, binDen]⟩
    · cases h
  · split at h
    · rename_i k a k' b
      simp only [Option.some.injEq, Prod.mk.injEq] at h
      obtain ⟨rfl, rfl⟩ := h
      obtain ⟨rfl, e1⟩ := den_int (hx.den (by simp))
      obtain ⟨rfl, e2⟩ := den_int (hy.den (by simp))
      have b1 := leE_spec hns
      simp only [Ex.den] at b1
      have : ¬ b.den env < 0 := by omega
      exact ⟨_, .inr (int_den (denE_bin .shr k e1 e2)), fun w => by simp [eqGuard, binOp, Op.shift, this, binDen]⟩
    · cases h
  iterate 4
    · split at h
      · rename_i k a k' b
        split at h
        · rename_i hk
          subst hk
          simp only [Option.some.injEq, Prod.mk.injEq] at h
          obtain ⟨rfl, rfl⟩ := h
          obtain ⟨rfl, e1⟩ := den_int (hx.den (by simp))
          obtain ⟨rfl, e2⟩ := den_int (hy.den (by simp))
          exact ⟨_, .inr (bool_den (denB_cmp _ e1 e2)), fun w => by simp [eqGuard, binOp, Op.intCmp, cmpDen]⟩
        · cases h
      · cases h
  iterate 2
    · split at h
      · rename_i k a k' b
        split at h
        · rename_i hk
          subst hk
          simp only [Option.some.injEq, Prod.mk.injEq] at h
          obtain ⟨rfl, rfl⟩ := h
          obtain ⟨rfl, e1⟩ := den_int (hx.den (by simp))
          obtain ⟨rfl, e2⟩ := den_int (hy.den (by simp))
          have key : (mkCmp .neq b (.lit 0)).den env = true := by
            split at hns
            · rename_i hc; rw [hc]; rfl
            · exact hns _ (by simp)
          rw [den_mkCmp] at key
          have hz : ¬ b.den env = 0 := by simpa [cmpDen, Ex.den] using key
          exact ⟨_, .inr (int_den (denE_bin _ k e1 e2)), fun w => by simp [eqGuard, binOp, Op.intDiv, hz, binDen]⟩
        · cases h
      · cases h
  · rename_i h1 h2 h3 h4 h5 h6 h7 h8 h9 h10
    split at h
    · rename_i k a k' b
      split at h
      · rename_i hk
        simp only [Option.some.injEq, Prod.mk.injEq] at h
        refine arith rfl rfl hk ?_ h.2.symm
        cases op <;> simp_all
      · cases h
    · cases h

theorem denE_lit (n : Int) : DenE env (.lit n) n := fun _ => rfl
theorem unS_sound {op : UnOp} {x v : SV} {cx : Value} (h : unS op x = some v) (hx : Rel env ρ x cx) : ∃ c, Rel env ρ v c ∧ ∀ w, (Op.unary op cx).run P w = .ok c w := by
  unfold unS at h
  split at h
  · injection h with h; subst h
    obtain ⟨rfl, e1⟩ := den_bool (hx.den (by simp))
    exact ⟨_, .inr (bool_den (denB_not e1)), fun w => by simp [Op.unary]⟩
  · injection h with h; subst h
    obtain ⟨rfl, e1⟩ := den_int (hx.den (by simp))
    exact ⟨_, .inr (int_den (denE_bin .sub _ (fun _ => rfl) e1)), fun w => by simp [Op.unary, Op.intArith, binDen]⟩
  · injection h with h; subst h
    obtain ⟨rfl, e1⟩ := den_int (hx.den (by simp))
    exact ⟨_, .inr (int_den (denE_bin .xor _ (denE_lit _) e1)), fun w => by simp only [Op.unary, binDen, intBits_xor, Sem.run_pure]⟩
  · cases h

theorem den_slice {n : Nat} {l c : Ex} {v : Value} (h : Den env ρ (.slice n l c) v) : v = .slice (baseOf (hv ρ n)) (l.den env).toNat (c.den env).toNat ∧ EStab env l ∧ EStab env c := ⟨h.now.symm, h.2⟩
theorem slice_den {n : Nat} {l c : Ex} (hn : n < ρ.length) (hl : EStab env l) (hc : EStab env c) : Den env ρ (.slice n l c) (.slice (baseOf (hv ρ n)) (l.den env).toNat (c.den env).toNat) :=
  ⟨fun xs ys => by simp [SV.den, hv_app hn, hl xs, hc xs], hl, hc⟩
theorem Reads.base {hp : List HE} (hr : Reads env ρ hp w1) {n : Nat} {ns : List Bx} (h : baseS hp n = some ns) (hns : ∀ b ∈ ns, b.den env = true) : baseOf (hv ρ n) = some (addrOf (hv ρ n)) := by
  unfold baseS at h
  split at h
  · rename_i hn
    obtain ⟨_, b, cs, e, _⟩ := hr n _ hn
    rw [e]; rfl
  · rename_i i hn
    injection h with h
    subst h
    have b2 := ltE_spec hns
    simp only [Ex.den] at b2
    obtain ⟨_, b, xs, e, _⟩ := hr.row hn (by omega)
    rw [e]; rfl
  · cases h
theorem Reads.baseR {hp : List HE} (hr : Reads env ρ hp w1) {n i : Nat} {k : IntKind} {ty : TypeId} (hn : hp[n]? = some (.row k ty i)) (h : 0 < (gL env i).length) : baseOf (hv ρ n) = some (addrOf (hv ρ n)) := by
  obtain ⟨_, b, xs, e, _⟩ := hr.row hn h
  rw [e]; rfl
theorem Reads.baseO {hp : List HE} (hr : Reads env ρ hp w1) {n i : Nat} {ks : List (Option IntKind)} (hn : hp[n]? = some (.ro ks i)) (h : 0 < gN env i) : baseOf (hv ρ n) = some (addrOf (hv ρ n)) := by
  obtain ⟨_, a, g, m, e, _⟩ := hr.ro hn h
  rw [e]; rfl
theorem reads_lt (hr : Reads env ρ hp w1) {n : Nat} {h : HE} (hn : hp[n]? = some h) : n < ρ.length := (hr n h hn).1

theorem indexAddrS_sound (hr : Reads env ρ hp w1) {t : TypeId} {x i : SV} {ns : List Bx} {v : SV} {cx ci : Value} (h : indexAddrS P hp t x i = some (ns, v)) (hx : Rel env ρ x cx) (hi : Rel env ρ i ci)
    (hns : ∀ b ∈ ns, b.den env = true) : ∃ c, Rel env ρ v c ∧ ∀ w, (Instr.indexAt t cx ci).run P w = .ok c w := by
  unfold indexAddrS at h
  split at h
  · rename_i k e
    obtain ⟨rfl, e1⟩ := den_int (hi.den (by simp))
    split at h
    · rename_i len elem n off hu
      have hc := den_ptr (hx.den (by simp))
      subst hc
      split at h
      · rename_i hn
        split at h
        · rename_i sz j hsz
          split at h
          · rename_i hj
            simp only [Option.some.injEq, Prod.mk.injEq] at h
            obtain ⟨rfl, rfl⟩ := h
            refine ⟨_, .inr (ptr_den _ (reads_lt hr hn)), fun w => ?_⟩
            have hj' : 0 ≤ j ∧ j < (len : Int) := hj
            simp [Instr.indexAt, asIntOf, run_underlying hu, Instr.sureAddr, Ex.den, hj', sizeT_run hsz, addr_add_add]
          · cases h
        · cases h
      · rename_i hn
        split at h
        · rename_i hoff
          obtain ⟨rfl, hsz⟩ := hoff
          simp only [Option.some.injEq, Prod.mk.injEq] at h
          obtain ⟨rfl, rfl⟩ := h
          have b1 := leE_spec (env := env) (fun c hc => hns c (by simp only [List.mem_append]; exact .inl hc))
          have b2 := ltE_spec (env := env) (fun c hc => hns c (by simp only [List.mem_append]; exact .inr hc))
          simp only [Ex.den] at b1 b2
          refine ⟨_, .inr (ptrx_den 1 0 (reads_lt hr hn) e1), fun w => ?_⟩
          have hj' := And.intro b1 b2
          simp [Instr.indexAt, asIntOf, run_underlying hu, Instr.sureAddr, hj', sizeT_run hsz, addr_add_add]
        · cases h
      · cases h
    · rename_i elem n len cap hu
      obtain ⟨rfl, hl, hcap⟩ := den_slice (hx.den (by simp))
      split at h
      · rename_i hn
        split at h
        · rename_i sz j hsz
          split at h
          · rename_i hj
            simp only [Option.some.injEq, Prod.mk.injEq] at h
            obtain ⟨rfl, rfl⟩ := h
            have b2 := ltE_spec hns
            simp only [Ex.den] at b2
            refine ⟨_, .inr (ptr_den _ (reads_lt hr hn)), fun w => ?_⟩
            have hj' : 0 ≤ j ∧ j < max (len.den env) 0 := ⟨hj, by omega⟩
            rw [hr.baseC hn]
            simp [Instr.indexAt, asIntOf, run_underlying hu, Ex.den, hj', sizeT_run hsz]
          · cases h
        · cases h
      · rename_i k' ty' j' hn
        split at h
        · rename_i hsz
          simp only [Option.some.injEq, Prod.mk.injEq] at h
          obtain ⟨rfl, rfl⟩ := h
          have b1 := leE_spec (env := env) (fun c hc => hns c (by simp only [List.mem_append]; exact .inl (.inl hc)))
          have b2 := ltE_spec (env := env) (fun c hc => hns c (by simp only [List.mem_append]; exact .inl (.inr hc)))
          have b3 := ltE_spec (env := env) (fun c hc => hns c (by simp only [List.mem_append]; exact .inr hc))
          simp only [Ex.den] at b1 b2 b3
          refine ⟨_, .inr (ptrx_den 1 0 (reads_lt hr hn) e1), fun w => ?_⟩
          have hj' := And.intro b1 (Int.lt_of_lt_of_le b2 (Int.le_max_left _ 0))
          rw [hr.baseR hn (by omega)]
          simp [Instr.indexAt, asIntOf, run_underlying hu, hj', sizeT_run hsz]
        · cases h
      · rename_i ks i' hn
        split at h
        · rename_i hsz
          simp only [Option.some.injEq, Prod.mk.injEq] at h
          obtain ⟨rfl, rfl⟩ := h
          have b1 := leE_spec (env := env) (fun c hc => hns c (by simp only [List.mem_append]; exact .inl (.inl hc)))
          have b2 := ltE_spec (env := env) (fun c hc => hns c (by simp only [List.mem_append]; exact .inl (.inr hc)))
          have b3 := ltE_spec (env := env) (fun c hc => hns c (by simp only [List.mem_append]; exact .inr hc))
          simp only [Ex.den] at b1 b2 b3
          refine ⟨_, .inr (ptrx_den ks.length 0 (reads_lt hr hn) e1), fun w => ?_⟩
          have hj' := And.intro b1 (Int.lt_of_lt_of_le b2 (Int.le_max_left _ 0))
          rw [hr.baseO hn (by omega)]
          simp [Instr.indexAt, asIntOf, run_underlying hu, hj', sizeT_run hsz]
        · cases h
      · cases h
    · cases h
  · cases h

theorem sureL_mem {l : List SV} : SV.sureL l = true ↔ ∀ v ∈ l, v.sure = true := by
  induction l with
  | nil => simp [SV.sureL]
  | cons v l ih => simp [SV.sureL, ih]
theorem sure_ne {v : SV} (h : v.sure = true) : v ≠ .junk := by intro e; subst e; simp [SV.sure] at h
/-- operands, one by one -/
theorem evalO_list {tm : Tm} {a : Act} (ht : TmRel env ρ tm a.tmps) : ∀ (xs : List Operand), SV.sureL (xs.map (evalO tm)) = true → DenL env ρ (xs.map (evalO tm)) (xs.map a.eval)
  | [], _ => DenL.nil
  | x :: xs, h => by
    simp only [List.map_cons, SV.sureL, Bool.and_eq_true] at h
    exact DenL.cons ((evalO_rel ht x).den (sure_ne h.1)) (evalO_list ht xs h.2)

theorem evalP_sound {tm : Tm} {o : Oper} {ns : List Bx} {v : SV} {a : Act} (h : evalP P hp tm o = some (ns, v)) (ht : TmRel env ρ tm a.tmps)
    (hr : ∀ w, W w → Reads env ρ hp w) (h1 : W w1) (hns : ∀ b ∈ ns, b.den env = true) :
    ∃ c, Rel env ρ v c ∧ ∀ w, W w → (execOp a.eval o).run P w = .ok (.value c) w := by
  have hr1 := hr w1 h1
  unfold evalP at h
  dsimp only at h
  split at h
  · rename_i x ho
    simp only [Option.some.injEq, Prod.mk.injEq] at h
    obtain ⟨rfl, rfl⟩ := h
    exact ⟨_, evalO_rel ht x, fun w _ => by simp [execOp, ho]⟩
  · rename_i x ho
    simp only [Option.some.injEq, Prod.mk.injEq] at h
    obtain ⟨rfl, rfl⟩ := h
    exact ⟨_, evalO_rel ht x, fun w _ => by simp [execOp, ho]⟩
  · rename_i c x y ho
    have hc := evalO_rel ht c
    split at h
    · rename_i hcv
      rw [hcv] at hc
      obtain ⟨e, _⟩ := den_bool (hc.den (by simp))
      simp only [Option.some.injEq, Prod.mk.injEq] at h
      obtain ⟨rfl, rfl⟩ := h
      exact ⟨_, evalO_rel ht x, fun w _ => by simp [execOp, ho, e, asBool, Bx.den]⟩
    · rename_i hcv
      rw [hcv] at hc
      obtain ⟨e, _⟩ := den_bool (hc.den (by simp))
      simp only [Option.some.injEq, Prod.mk.injEq] at h
      obtain ⟨rfl, rfl⟩ := h
      exact ⟨_, evalO_rel ht y, fun w _ => by simp [execOp, ho, e, asBool, Bx.den]⟩
    · cases h
  · rename_i t parts ho
    split at h
    · rename_i z pl hz hpl
      simp only [Option.map_eq_some_iff, Prod.mk.injEq] at h
      obtain ⟨l, hl, rfl, rfl⟩ := h
      obtain ⟨zv, hz1, hz2⟩ := zeroT_spec (env := env) (ρ := ρ) hz
      have hfill : ∃ cs, (∀ pl', (∀ i x, pl i = some x → pl' i = some x) → Instr.fill pl' zv.cells (parts.map fun (i, x) => (i, a.eval x)).toList = some cs.toArray) ∧ DenL env ρ l cs := by
        have hparts : ∀ (j : Nat) p q, (parts.toList.map fun (i, x) => (i, evalO tm x))[j]? = some p → (parts.toList.map fun (i, x) => (i, a.eval x))[j]? = some q → p.1 = q.1 ∧ Rel env ρ p.2 q.2 := by
          intro j p q hp1 hq1
          simp only [List.getElem?_map, Option.map_eq_some_iff] at hp1 hq1
          obtain ⟨u, hu, rfl⟩ := hp1
          obtain ⟨u', hu', rfl⟩ := hq1
          rw [hu] at hu'; injection hu' with hu'; subst hu'
          exact ⟨rfl, evalO_rel ht _⟩
        obtain ⟨cs0, e0, e1, _⟩ := fillS_spec (pl := pl) (pl' := pl) hr1 (fun _ _ h => h) _ (parts.toList.map fun (i, x) => (i, a.eval x)) z l zv.cells.toList (by simp) hparts hl hz2
        refine ⟨cs0, fun pl' hpl' => ?_, e1⟩
        obtain ⟨cs1, f0, f1, _⟩ := fillS_spec (pl := pl) (pl' := pl') hr1 hpl' _ (parts.toList.map fun (i, x) => (i, a.eval x)) z l zv.cells.toList (by simp) hparts hl hz2
        have : cs1 = cs0 := by rw [← f1.1 [] [], ← e1.1 [] []]
        subst this
        simpa using f0
      obtain ⟨cs, h2, h3⟩ := hfill
      refine ⟨_, .inr (agg_den h3), fun w _ => ?_⟩
      have := placeT_spec hpl hz1 h2 w
      simp [execOp, ho, this]
    · cases h
  · rename_i t x ho
    obtain ⟨c, ad, h2, h3, h4⟩ := loadS_sound h (evalO_rel ht x) hr h1 hns
    exact ⟨c, h2, fun w hw => by simp [execOp, ho, Instr.loadAt, h3, Instr.sureAddr, h4 w hw]⟩
  · rename_i x ho
    have hx := evalO_rel ht x
    split at h
    · rename_i n off hvv
      rw [hvv] at hx
      simp only [Option.some.injEq, Prod.mk.injEq] at h
      obtain ⟨rfl, rfl⟩ := h
      exact ⟨_, hx, fun w _ => by simp [execOp, ho, den_ptr (hx.den (by simp))]⟩
    · rename_i n e sz off hvv
      rw [hvv] at hx
      have hc := (hx.den (by simp)).now.symm
      simp only [SV.den] at hc
      simp only [Option.some.injEq, Prod.mk.injEq] at h
      obtain ⟨rfl, rfl⟩ := h
      exact ⟨_, hx, fun w _ => by simp [execOp, ho, hc]⟩
    · rename_i fn p q hvv
      rw [hvv] at hx
      obtain ⟨cs, ds, e, _, _⟩ := den_func (hx.den (by simp))
      split at h
      · cases h
      · rename_i hm
        simp only [Option.some.injEq, Prod.mk.injEq] at h
        obtain ⟨rfl, rfl⟩ := h
        refine ⟨_, hx, fun w _ => ?_⟩
        cases fn <;> simp_all [execOp, isMethod]
    · rename_i n hvv
      rw [hvv] at hx
      simp only [Option.some.injEq, Prod.mk.injEq] at h
      obtain ⟨rfl, rfl⟩ := h
      have hc := (hx.den (by simp)).now.symm
      simp only [SV.den] at hc
      exact ⟨_, hx, fun w _ => by simp [execOp, ho, hc]⟩
    · rename_i n hvv
      rw [hvv] at hx
      split at h
      · rename_i i hn
        simp only [Option.some.injEq, Prod.mk.injEq] at h
        obtain ⟨rfl, rfl⟩ := h
        obtain ⟨b, hb, hb1, hb2⟩ := isnil_spec hr1 hn
        have hnb := hns _ (List.mem_singleton.2 rfl)
        simp only [Bx.den] at hnb
        have : b = false := by have := hb.now; simp only [Bx.den] at this; rw [this] at hnb; simpa using hnb
        obtain ⟨ad, ha⟩ := hb2 this
        have hc := den_hnd (hx.den (by simp))
        exact ⟨_, hx, fun w _ => by simp [execOp, ho, hc, ha]⟩
      · cases h
    · cases h
  · rename_i op t x y yt ho
    obtain ⟨c, h2, h3⟩ := binS_sound hr1 h (evalO_rel ht x) (evalO_rel ht y) hns x y
    refine ⟨c, h2, fun w _ => ?_⟩
    have := h3 w
    unfold execOp
    simp only [ho]
    rw [Sem.run_bind, this]
    rfl
  · rename_i op t x ho
    simp only [Option.map_eq_some_iff, Prod.mk.injEq] at h
    obtain ⟨u, hu, rfl, rfl⟩ := h
    obtain ⟨c, h2, h3⟩ := unS_sound (P := P) hu (evalO_rel ht x)
    exact ⟨c, h2, fun w _ => by simp [execOp, ho, h3 w]⟩
  · rename_i src dst x ho
    split at h
    · rename_i d k k0 e hs hd hvv
      have hx := evalO_rel ht x
      rw [hvv] at hx
      obtain ⟨e1, e2⟩ := den_int (hx.den (by simp))
      simp only [Option.some.injEq, Prod.mk.injEq] at h
      obtain ⟨rfl, rfl⟩ := h
      refine ⟨.int k (k.wrap (e.den env)), .inr (int_den fun xs => by rw [den_mkConv, e2 xs]), fun w _ => ?_⟩
      simp [execOp, ho, convert, e1, run_underlying hs, run_underlying hd, Conv.intToInt]
    · cases h
  · rename_i fn p q ho
    split at h
    · rename_i hs
      simp only [Bool.and_eq_true] at hs
      simp only [Option.some.injEq, Prod.mk.injEq] at h
      obtain ⟨rfl, rfl⟩ := h
      refine ⟨_, .inr (func_den (evalO_list ht _ hs.1) (evalO_list ht _ hs.2)), fun w _ => ?_⟩
      simp only [execOp, ho, Instr.makeFunc, Sem.run_bind, Sem.run_pure, Result.andThen_ok]
      congr 3 <;> (apply Array.toList_inj.1; simp)
    · cases h
  · rename_i s x f ho
    split at h
    · rename_i fields hu
      split at h
      · rename_i fd hf
        split at h
        · rename_i m hm
          have hsz := fun w => sizeT_run (P := P) hm w
          have hplace : ∀ (ad : Addr) w, (fieldPlace ad fd).run P w = .ok (ad.add fd.offset) w := fun ad w => by simp [fieldPlace, hsz w]
          have hx := evalO_rel ht x
          split at h
          · rename_i n off hvv
            rw [hvv] at hx
            have hc := den_ptr (hx.den (by simp))
            simp only [Option.some.injEq, Prod.mk.injEq] at h
            obtain ⟨rfl, rfl⟩ := h
            refine ⟨.pointer (some ((addrOf (hv ρ n)).add (off + fd.offset))), .inr ⟨fun xs ys => ?_, trivial⟩, fun w _ => ?_⟩
            · have := (hx.den (by simp)).1 xs ys
              rw [hc] at this
              simp only [SV.den] at this ⊢
              injection this with this; injection this with this
              rw [← addr_add_add, this, addr_add_add]
            · simp [execOp, ho, Instr.fieldAt, run_underlying hu, hf, hc, Instr.sureAddr, hplace, addr_add_add]
          · rename_i n e sz off hvv
            rw [hvv] at hx
            have hc := (hx.den (by simp)).now.symm
            simp only [SV.den] at hc
            simp only [Option.some.injEq, Prod.mk.injEq] at h
            obtain ⟨rfl, rfl⟩ := h
            refine ⟨.pointer (some ((addrOf (hv ρ n)).add ((e.den env).toNat * sz + (off + fd.offset)))), .inr ⟨fun xs ys => ?_, (hx.den (by simp)).2⟩, fun w _ => ?_⟩
            · have := (hx.den (by simp)).1 xs ys
              rw [hc] at this
              simp only [SV.den] at this ⊢
              injection this with this; injection this with this
              rw [← Nat.add_assoc, ← addr_add_add, this, addr_add_add, Nat.add_assoc]
            · simp [execOp, ho, Instr.fieldAt, run_underlying hu, hf, hc, Instr.sureAddr, hplace, addr_add_add, Nat.add_assoc]
          · cases h
        · cases h
      · cases h
    · cases h
  · rename_i t x f ho
    split at h
    · rename_i fields l hu hvv
      split at h
      · rename_i fd hf
        simp only [Option.map_eq_some_iff, Prod.mk.injEq] at h
        obtain ⟨u, hu', rfl, rfl⟩ := h
        have hx := evalO_rel ht x
        rw [hvv] at hx
        obtain ⟨cs, e, hd⟩ := den_agg (hx.den (by simp))
        obtain ⟨c, h2, h3⟩ := partS_sound hu' hd
        exact ⟨c, h2, fun w _ => by simp [execOp, ho, Instr.field, run_underlying hu, hf, e, asAgg, h3 w]⟩
      · cases h
    · cases h
  · rename_i t x i ho
    obtain ⟨c, h2, h3⟩ := indexAddrS_sound hr1 h (evalO_rel ht x) (evalO_rel ht i) hns
    exact ⟨c, h2, fun w _ => by simp [execOp, ho, h3 w]⟩
  · rename_i t x i ho
    split at h
    · rename_i len elem l k j hu hvv hi
      split at h
      · rename_i s hs
        split at h
        · rename_i hj
          simp only [Option.map_eq_some_iff, Prod.mk.injEq] at h
          obtain ⟨u, hu', rfl, rfl⟩ := h
          have hx := evalO_rel ht x
          rw [hvv] at hx
          obtain ⟨cs, e, hd⟩ := den_agg (hx.den (by simp))
          have hxi := evalO_rel ht i
          rw [hi] at hxi
          obtain ⟨ei, _⟩ := den_int (hxi.den (by simp))
          simp only [Ex.den] at ei
          obtain ⟨c, h2, h3⟩ := partS_sound hu' hd
          exact ⟨c, h2, fun w _ => by simp [execOp, ho, Instr.index, run_underlying hu, e, ei, asIntOf, hj, sizeT_run hs, h3 w]⟩
        · cases h
      · cases h
    · cases h
  · rename_i x i ho
    split at h
    · rename_i l hvv
      simp only [Option.map_eq_some_iff, Prod.mk.injEq] at h
      obtain ⟨u, hu, rfl, rfl⟩ := h
      have hx := evalO_rel ht x
      rw [hvv] at hx
      obtain ⟨cs, e, hd⟩ := den_tuple (hx.den (by simp))
      obtain ⟨c, hc, hdc⟩ := hd.get hu
      exact ⟨c, .inr hdc, fun w _ => by simp [execOp, ho, Instr.extract, e, hc]⟩
    · cases h
  · rename_i t x hi ho
    have hx := evalO_rel ht x
    have hadd : ∀ a : Addr, a.add 0 = a := fun a => by simp [Addr.add]
    split at h
    · rename_i N elem hu
      split at h
      · rename_i sz n hsz hvv
        rw [hvv] at hx
        have hc := den_ptr (hx.den (by simp))
        simp only [Option.map_eq_some_iff, Prod.mk.injEq] at h
        obtain ⟨ns', hbs, rfl, rfl⟩ := h
        have hst := (hx.den (by simp)).1
        have hbase := (hr w1 h1).base hbs hns
        have hnl : n < ρ.length := by
          unfold baseS at hbs
          split at hbs
          · rename_i hn; exact reads_lt (hr w1 h1) hn
          · rename_i hn; exact reads_lt (hr w1 h1) hn
          · cases hbs
        refine ⟨.slice (some (addrOf (hv ρ n))) N N, .inr ⟨fun xs ys => ?_, fun _ => rfl, fun _ => rfl⟩, fun w _ => ?_⟩
        · simp [SV.den, hv_app hnl, hbase, Ex.den]
        · simp [execOp, ho, Instr.sliceAt, run_underlying hu, hc, Instr.sureAddr, Instr.sliceBounds, hadd, sizeT_run hsz]
      · rename_i sz n hi' hsz hvv
        rw [hvv] at hx
        have hc := den_ptr (hx.den (by simp))
        have hst := (hx.den (by simp)).1
        split at h
        · rename_i k e hhi
          have hxi := evalO_rel ht hi'
          rw [hhi] at hxi
          obtain ⟨ei, e1⟩ := den_int (hxi.den (by simp))
          simp only [Option.map_eq_some_iff, Prod.mk.injEq] at h
          obtain ⟨ns', hbs, rfl, rfl⟩ := h
          have b1 := leE_spec (env := env) (fun c hc => hns c (by simp only [List.mem_append]; exact .inl (.inl hc)))
          have b2 := leE_spec (env := env) (fun c hc => hns c (by simp only [List.mem_append]; exact .inl (.inr hc)))
          simp only [Ex.den] at b1 b2
          have hbase := (hr w1 h1).base hbs (fun c hc => hns c (by simp only [List.mem_append]; exact .inr hc))
          have hnl : n < ρ.length := by
            unfold baseS at hbs
            split at hbs
            · rename_i hn; exact reads_lt (hr w1 h1) hn
            · rename_i hn; exact reads_lt (hr w1 h1) hn
            · cases hbs
          refine ⟨.slice (some (addrOf (hv ρ n))) (e.den env).toNat N, .inr ⟨fun xs ys => ?_, e1.stab, fun _ => rfl⟩, fun w _ => ?_⟩
          · simp [SV.den, hv_app hnl, hbase, Ex.den, e1 xs]
          · have hj' := And.intro b1 b2
            simp [execOp, ho, Instr.sliceAt, run_underlying hu, hc, Instr.sureAddr, Instr.sliceBounds, Instr.sliceBound, asIntOf, ei, hadd, hj', sizeT_run hsz]
        · cases h
      · cases h
    · rename_i elem hu
      split at h
      · rename_i sz n l cap hi' hsz hvv
        rw [hvv] at hx
        obtain ⟨hc, hst1, hst2⟩ := den_slice (hx.den (by simp))
        have hst := (hx.den (by simp)).1
        split at h
        · rename_i k e hhi
          have hxi := evalO_rel ht hi'
          rw [hhi] at hxi
          obtain ⟨ei, e1⟩ := den_int (hxi.den (by simp))
          simp only [Option.some.injEq, Prod.mk.injEq] at h
          obtain ⟨rfl, rfl⟩ := h
          have b1 := leE_spec (env := env) (fun c hc => hns c (by simp only [List.mem_append]; exact .inl hc))
          have b2 := leE_spec (env := env) (fun c hc => hns c (by simp only [List.mem_append]; exact .inr hc))
          simp only [Ex.den] at b1
          refine ⟨.slice (baseOf (hv ρ n)) (e.den env).toNat (cap.den env).toNat, .inr ⟨fun xs ys => ?_, e1.stab, hst2⟩, fun w _ => ?_⟩
          · have := hst xs ys
            rw [hc] at this
            simp only [SV.den] at this
            injection this with this
            simp [SV.den, this, e1 xs, hst2 xs]
          · have hj' := And.intro b1 (show e.den env ≤ max (cap.den env) 0 by omega)
            have hmap : ∀ a : Addr, (some a).map (fun x => x.add 0) = some a := fun a => by simp [hadd]
            simp [execOp, ho, Instr.sliceAt, run_underlying hu, hc, Instr.slice, Instr.sliceBounds, Instr.sliceBound, asIntOf, ei, hadd, hj', sizeT_run hsz]
        · cases h
      · cases h
    · cases h
  · rename_i args argTypes ho
    split at h
    · rename_i n len cap t ts hl hts
      split at h
      · rename_i elem hu
        simp only [Option.some.injEq, Prod.mk.injEq] at h
        obtain ⟨rfl, rfl⟩ := h
        obtain ⟨x, hx⟩ : ∃ x, args.toList = [x] := by
          have := congrArg List.length hl
          simp only [List.length_map, List.length_cons, List.length_nil] at this
          exact List.length_eq_one_iff.1 this
        rw [hx] at hl
        simp only [List.map_cons, List.map_nil, List.cons.injEq, and_true] at hl
        have hxr := evalO_rel ht x
        rw [hl] at hxr
        obtain ⟨hc, hs1, hs2⟩ := den_slice (hxr.den (by simp))
        have b1 := leE_spec hns
        simp only [Ex.den] at b1
        have hargs : args.map a.eval = #[a.eval x] := by apply Array.toList_inj.1; simp [hx]
        have htt : argTypes[0]? = some t := by rw [← Array.getElem?_toList, hts]; rfl
        refine ⟨.int .i64 (len.den env), .inr (int_den hs1.denE), fun w _ => ?_⟩
        simp only [execOp, ho, resolve, Sem.run_bind, Sem.run_pure, Result.andThen_ok, invoke, builtin, hargs, Builtin.len_, htt]
        simp [run_underlying hu, hc, goInt]
        omega
      · cases h
    · rename_i t ts hl hts
      split at h
      · rename_i elem hu
        simp only [Option.some.injEq, Prod.mk.injEq] at h
        obtain ⟨rfl, rfl⟩ := h
        obtain ⟨x, hx⟩ : ∃ x, args.toList = [x] := by
          have := congrArg List.length hl
          simp only [List.length_map, List.length_cons, List.length_nil] at this
          exact List.length_eq_one_iff.1 this
        rw [hx] at hl
        simp only [List.map_cons, List.map_nil, List.cons.injEq, and_true] at hl
        have hxr := evalO_rel ht x
        rw [hl] at hxr
        have hc := (hxr.den (by simp)).now.symm
        simp only [SV.den] at hc
        have hargs : args.map a.eval = #[a.eval x] := by apply Array.toList_inj.1; simp [hx]
        have htt : argTypes[0]? = some t := by rw [← Array.getElem?_toList, hts]; rfl
        refine ⟨.int .i64 0, .inr (int_den (denE_lit 0)), fun w _ => ?_⟩
        simp only [execOp, ho, resolve, Sem.run_bind, Sem.run_pure, Result.andThen_ok, invoke, builtin, hargs, Builtin.len_, htt]
        simp [run_underlying hu, hc, goInt]
      · cases h
    · cases h
  · cases h
end
end Go.Proofs.Ytjohihkbampbgaa
