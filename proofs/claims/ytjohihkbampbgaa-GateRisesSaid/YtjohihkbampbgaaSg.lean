/- The symbolic executor: whatever operation changes nothing: it yields what its value denotes. No program is named here. -/
import Derived.Test.YtjohihkbampbgaaSf
namespace Go.Proofs.Ytjohihkbampbgaa
set_option linter.unusedVariables false
set_option linter.unusedSimpArgs false
set_option linter.unusedSectionVars false
open Go

section
variable {U : Type} [Nil U] {env : List (EV U)} {ρ : List Value} {P : Program} {hp : List HE} {W : World → Prop} {w1 : World}

theorem denB_lit (b : Bool) : DenB env (.lit b) b := fun _ => rfl
theorem denB_cmp {a b : Ex} {x y : Int} (op : BinOp) (ha : DenE env a x) (hb : DenE env b y) : DenB env (mkCmp op a b) (cmpDen op x y) := fun xs => by rw [den_mkCmp, ha xs, hb xs]
theorem denB_not {a : Bx} {x : Bool} (ha : DenB env a x) : DenB env (mkNot a) (!x) := fun xs => by rw [den_mkNot, ha xs]
theorem denB_and {a b : Bx} {x y : Bool} (ha : DenB env a x) (hb : DenB env b y) : DenB env (mkAnd a b) (x && y) := fun xs => by rw [den_mkAnd, ha xs, hb xs]
theorem denB_beq {a b : Bx} {x y : Bool} (ha : DenB env a x) (hb : DenB env b y) : DenB env (mkBeq a b) (x == y) := fun xs => by rw [den_mkBeq, ha xs, hb xs]
theorem denE_bin {a b : Ex} {x y : Int} (op : BinOp) (k : IntKind) (ha : DenE env a x) (hb : DenE env b y) : DenE env (mkBin op k a b) (binDen op k x y) := fun xs => by rw [den_mkBin, ha xs, hb xs]

theorem isnil_spec (hr : Reads env ρ hp w1) {n i : Nat} (hn : hp[n]? = some (.abs i)) : ∃ b, DenB env (.isnil i) b ∧ (b = true → hv ρ n = .pointer none) ∧ (b = false → ∃ a, hv ρ n = .pointer (some a)) := by
  obtain ⟨_, s, hs, h1, h2⟩ := hr n _ hn
  refine ⟨Nil.isNil s, fun xs => ?_, h1, h2⟩
  have hlt : i < env.length := (List.getElem?_eq_some_iff.1 hs).1
  simp [Bx.den, gNil, List.getElem?_append_left hlt, hs]

theorem eqlAtom_sound (hr : Reads env ρ hp w1) {x y : SV} {b : Bx} {cx cy : Value} {t : TypeId} (h : eqlAtom hp x y = some b) (hx : Rel env ρ x cx) (hy : Rel env ρ y cy)
    (kx : kindOk P t x = true) (ky : kindOk P t y = true) : ∃ r, DenB env b r ∧ ∀ w d, (Op.equalIn (d + 1) t cx cy).run P w = .ok r w := by
  unfold eqlAtom at h
  split at h
  · -- int
    rename_i k a k' b'
    split at h
    · rename_i hk
      subst hk
      injection h with h
      subst h
      obtain ⟨rfl, e1⟩ := den_int (hx.den (by simp))
      obtain ⟨rfl, e2⟩ := den_int (hy.den (by simp))
      cases hu : P.underlying t with
      | none => simp [kindOk, hu] at kx
      | some d =>
        cases d <;> simp [kindOk, hu] at kx
        exact ⟨_, denB_cmp .eql e1 e2, fun w d => run_equalIn_int w d t k _ _ _ hu⟩
    · cases h
  · rename_i a b'
    injection h with h
    subst h
    obtain ⟨rfl, e1⟩ := den_bool (hx.den (by simp))
    obtain ⟨rfl, e2⟩ := den_bool (hy.den (by simp))
    cases hu : P.underlying t with
    | none => simp [kindOk, hu] at kx
    | some d =>
      cases d <;> simp [kindOk, hu] at kx
      exact ⟨_, denB_beq e1 e2, fun w d => run_equalIn_bool w d t _ _ hu⟩
  all_goals
    (cases hu : P.underlying t with
     | none => simp [kindOk, hu] at kx
     | some d =>
       cases d <;> simp [kindOk, hu] at kx
       all_goals first
         | (injection h with h
            subst h
            have e1 := (hx.den (by simp)).now
            have e2 := (hy.den (by simp)).now
            simp only [SV.den] at e1 e2
            subst e1
            subst e2
            exact ⟨_, denB_lit _, fun w d => by simp [Op.equalIn, run_underlying hu]⟩)
         | (split at h
            · rename_i vs ty hn
              injection h with h
              subst h
              have e1 := (hx.den (by simp)).now
              have e2 := (hy.den (by simp)).now
              simp only [SV.den] at e1 e2
              subst e1
              subst e2
              rw [hr.baseC hn]
              exact ⟨_, denB_lit _, fun w d => by simp [Op.equalIn, run_underlying hu]⟩
            · cases h)
         | (split at h
            · rename_i i hn
              injection h with h
              subst h
              have e1 := (hx.den (by simp)).now
              have e2 := (hy.den (by simp)).now
              simp only [SV.den] at e1 e2
              subst e1
              subst e2
              obtain ⟨b, hb, hb1, hb2⟩ := isnil_spec hr hn
              refine ⟨b, hb, fun w d => ?_⟩
              cases b
              · obtain ⟨a, ha⟩ := hb2 rfl; rw [ha]; simp [Op.equalIn, run_underlying hu]
              · rw [hb1 rfl]; simp [Op.equalIn, run_underlying hu]
            · cases h)
         | cases h)

theorem part_plain {t : TypeId} (h : plainT P t = true) {cs : List Value} {off : Nat} {v : Value} (hv : cs[off]? = some v) (w : World) : (part t cs.toArray off).run P w = .ok v w := by
  simp [part, plainT_false h, hv]
theorem partS_sound {t : TypeId} {l : List SV} {off : Nat} {v : SV} {cs : List Value} (h : partS P t l off = some v) (hd : DenL env ρ l cs) :
    ∃ c, Rel env ρ v c ∧ ∀ w, (part t cs.toArray off).run P w = .ok c w := by
  unfold partS at h
  split at h
  · rename_i hagg
    split at h
    · rename_i k hk
      split at h
      · rename_i hle
        injection h with h
        subst h
        refine ⟨_, .inr (agg_den ((hd.drop off).take k)), fun w => ?_⟩
        simp [part, isAggT_true hagg, sizeT_run hk, List.extract]
      · cases h
    · cases h
  · split at h
    · rename_i hpl
      obtain ⟨c, hc, hdc⟩ := hd.get h
      exact ⟨c, .inr hdc, fun w => part_plain hpl hc w⟩
    · cases h

theorem eqlFields_sound (hr : Reads env ρ hp w1) {xs ys : List SV} {cs ds : List Value} (hx : DenL env ρ xs cs) (hy : DenL env ρ ys ds) : ∀ (fs : List Field) (b : Bx), eqlFields P hp xs ys fs = some b →
    ∃ r, DenB env b r ∧ ∀ w d, (Op.eqFields (d + 1) cs.toArray ds.toArray fs).run P w = .ok r w
  | [], b, h => by
    simp only [eqlFields, Option.some.injEq] at h
    subst h
    exact ⟨true, denB_lit true, fun w d => by simp [Op.eqFields]⟩
  | f :: fs, b, h => by
    simp only [eqlFields] at h
    split at h
    · cases h
    · rename_i hcond
      simp only [Bool.or_eq_true, beq_iff_eq, Bool.not_eq_true', not_or, Bool.not_eq_false] at hcond
      obtain ⟨hname, hpl⟩ := hcond
      split at h
      · rename_i x y hxf hyf
        split at h
        · rename_i hk
          simp only [Bool.and_eq_true] at hk
          split at h
          · rename_i b1 b2 h1 h2
            injection h with h
            subst h
            obtain ⟨cx, hcx, hdx⟩ := hx.get hxf
            obtain ⟨cy, hcy, hdy⟩ := hy.get hyf
            obtain ⟨r1, e1, e1'⟩ := eqlAtom_sound hr h1 (.inr hdx) (.inr hdy) hk.1 hk.2
            obtain ⟨r2, e2, e2'⟩ := eqlFields_sound hr hx hy fs b2 h2
            refine ⟨r1 && r2, denB_and e1 e2, fun w d => ?_⟩
            simp only [Op.eqFields, ne_eq, hname, not_false_eq_true, if_true, Sem.run_bind, part_plain hpl hcx, part_plain hpl hcy, Result.andThen_ok, e1' w d]
            cases r1
            · simp
            · simp [e2' w d]
          · cases h
        · cases h
      · cases h

theorem fieldsOf_eq {t : TypeId} {fs : Array Field} (h : P.underlying t = some (.struct fs)) : P.fieldsOf t = fs := by simp [Program.fieldsOf, h]

theorem eqlS_sound (hr : Reads env ρ hp w1) {x y : SV} {b : Bx} {cx cy : Value} {t : TypeId} (h : eqlS P hp t x y = some b) (hx : Rel env ρ x cx) (hy : Rel env ρ y cy) (xo yo : Operand) :
    ∃ r, DenB env b r ∧ (∀ w, (do eqGuard .eql t xo yo cx cy; binOp .eql t cx cy : Sem Value).run P w = .ok (.bool r) w) ∧ (∀ w, (do eqGuard .neq t xo yo cx cy; binOp .neq t cx cy : Sem Value).run P w = .ok (.bool (!r)) w) := by
  unfold eqlS at h
  split at h
  · rename_i xs ys
    split at h
    · rename_i fs hu
      split at h
      · cases h
      · rename_i hg
        simp only [Bool.or_eq_true, not_or, Bool.not_eq_true] at hg
        obtain ⟨cs, rfl, hd⟩ := den_agg (hx.den (by simp))
        obtain ⟨ds, rfl, hd'⟩ := den_agg (hy.den (by simp))
        obtain ⟨r, hr1, hr2⟩ := eqlFields_sound hr hd hd' fs.toList b h
        have hu' : P.underlying t = some (.struct (P.fieldsOf t)) := by rw [fieldsOf_eq hu]; exact hu
        have key : ∀ w, (Op.equal t (.agg cs.toArray) (.agg ds.toArray)).run P w = .ok r w := fun w => by
          have h1 := run_equalIn_struct w 9999 t cs.toArray ds.toArray hu' hg.2
          have h2 := hr2 w 9998
          rw [fieldsOf_eq hu] at h1
          exact h1.trans h2
        refine ⟨r, hr1, fun w => ?_, fun w => ?_⟩ <;> simp [eqGuard, hg.1, binOp, key]
    · cases h
  · rename_i k a k' b'
    simp only [eqlAtom] at h
    split at h
    · rename_i hk
      subst hk
      injection h with h
      subst h
      obtain ⟨rfl, e1⟩ := den_int (hx.den (by simp))
      obtain ⟨rfl, e2⟩ := den_int (hy.den (by simp))
      refine ⟨_, denB_cmp .eql e1 e2, fun w => ?_, fun w => ?_⟩ <;> simp [eqGuard, binOp, Op.intCmp, cmpDen, bne]
    · cases h
  · rename_i hna hni
    split at h
    · rename_i hk
      simp only [Bool.and_eq_true] at hk
      obtain ⟨r, e1, e2⟩ := eqlAtom_sound hr h hx hy hk.1 hk.2
      have key : ∀ w, (Op.equal t cx cy).run P w = .ok r w := fun w => e2 w 9999
      refine ⟨r, e1, ?_⟩
      have goal : ∀ (cx cy : Value), (∀ w, (Op.equal t cx cy).run P w = .ok r w) → ((∃ a, cx = .pointer a) ∧ (∃ b, cy = .pointer b) ∨ (∃ a, cx = .bool a) ∧ (∃ b, cy = .bool b) ∨ (∃ a n m, cx = .slice a n m) ∧ (∃ a n m, cy = .slice a n m) ∨
          (cx = .nilFunc ∨ ∃ f p q, cx = .func f p q) ∧ (cy = .nilFunc ∨ ∃ f p q, cy = .func f p q)) →
          (∀ w, (do eqGuard .eql t xo yo cx cy; binOp .eql t cx cy : Sem Value).run P w = .ok (.bool r) w) ∧ (∀ w, (do eqGuard .neq t xo yo cx cy; binOp .neq t cx cy : Sem Value).run P w = .ok (.bool (!r)) w) := by
        intro cx cy key hc
        rcases hc with ⟨⟨a, rfl⟩, b, rfl⟩ | ⟨⟨a, rfl⟩, b, rfl⟩ | ⟨⟨a, n, m, rfl⟩, b, n', m', rfl⟩ | ⟨rfl | ⟨f, p, q, rfl⟩, rfl | ⟨f', p', q', rfl⟩⟩ <;>
          exact ⟨fun w => by simp [eqGuard, binOp, key], fun w => by simp [eqGuard, binOp, key]⟩
      refine goal cx cy key ?_
      have hdn : ∀ {n i : Nat}, hp[n]? = some (.abs i) → ∃ a, hv ρ n = .pointer a := fun hn => by
        obtain ⟨b, _, hb1, hb2⟩ := isnil_spec hr hn
        cases b
        · obtain ⟨a, ha⟩ := hb2 rfl; exact ⟨_, ha⟩
        · exact ⟨_, hb1 rfl⟩
      unfold eqlAtom at h
      split at h
      · exact (hni _ _ _ _ rfl rfl).elim
      · exact .inr (.inl ⟨⟨_, (hx.den (by simp)).now.symm⟩, ⟨_, (hy.den (by simp)).now.symm⟩⟩)
      · exact .inl ⟨⟨_, (hx.den (by simp)).now.symm⟩, ⟨_, (hy.den (by simp)).now.symm⟩⟩
      · exact .inl ⟨⟨_, (hx.den (by simp)).now.symm⟩, ⟨_, (hy.den (by simp)).now.symm⟩⟩
      · exact .inl ⟨⟨_, (hx.den (by simp)).now.symm⟩, ⟨_, (hy.den (by simp)).now.symm⟩⟩
      · exact .inl ⟨⟨_, (hx.den (by simp)).now.symm⟩, ⟨_, (hy.den (by simp)).now.symm⟩⟩
      · exact .inl ⟨⟨_, (hx.den (by simp)).now.symm⟩, ⟨_, (hy.den (by simp)).now.symm⟩⟩
      · split at h
        · rename_i i hn
          obtain ⟨a, ha⟩ := hdn hn
          exact .inl ⟨⟨a, ha ▸ (hx.den (by simp)).now.symm⟩, ⟨_, (hy.den (by simp)).now.symm⟩⟩
        · cases h
      · split at h
        · rename_i i hn
          obtain ⟨a, ha⟩ := hdn hn
          exact .inl ⟨⟨_, (hx.den (by simp)).now.symm⟩, ⟨a, ha ▸ (hy.den (by simp)).now.symm⟩⟩
        · cases h
      · exact .inr (.inr (.inl ⟨⟨_, _, _, (hx.den (by simp)).now.symm⟩, ⟨_, _, _, (hy.den (by simp)).now.symm⟩⟩))
      · exact .inr (.inr (.inl ⟨⟨_, _, _, (hx.den (by simp)).now.symm⟩, ⟨_, _, _, (hy.den (by simp)).now.symm⟩⟩))
      · exact .inr (.inr (.inl ⟨⟨_, _, _, (hx.den (by simp)).now.symm⟩, ⟨_, _, _, (hy.den (by simp)).now.symm⟩⟩))
      · exact .inr (.inr (.inr ⟨.inl (hx.den (by simp)).now.symm, .inl (hy.den (by simp)).now.symm⟩))
      · exact .inr (.inr (.inr ⟨.inl (hx.den (by simp)).now.symm, .inr ⟨_, _, _, (hy.den (by simp)).now.symm⟩⟩))
      · exact .inr (.inr (.inr ⟨.inr ⟨_, _, _, (hx.den (by simp)).now.symm⟩, .inl (hy.den (by simp)).now.symm⟩))
      · cases h
    · cases h
end
end Go.Proofs.Ytjohihkbampbgaa
