/- The symbolic executor: a call by its contract. No program is named here. -/
import Derived.Test.YtjohihkbampbgaaSk
namespace Go.Proofs.Ytjohihkbampbgaa
set_option linter.unusedVariables false
set_option linter.unusedSimpArgs false
set_option linter.unusedSectionVars false
open Go

section
variable {U : Type} [Nil U]

theorem app_get {env : List (EV U)} {i : Nat} (h : i < env.length) (xs : List (EV U)) : (env ++ xs)[i]? = env[i]? := List.getElem?_append_left h
theorem Ex.scoped_den {n : Nat} : ∀ {e : Ex}, e.inScope n = true → ∀ {env : List (EV U)} (xs : List (EV U)), n ≤ env.length → e.den (env ++ xs) = e.den env := by
  intro e
  induction e with
  | lit _ => intro _ env xs _; rfl
  | var i => intro h env xs hl; simp [Ex.inScope] at h; simp only [Ex.den, gI, app_get (show i < env.length by omega)]
  | bin op k a b ih1 ih2 => intro h env xs hl; simp [Ex.inScope] at h; simp only [Ex.den, ih1 h.1 xs hl, ih2 h.2 xs hl]
  | conv k a ih => intro h env xs hl; simp only [Ex.inScope] at h; simp only [Ex.den, ih h xs hl]
  | len i => intro h env xs hl; simp [Ex.inScope] at h; simp only [Ex.den, gL, app_get (show i < env.length by omega)]
  | nth i e ih => intro h env xs hl; simp [Ex.inScope] at h; simp only [Ex.den, gL, app_get (show i < env.length by omega), ih h.2 xs hl]
  | fld i e c ih => intro h env xs hl; simp [Ex.inScope] at h; simp only [Ex.den, gF, app_get (show i < env.length by omega), ih h.2 xs hl]
  | nrow i => intro h env xs hl; simp [Ex.inScope] at h; simp only [Ex.den, gN, app_get (show i < env.length by omega)]
theorem Bx.scoped_den {n : Nat} : ∀ {e : Bx}, e.inScope n = true → ∀ {env : List (EV U)} (xs : List (EV U)), n ≤ env.length → e.den (env ++ xs) = e.den env := by
  intro e
  induction e with
  | lit _ => intro _ env xs _; rfl
  | var i => intro h env xs hl; simp [Bx.inScope] at h; simp only [Bx.den, gB, app_get (show i < env.length by omega)]
  | cmp op a b => intro h env xs hl; simp [Bx.inScope] at h; simp only [Bx.den, Ex.scoped_den h.1 xs hl, Ex.scoped_den h.2 xs hl]
  | beq a b ih1 ih2 => intro h env xs hl; simp [Bx.inScope] at h; simp only [Bx.den, ih1 h.1 xs hl, ih2 h.2 xs hl]
  | not a ih => intro h env xs hl; simp only [Bx.inScope] at h; simp only [Bx.den, ih h xs hl]
  | and a b ih1 ih2 => intro h env xs hl; simp [Bx.inScope] at h; simp only [Bx.den, ih1 h.1 xs hl, ih2 h.2 xs hl]
  | isnil i => intro h env xs hl; simp [Bx.inScope] at h; simp only [Bx.den, gNil, app_get (show i < env.length by omega)]
  | fld i e c => intro h env xs hl; simp [Bx.inScope] at h; simp only [Bx.den, gF, app_get (show i < env.length by omega), Ex.scoped_den h.2 xs hl]
theorem Bnd.scoped_den {n : Nat} {b : Bnd} (h : b.inScope n = true) {env : List (EV U)} (xs : List (EV U)) (hl : n ≤ env.length) : b.den (env ++ xs) = b.den env := by
  cases b with
  | ex e => simp only [Bnd.den, Ex.scoped_den h xs hl]
  | bx e => simp only [Bnd.den, Bx.scoped_den h xs hl]
  | var i => simp [Bnd.inScope] at h; simp [Bnd.den, List.getD, app_get (show i < env.length by omega)]
theorem bnds_den {n : Nat} {β : List Bnd} (h : β.all (Bnd.inScope n) = true) {env : List (EV U)} (xs : List (EV U)) (hl : n ≤ env.length) : β.map (Bnd.den (env ++ xs)) = β.map (Bnd.den env) :=
  List.map_congr_left fun b hb => Bnd.scoped_den (List.all_eq_true.1 h b hb) xs hl

/-- what a substitution takes has no other numbers -/
theorem Ex.subst_scoped {β : List Bnd} : ∀ {e e' : Ex}, e.subst β = some e' → e.inScope β.length = true := by
  intro e
  induction e with
  | lit _ => intro _ _; rfl
  | var i => intro e' h; simp only [Ex.subst] at h; split at h <;> simp at h <;> (rename_i hb; simp [Ex.inScope, (List.getElem?_eq_some_iff.1 hb).1])
  | bin op k a b ih1 ih2 => intro e' h; simp only [Ex.subst, Option.bind_eq_some_iff, Option.map_eq_some_iff] at h; obtain ⟨x, hx, y, hy, _⟩ := h; simp [Ex.inScope, ih1 hx, ih2 hy]
  | conv k a ih => intro e' h; simp only [Ex.subst, Option.map_eq_some_iff] at h; obtain ⟨x, hx, _⟩ := h; simp [Ex.inScope, ih hx]
  | len i => intro e' h; simp only [Ex.subst] at h; split at h <;> simp at h; rename_i hb; simp [Ex.inScope, (List.getElem?_eq_some_iff.1 hb).1]
  | nth i e ih => intro e' h; simp only [Ex.subst] at h; split at h <;> simp at h; rename_i hb; obtain ⟨x, hx, _⟩ := h; simp [Ex.inScope, (List.getElem?_eq_some_iff.1 hb).1, ih hx]
  | fld i e c ih => intro e' h; simp only [Ex.subst] at h; split at h <;> simp at h; rename_i hb; obtain ⟨x, hx, _⟩ := h; simp [Ex.inScope, (List.getElem?_eq_some_iff.1 hb).1, ih hx]
  | nrow i => intro e' h; simp only [Ex.subst] at h; split at h <;> simp at h; rename_i hb; simp [Ex.inScope, (List.getElem?_eq_some_iff.1 hb).1]
theorem Bx.subst_scoped {β : List Bnd} : ∀ {e e' : Bx}, e.subst β = some e' → e.inScope β.length = true := by
  intro e
  induction e with
  | lit _ => intro _ _; rfl
  | var i => intro e' h; simp only [Bx.subst] at h; split at h <;> simp at h <;> (rename_i hb; simp [Bx.inScope, (List.getElem?_eq_some_iff.1 hb).1])
  | cmp op a b => intro e' h; simp only [Bx.subst, Option.bind_eq_some_iff, Option.map_eq_some_iff] at h; obtain ⟨x, hx, y, hy, _⟩ := h; simp [Bx.inScope, Ex.subst_scoped hx, Ex.subst_scoped hy]
  | beq a b ih1 ih2 => intro e' h; simp only [Bx.subst, Option.bind_eq_some_iff, Option.map_eq_some_iff] at h; obtain ⟨x, hx, y, hy, _⟩ := h; simp [Bx.inScope, ih1 hx, ih2 hy]
  | not a ih => intro e' h; simp only [Bx.subst, Option.map_eq_some_iff] at h; obtain ⟨x, hx, _⟩ := h; simp [Bx.inScope, ih hx]
  | and a b ih1 ih2 => intro e' h; simp only [Bx.subst, Option.bind_eq_some_iff, Option.map_eq_some_iff] at h; obtain ⟨x, hx, y, hy, _⟩ := h; simp [Bx.inScope, ih1 hx, ih2 hy]
  | isnil i => intro e' h; simp only [Bx.subst] at h; split at h <;> simp at h; rename_i hb; simp [Bx.inScope, (List.getElem?_eq_some_iff.1 hb).1]
  | fld i e c => intro e' h; simp only [Bx.subst] at h; split at h <;> simp at h; rename_i hb; obtain ⟨x, hx, _⟩ := h; simp [Bx.inScope, (List.getElem?_eq_some_iff.1 hb).1, Ex.subst_scoped hx]

theorem hv_lt {σ : List Nat} {n m : Nat} (h : σ[n]? = some m) (ρ : List Value) (hl : σ.length ≤ ρ.length) (ys : List Value) : hv (ρ ++ ys) n = hv ρ n :=
  hv_app (by have := (List.getElem?_eq_some_iff.1 h).1; omega) ys
-- a form that a substitution takes is closed
mutual
theorem SV.subst_closed {β : List Bnd} {σ : List Nat} {env : List (EV U)} {ρ : List Value} (hb : β.length ≤ env.length) (hs : σ.length ≤ ρ.length) :
    ∀ {v v' : SV}, v.subst β σ = some v' → (∀ xs ys, v.den (env ++ xs) (ρ ++ ys) = v.den env ρ) ∧ v.stab env
  | .int k e, v', h => by
    simp only [SV.subst, Option.map_eq_some_iff] at h
    obtain ⟨x, hx, _⟩ := h
    exact ⟨fun xs ys => by simp only [SV.den, Ex.scoped_den (Ex.subst_scoped hx) xs hb], trivial⟩
  | .bool b, v', h => by
    simp only [SV.subst, Option.map_eq_some_iff] at h
    obtain ⟨x, hx, _⟩ := h
    exact ⟨fun xs ys => by simp only [SV.den, Bx.scoped_den (Bx.subst_scoped hx) xs hb], trivial⟩
  | .nilp, v', h => ⟨fun _ _ => rfl, trivial⟩
  | .ptr n off, v', h => by
    simp only [SV.subst, Option.map_eq_some_iff] at h
    obtain ⟨x, hx, _⟩ := h
    exact ⟨fun xs ys => by simp only [SV.den, hv_lt hx ρ hs], trivial⟩
  | .ptrx n e sz off, v', h => by
    simp only [SV.subst, Option.bind_eq_some_iff, Option.map_eq_some_iff] at h
    obtain ⟨x, hx, y, hy, _⟩ := h
    exact ⟨fun xs ys => by simp only [SV.den, hv_lt hx ρ hs, Ex.scoped_den (Ex.subst_scoped hy) xs hb], fun xs => Ex.scoped_den (Ex.subst_scoped hy) xs hb⟩
  | .hnd n, v', h => by
    simp only [SV.subst, Option.map_eq_some_iff] at h
    obtain ⟨x, hx, _⟩ := h
    exact ⟨fun xs ys => by simp only [SV.den, hv_lt hx ρ hs], trivial⟩
  | .nils, v', h => ⟨fun _ _ => rfl, trivial⟩
  | .slice n l c, v', h => by
    simp only [SV.subst, Option.bind_eq_some_iff, Option.map_eq_some_iff] at h
    obtain ⟨x, hx, y, hy, z, hz, _⟩ := h
    exact ⟨fun xs ys => by simp only [SV.den, hv_lt hx ρ hs, Ex.scoped_den (Ex.subst_scoped hy) xs hb, Ex.scoped_den (Ex.subst_scoped hz) xs hb], fun xs => Ex.scoped_den (Ex.subst_scoped hy) xs hb, fun xs => Ex.scoped_den (Ex.subst_scoped hz) xs hb⟩
  | .func fn a b, v', h => by
    simp only [SV.subst, Option.bind_eq_some_iff, Option.map_eq_some_iff] at h
    obtain ⟨x, hx, y, hy, _⟩ := h
    have h1 := SV.substL_closed hb hs hx
    have h2 := SV.substL_closed hb hs hy
    exact ⟨fun xs ys => by simp only [SV.den, h1.1 xs ys, h2.1 xs ys], h1.2, h2.2⟩
  | .nilf, v', h => ⟨fun _ _ => rfl, trivial⟩
  | .agg l, v', h => by
    simp only [SV.subst, Option.map_eq_some_iff] at h
    obtain ⟨x, hx, _⟩ := h
    have h1 := SV.substL_closed hb hs hx
    exact ⟨fun xs ys => by simp only [SV.den, h1.1 xs ys], h1.2⟩
  | .tuple l, v', h => by
    simp only [SV.subst, Option.map_eq_some_iff] at h
    obtain ⟨x, hx, _⟩ := h
    have h1 := SV.substL_closed hb hs hx
    exact ⟨fun xs ys => by simp only [SV.den, h1.1 xs ys], h1.2⟩
  | .rowv k i, v', h => by
    simp only [SV.subst] at h
    split at h <;> simp at h
    rename_i hbi
    have : i < env.length := by have := (List.getElem?_eq_some_iff.1 hbi).1; omega
    exact ⟨fun xs ys => by simp only [SV.den, gL, app_get this], trivial⟩
  | .yld n, v', h => by
    simp only [SV.subst, Option.map_eq_some_iff] at h
    obtain ⟨x, hx, _⟩ := h
    exact ⟨fun xs ys => by simp only [SV.den, hv_lt hx ρ hs], trivial⟩
  | .junk, v', h => ⟨fun _ _ => rfl, trivial⟩
theorem SV.substL_closed {β : List Bnd} {σ : List Nat} {env : List (EV U)} {ρ : List Value} (hb : β.length ≤ env.length) (hs : σ.length ≤ ρ.length) :
    ∀ {l l' : List SV}, SV.substL β σ l = some l' → (∀ xs ys, SV.denL (env ++ xs) (ρ ++ ys) l = SV.denL env ρ l) ∧ SV.stabL env l
  | [], l', h => ⟨fun _ _ => rfl, trivial⟩
  | v :: l, l', h => by
    simp only [SV.substL, Option.bind_eq_some_iff, Option.map_eq_some_iff] at h
    obtain ⟨x, hx, y, hy, _⟩ := h
    have h1 := SV.subst_closed hb hs hx
    have h2 := SV.substL_closed hb hs hy
    exact ⟨fun xs ys => by simp only [SV.denL, h1.1 xs ys, h2.1 xs ys], h1.2, h2.2⟩
end
/-- what comes of a substitution by inScope numbers stays -/
theorem EStab.of_subst {β : List Bnd} {n : Nat} (hs : β.all (Bnd.inScope n) = true) {env : List (EV U)} (hl : n ≤ env.length) {e e' : Ex} (h : e.subst β = some e') : EStab env e' :=
  fun xs => by rw [Ex.subst_den _ h, Ex.subst_den _ h, bnds_den hs xs hl]
mutual
theorem SV.stab_of_subst {β : List Bnd} {σ : List Nat} {n : Nat} (hs : β.all (Bnd.inScope n) = true) {env : List (EV U)} (hl : n ≤ env.length) : ∀ {v v' : SV}, v.subst β σ = some v' → v'.stab env
  | .int k e, v', h => by simp only [SV.subst, Option.map_eq_some_iff] at h; obtain ⟨x, hx, rfl⟩ := h; trivial
  | .bool b, v', h => by simp only [SV.subst, Option.map_eq_some_iff] at h; obtain ⟨x, hx, rfl⟩ := h; trivial
  | .nilp, v', h => by simp [SV.subst] at h; subst h; trivial
  | .ptr n off, v', h => by simp only [SV.subst, Option.map_eq_some_iff] at h; obtain ⟨x, hx, rfl⟩ := h; trivial
  | .ptrx n e sz off, v', h => by
    simp only [SV.subst, Option.bind_eq_some_iff, Option.map_eq_some_iff] at h
    obtain ⟨x, hx, y, hy, rfl⟩ := h
    exact EStab.of_subst hs hl hy
  | .hnd n, v', h => by simp only [SV.subst, Option.map_eq_some_iff] at h; obtain ⟨x, hx, rfl⟩ := h; trivial
  | .nils, v', h => by simp [SV.subst] at h; subst h; trivial
  | .slice n l c, v', h => by
    simp only [SV.subst, Option.bind_eq_some_iff, Option.map_eq_some_iff] at h
    obtain ⟨x, hx, y, hy, z, hz, rfl⟩ := h
    exact ⟨EStab.of_subst hs hl hy, EStab.of_subst hs hl hz⟩
  | .func fn a b, v', h => by
    simp only [SV.subst, Option.bind_eq_some_iff, Option.map_eq_some_iff] at h
    obtain ⟨x, hx, y, hy, rfl⟩ := h
    exact ⟨SV.stabL_of_subst hs hl hx, SV.stabL_of_subst hs hl hy⟩
  | .nilf, v', h => by simp [SV.subst] at h; subst h; trivial
  | .agg l, v', h => by simp only [SV.subst, Option.map_eq_some_iff] at h; obtain ⟨x, hx, rfl⟩ := h; exact SV.stabL_of_subst hs hl hx
  | .tuple l, v', h => by simp only [SV.subst, Option.map_eq_some_iff] at h; obtain ⟨x, hx, rfl⟩ := h; exact SV.stabL_of_subst hs hl hx
  | .rowv k i, v', h => by simp only [SV.subst] at h; split at h <;> simp at h; subst h; trivial
  | .yld n, v', h => by simp only [SV.subst, Option.map_eq_some_iff] at h; obtain ⟨x, hx, rfl⟩ := h; trivial
  | .junk, v', h => by simp [SV.subst] at h; subst h; trivial
theorem SV.stabL_of_subst {β : List Bnd} {σ : List Nat} {n : Nat} (hs : β.all (Bnd.inScope n) = true) {env : List (EV U)} (hl : n ≤ env.length) : ∀ {l l' : List SV}, SV.substL β σ l = some l' → SV.stabL env l'
  | [], l', h => by simp [SV.substL] at h; subst h; trivial
  | v :: l, l', h => by
    simp only [SV.substL, Option.bind_eq_some_iff, Option.map_eq_some_iff] at h
    obtain ⟨x, hx, y, hy, rfl⟩ := h
    exact ⟨SV.stab_of_subst hs hl hx, SV.stabL_of_subst hs hl hy⟩
end
theorem names_den {σ : List Nat} {ρ : List Value} (h : σ.all (· < ρ.length) = true) (ys : List Value) : σ.map (hv (ρ ++ ys)) = σ.map (hv ρ) :=
  List.map_congr_left fun n hn => hv_app (by simpa using List.all_eq_true.1 h n hn) ys
theorem subst_Den {β : List Bnd} {σ : List Nat} {env : List (EV U)} {ρ : List Value} (hs : β.all (Bnd.inScope env.length) = true) (hn : σ.all (· < ρ.length) = true) {v v' : SV} (h : v.subst β σ = some v') :
    Den env ρ v' (v.den (β.map (Bnd.den env)) (σ.map (hv ρ))) :=
  ⟨fun xs ys => by rw [SV.subst_den _ _ h, bnds_den hs xs (Nat.le_refl _), names_den hn ys], SV.stab_of_subst hs (Nat.le_refl _) h⟩
theorem subst_DenL {β : List Bnd} {σ : List Nat} {env : List (EV U)} {ρ : List Value} (hs : β.all (Bnd.inScope env.length) = true) (hn : σ.all (· < ρ.length) = true) {l l' : List SV} (h : SV.substL β σ l = some l') :
    DenL env ρ l' (SV.denL (β.map (Bnd.den env)) (σ.map (hv ρ)) l) :=
  ⟨fun xs ys => by rw [← denL_map, SV.substL_den _ _ h, bnds_den hs xs (Nat.le_refl _), names_den hn ys], SV.stabL_of_subst hs (Nat.le_refl _) h⟩

/-- from the caller's to the form: a list -/
theorem form_DenL {β : List Bnd} {σ : List Nat} {env : List (EV U)} {ρ : List Value} {l l' : List SV} {cs : List Value} (h : SV.substL β σ l = some l') (hd : DenL env ρ l' cs) :
    DenL (β.map (Bnd.den env)) (σ.map (hv ρ)) l cs := by
  have h1 := SV.substL_closed (env := β.map (Bnd.den env)) (ρ := σ.map (hv ρ)) (by simp) (by simp) h
  refine ⟨fun xs ys => ?_, h1.2⟩
  have h2 := SV.substL_den env ρ h
  have h3 := hd.1 [] []
  rw [← denL_map, h1.1 xs ys, ← h2, denL_map]
  simpa using h3
theorem bnd_u {env : List (EV U)} {j : Nat} {s : U} (h : (Bnd.var j).den env = .u s) : env[j]? = some (.u s) := by
  simp only [Bnd.den, List.getD] at h
  cases hj : env[j]? with
  | none => simp [hj] at h
  | some x => simp [hj] at h; rw [h]
theorem bnd_l {env : List (EV U)} {j : Nat} {s : List Int} (h : (Bnd.var j).den env = .l s) : env[j]? = some (.l s) := by
  simp only [Bnd.den, List.getD] at h
  cases hj : env[j]? with
  | none => simp [hj] at h
  | some x => simp [hj] at h; rw [h]
theorem bnd_r {env : List (EV U)} {j : Nat} {s : Loop} (h : (Bnd.var j).den env = .r s) : env[j]? = some (.r s) := by
  simp only [Bnd.den, List.getD] at h
  cases hj : env[j]? with
  | none => simp [hj] at h
  | some x => simp [hj] at h; rw [h]
theorem bnd_var {env : List (EV U)} {j : Nat} {x : EV U} (h : env[j]? = some x) : (Bnd.var j).den env = x := by simp [Bnd.den, List.getD, h]

variable {objs : List (ObjT U)} {w0 : World} {F : Nat → Prop} {w : World}
/-- from the caller's blocks to the form's -/
theorem Holds.form {β : List Bnd} {σ : List Nat} {env : List (EV U)} {ρ : List Value} {t h : HE} {v : Value} {S F' : Nat → Prop} (hf : Fr w0 F w) (hF : ∀ x, F' x → F x ∨ w0.heap.size ≤ x) (hs : t.subst β σ = some h)
    (hh : Holds objs w0 F env ρ h v w S) : Holds objs w F' (β.map (Bnd.den env)) (σ.map (hv ρ)) t v w S := by
  cases t with
  | cells vs ty =>
    simp only [HE.subst, Option.map_eq_some_iff] at hs
    obtain ⟨l, hl, rfl⟩ := hs
    obtain ⟨b, cs, e1, e2, e3, e4⟩ := hh
    exact ⟨b, cs, e1, form_DenL hl e2, e3, e4⟩
  | abs i =>
    simp only [HE.subst] at hs
    split at hs <;> simp at hs
    subst hs
    rename_i j hb
    obtain ⟨s, e1, e2⟩ := hh
    exact ⟨s, by rw [bnd_get env hb, bnd_var e1], e2⟩
  | row k ty i =>
    simp only [HE.subst] at hs
    split at hs <;> simp at hs
    subst hs
    rename_i j hb
    rcases hh with ⟨e1, e2⟩ | ⟨b, xs, e1, e2, e3, e4⟩
    · exact .inl ⟨e1, by rw [bnd_get env hb, bnd_var e2]⟩
    · exact .inr ⟨b, xs, e1, by rw [bnd_get env hb, bnd_var e2], e3, e4⟩
  | ro ks i =>
    simp only [HE.subst] at hs
    split at hs <;> simp at hs
    subst hs
    rename_i j hb
    rcases hh with ⟨e1, g, e2⟩ | ⟨a, g, n, e1, e2, e3, e4, e5⟩
    · exact .inl ⟨e1, g, by rw [bnd_get env hb, bnd_var e2]⟩
    refine .inr ⟨a, g, n, e1, by rw [bnd_get env hb, bnd_var e2], Nat.lt_of_lt_of_le e3 hf.size, fun h => ?_, fun j hj c k hk => ?_⟩
    · rcases hF _ h with h | h
      · exact e4 h
      · omega
    · rw [← e5 j hj c k hk]
      have hb : (a.add (j * ks.length + c)).block = a.block := by unfold Addr.add; split <;> rfl
      exact World.cell?_of_block (w := w0) (by rw [hb]; exact hf.block _ e3 e4)
  | sys i j =>
    simp only [HE.subst] at hs
    split at hs <;> simp at hs
    subst hs
    rename_i j' hb
    obtain ⟨b, L, e1, e2, e3⟩ := hh
    exact ⟨b, L, e1, by rw [bnd_get env hb, bnd_var e2], e3⟩
  | gone => trivial
/-- from the form's blocks to the caller's -/
theorem Holds.unform {β : List Bnd} {σ : List Nat} {env : List (EV U)} {ρ : List Value} {t h : HE} {v : Value} {S F' : Nat → Prop} {w1 : World} (hb : β.all (Bnd.inScope env.length) = true) (hn : σ.all (· < ρ.length) = true) (hs : t.subst β σ = some h)
    (hro : ∀ ks i, t ≠ .ro ks i) (hh : Holds objs w1 F' (β.map (Bnd.den env)) (σ.map (hv ρ)) t v w S) : Holds objs w0 F env ρ h v w S := by
  cases t with
  | cells vs ty =>
    simp only [HE.subst, Option.map_eq_some_iff] at hs
    obtain ⟨l, hl, rfl⟩ := hs
    obtain ⟨b, cs, e1, e2, e3, e4⟩ := hh
    refine ⟨b, cs, e1, ?_, e3, e4⟩
    have h1 := subst_DenL hb hn hl
    have h2 := e2.1 [] []
    simp only [List.append_nil] at h2
    rw [denL_map, h2] at h1
    exact h1
  | abs i =>
    simp only [HE.subst] at hs
    split at hs <;> simp at hs
    subst hs
    rename_i j hbj
    obtain ⟨s, e1, e2⟩ := hh
    rw [bnd_get env hbj] at e1
    injection e1 with e1
    exact ⟨s, bnd_u e1, e2⟩
  | row k ty i =>
    simp only [HE.subst] at hs
    split at hs <;> simp at hs
    subst hs
    rename_i j hbj
    rcases hh with ⟨e1, e2⟩ | ⟨b, xs, e1, e2, e3, e4⟩
    · rw [bnd_get env hbj] at e2
      injection e2 with e2
      exact .inl ⟨e1, bnd_l e2⟩
    · rw [bnd_get env hbj] at e2
      injection e2 with e2
      exact .inr ⟨b, xs, e1, bnd_l e2, e3, e4⟩
  | ro ks i => exact absurd rfl (hro ks i)
  | sys i j =>
    simp only [HE.subst] at hs
    split at hs <;> simp at hs
    subst hs
    rename_i j' hbj
    obtain ⟨b, L, e1, e2, e3⟩ := hh
    rw [bnd_get env hbj] at e2
    injection e2 with e2
    exact ⟨b, L, e1, bnd_r e2, e3⟩
  | gone => simp only [HE.subst, Option.some.injEq] at hs; subst hs; trivial
end
end Go.Proofs.Ytjohihkbampbgaa
