/- The symbolic executor: equality, folding of numbers, substitution: what they denote. No program is named here. -/
import Derived.Test.YtjohihkbampbgaaSc
namespace Go.Proofs.Ytjohihkbampbgaa
set_option linter.unusedVariables false
set_option linter.unusedSimpArgs false
set_option linter.unusedSectionVars false
open Go

theorem Ex.beq_eq : ∀ {a b : Ex}, a.beq b = true → a = b := by
  intro a
  induction a with
  | lit n => intro b h; cases b <;> simp_all [Ex.beq]
  | var n => intro b h; cases b <;> simp_all [Ex.beq]
  | bin op k x y ih1 ih2 => intro b h; cases b <;> simp [Ex.beq] at h; obtain ⟨⟨⟨h1, h2⟩, h3⟩, h4⟩ := h; rw [h1, h2, ih1 h3, ih2 h4]
  | conv k x ih => intro b h; cases b <;> simp [Ex.beq] at h; rw [h.1, ih h.2]
  | len n => intro b h; cases b <;> simp_all [Ex.beq]
  | nth n e ih => intro b h; cases b <;> simp [Ex.beq] at h; rw [h.1, ih h.2]
  | fld n e c ih => intro b h; cases b <;> simp [Ex.beq] at h; rw [h.1.1, ih h.1.2, h.2]
  | nrow n => intro b h; cases b <;> simp_all [Ex.beq]
theorem Bx.beq_eq : ∀ {a b : Bx}, a.beq' b = true → a = b := by
  intro a
  induction a with
  | lit n => intro b h; cases b <;> simp_all [Bx.beq']
  | var n => intro b h; cases b <;> simp_all [Bx.beq']
  | cmp op x y => intro b h; cases b <;> simp [Bx.beq'] at h; rw [h.1.1, Ex.beq_eq h.1.2, Ex.beq_eq h.2]
  | beq x y ih1 ih2 => intro b h; cases b <;> simp [Bx.beq'] at h; rw [ih1 h.1, ih2 h.2]
  | not x ih => intro b h; cases b <;> simp [Bx.beq'] at h; rw [ih h]
  | and x y ih1 ih2 => intro b h; cases b <;> simp [Bx.beq'] at h; rw [ih1 h.1, ih2 h.2]
  | isnil n => intro b h; cases b <;> simp_all [Bx.beq']
  | fld n e c => intro b h; cases b <;> simp [Bx.beq'] at h; rw [h.1.1, Ex.beq_eq h.1.2, h.2]

mutual
theorem SV.beq_eq : ∀ {a b : SV}, a.beq b = true → a = b
  | .int k e, b, h => by cases b <;> simp [SV.beq] at h; rw [h.1, Ex.beq_eq h.2]
  | .bool x, b, h => by cases b <;> simp [SV.beq] at h; rw [Bx.beq_eq h]
  | .nilp, b, h => by cases b <;> simp [SV.beq] at h; rfl
  | .ptr n o, b, h => by cases b <;> simp [SV.beq] at h; rw [h.1, h.2]
  | .ptrx n e s o, b, h => by cases b <;> simp [SV.beq] at h; rw [h.1.1.1, Ex.beq_eq h.1.1.2, h.1.2, h.2]
  | .hnd n, b, h => by cases b <;> simp [SV.beq] at h; rw [h]
  | .nils, b, h => by cases b <;> simp [SV.beq] at h; rfl
  | .slice n l c, b, h => by cases b <;> simp [SV.beq] at h; rw [h.1.1, Ex.beq_eq h.1.2, Ex.beq_eq h.2]
  | .func f x y, b, h => by cases b <;> simp [SV.beq] at h; rw [h.1.1, SV.beqL_eq h.1.2, SV.beqL_eq h.2]
  | .nilf, b, h => by cases b <;> simp [SV.beq] at h; rfl
  | .agg l, b, h => by cases b <;> simp [SV.beq] at h; rw [SV.beqL_eq h]
  | .tuple l, b, h => by cases b <;> simp [SV.beq] at h; rw [SV.beqL_eq h]
  | .rowv k i, b, h => by cases b <;> simp [SV.beq] at h; rw [h.1, h.2]
  | .yld n, b, h => by cases b <;> simp [SV.beq] at h; rw [h]
  | .junk, b, h => by cases b <;> simp [SV.beq] at h; rfl
theorem SV.beqL_eq : ∀ {a b : List SV}, SV.beqL a b = true → a = b
  | [], b, h => by cases b <;> simp [SV.beqL] at h; rfl
  | x :: l, b, h => by cases b <;> simp [SV.beqL] at h; rw [SV.beq_eq h.1, SV.beqL_eq h.2]
end
theorem HE.beq_eq {a b : HE} (h : a.beq b = true) : a = b := by
  cases a <;> cases b <;> simp [HE.beq] at h
  case cells.cells => rw [SV.beqL_eq h.1, h.2]
  case abs.abs => rw [h]
  case row.row => rw [h.1.1, h.1.2, h.2]
  case ro.ro => rw [h.1, h.2]
  case sys.sys => rw [h.1, h.2]
  case gone.gone => rfl

section
variable {U : Type} [Nil U]
theorem den_mkBin (env : List (EV U)) (op : BinOp) (k : IntKind) (a b : Ex) : (mkBin op k a b).den env = binDen op k (a.den env) (b.den env) := by
  unfold mkBin; split <;> rfl
theorem den_mkConv (env : List (EV U)) (k : IntKind) (a : Ex) : (mkConv k a).den env = k.wrap (a.den env) := by
  unfold mkConv; split <;> rfl
theorem den_mkCmp (env : List (EV U)) (op : BinOp) (a b : Ex) : (mkCmp op a b).den env = cmpDen op (a.den env) (b.den env) := by
  unfold mkCmp; split <;> rfl
theorem den_mkNot (env : List (EV U)) (a : Bx) : (mkNot a).den env = !a.den env := by
  unfold mkNot; split <;> simp [Bx.den]
theorem den_mkAnd (env : List (EV U)) (a b : Bx) : (mkAnd a b).den env = (a.den env && b.den env) := by
  unfold mkAnd; split <;> simp [Bx.den]
theorem den_mkBeq (env : List (EV U)) (a b : Bx) : (mkBeq a b).den env = (a.den env == b.den env) := by
  unfold mkBeq; split <;> simp [Bx.den, den_mkNot]

theorem denL_map (env : List (EV U)) (ρ : List Value) (l : List SV) : SV.denL env ρ l = l.map (SV.den env ρ) := by
  induction l with
  | nil => rfl
  | cons a l ih => simp [SV.denL, ih]

theorem bnd_get {β : List Bnd} {i : Nat} {x : Bnd} (env : List (EV U)) (h : β[i]? = some x) : (β.map (Bnd.den env))[i]? = some (x.den env) := by simp [h]

theorem Ex.subst_den {β : List Bnd} (env : List (EV U)) : ∀ {e e' : Ex}, e.subst β = some e' → e'.den env = e.den (β.map (Bnd.den env)) := by
  intro e
  induction e with
  | lit n => intro e' h; simp [Ex.subst] at h; subst h; rfl
  | var i =>
    intro e' h
    simp only [Ex.subst] at h
    split at h <;> simp at h <;> subst h
    · rename_i e hb; simp [Ex.den, gI, hb, Bnd.den]
    · rename_i j hb
      simp only [Ex.den, gI, bnd_get env hb, Bnd.den, List.getD]
      cases env[j]? <;> simp
  | bin op k a b ih1 ih2 =>
    intro e' h
    simp only [Ex.subst, Option.bind_eq_some_iff, Option.map_eq_some_iff] at h
    obtain ⟨x, hx, y, hy, rfl⟩ := h
    rw [den_mkBin, ih1 hx, ih2 hy]; rfl
  | conv k a ih =>
    intro e' h
    simp only [Ex.subst, Option.map_eq_some_iff] at h
    obtain ⟨x, hx, rfl⟩ := h
    rw [den_mkConv, ih hx]; rfl
  | len i =>
    intro e' h
    simp only [Ex.subst] at h
    split at h <;> simp at h; subst h
    rename_i j hb
    simp only [Ex.den, gL, bnd_get env hb, Bnd.den, List.getD]
    cases env[j]? <;> simp
  | nth i e ih =>
    intro e' h
    simp only [Ex.subst] at h
    split at h <;> simp at h; obtain ⟨x, hx, rfl⟩ := h
    rename_i j hb
    simp only [Ex.den, gL, bnd_get env hb, Bnd.den, ih hx]
    cases h0 : env[j]? <;> simp [List.getD, h0]
  | fld i e c ih =>
    intro e' h
    simp only [Ex.subst] at h
    split at h <;> simp at h; obtain ⟨x, hx, rfl⟩ := h
    rename_i j hb
    simp only [Ex.den, gF, bnd_get env hb, Bnd.den, ih hx]
    cases h0 : env[j]? <;> simp [List.getD, h0]
  | nrow i =>
    intro e' h
    simp only [Ex.subst] at h
    split at h <;> simp at h; subst h
    rename_i j hb
    simp only [Ex.den, gN, bnd_get env hb, Bnd.den, List.getD]
    cases env[j]? <;> simp

theorem Bx.subst_den {β : List Bnd} (env : List (EV U)) : ∀ {e e' : Bx}, e.subst β = some e' → e'.den env = e.den (β.map (Bnd.den env)) := by
  intro e
  induction e with
  | lit n => intro e' h; simp [Bx.subst] at h; subst h; rfl
  | var i =>
    intro e' h
    simp only [Bx.subst] at h
    split at h <;> simp at h <;> subst h
    · rename_i e hb; simp [Bx.den, gB, hb, Bnd.den]
    · rename_i j hb
      simp only [Bx.den, gB, bnd_get env hb, Bnd.den, List.getD]
      cases env[j]? <;> simp
  | cmp op a b =>
    intro e' h
    simp only [Bx.subst, Option.bind_eq_some_iff, Option.map_eq_some_iff] at h
    obtain ⟨x, hx, y, hy, rfl⟩ := h
    rw [den_mkCmp, Ex.subst_den env hx, Ex.subst_den env hy]; rfl
  | beq a b ih1 ih2 =>
    intro e' h
    simp only [Bx.subst, Option.bind_eq_some_iff, Option.map_eq_some_iff] at h
    obtain ⟨x, hx, y, hy, rfl⟩ := h
    rw [den_mkBeq, ih1 hx, ih2 hy]; rfl
  | not a ih =>
    intro e' h
    simp only [Bx.subst, Option.map_eq_some_iff] at h
    obtain ⟨x, hx, rfl⟩ := h
    rw [den_mkNot, ih hx]; rfl
  | and a b ih1 ih2 =>
    intro e' h
    simp only [Bx.subst, Option.bind_eq_some_iff, Option.map_eq_some_iff] at h
    obtain ⟨x, hx, y, hy, rfl⟩ := h
    rw [den_mkAnd, ih1 hx, ih2 hy]; rfl
  | isnil i =>
    intro e' h
    simp only [Bx.subst] at h
    split at h <;> simp at h; subst h
    rename_i j hb
    simp only [Bx.den, gNil, bnd_get env hb, Bnd.den, List.getD]
    cases env[j]? <;> simp
  | fld i e c =>
    intro e' h
    simp only [Bx.subst] at h
    split at h <;> simp at h; obtain ⟨x, hx, rfl⟩ := h
    rename_i j hb
    simp only [Bx.den, gF, bnd_get env hb, Bnd.den, Ex.subst_den env hx]
    cases h0 : env[j]? <;> simp [List.getD, h0]

theorem hv_map {σ : List Nat} {n m : Nat} (ρ : List Value) (h : σ[n]? = some m) : hv (σ.map (hv ρ)) n = hv ρ m := by
  simp [hv, h]

mutual
theorem SV.subst_den {β : List Bnd} {σ : List Nat} (env : List (EV U)) (ρ : List Value) : ∀ {v v' : SV}, v.subst β σ = some v' → v'.den env ρ = v.den (β.map (Bnd.den env)) (σ.map (hv ρ))
  | .int k e, v', h => by
    simp only [SV.subst, Option.map_eq_some_iff] at h
    obtain ⟨x, hx, rfl⟩ := h
    simp [SV.den, Ex.subst_den env hx]
  | .bool b, v', h => by
    simp only [SV.subst, Option.map_eq_some_iff] at h
    obtain ⟨x, hx, rfl⟩ := h
    simp [SV.den, Bx.subst_den env hx]
  | .nilp, v', h => by simp [SV.subst] at h; subst h; rfl
  | .ptr n off, v', h => by
    simp only [SV.subst, Option.map_eq_some_iff] at h
    obtain ⟨x, hx, rfl⟩ := h
    simp [SV.den, hv_map ρ hx]
  | .ptrx n e sz off, v', h => by
    simp only [SV.subst, Option.bind_eq_some_iff, Option.map_eq_some_iff] at h
    obtain ⟨x, hx, y, hy, rfl⟩ := h
    simp [SV.den, hv_map ρ hx, Ex.subst_den env hy]
  | .hnd n, v', h => by
    simp only [SV.subst, Option.map_eq_some_iff] at h
    obtain ⟨x, hx, rfl⟩ := h
    simp [SV.den, hv_map ρ hx]
  | .nils, v', h => by simp [SV.subst] at h; subst h; rfl
  | .slice n l c, v', h => by
    simp only [SV.subst, Option.bind_eq_some_iff, Option.map_eq_some_iff] at h
    obtain ⟨x, hx, y, hy, z, hz, rfl⟩ := h
    simp [SV.den, hv_map ρ hx, Ex.subst_den env hy, Ex.subst_den env hz]
  | .func fn a b, v', h => by
    simp only [SV.subst, Option.bind_eq_some_iff, Option.map_eq_some_iff] at h
    obtain ⟨x, hx, y, hy, rfl⟩ := h
    simp [SV.den, SV.substL_den env ρ hx, SV.substL_den env ρ hy]
  | .nilf, v', h => by simp [SV.subst] at h; subst h; rfl
  | .agg l, v', h => by
    simp only [SV.subst, Option.map_eq_some_iff] at h
    obtain ⟨x, hx, rfl⟩ := h
    simp [SV.den, SV.substL_den env ρ hx]
  | .tuple l, v', h => by
    simp only [SV.subst, Option.map_eq_some_iff] at h
    obtain ⟨x, hx, rfl⟩ := h
    simp [SV.den, SV.substL_den env ρ hx]
  | .rowv k i, v', h => by
    simp only [SV.subst] at h
    split at h <;> simp at h; subst h
    rename_i j hb
    simp only [SV.den, gL, bnd_get env hb, Bnd.den, List.getD]
    cases env[j]? <;> simp
  | .yld n, v', h => by
    simp only [SV.subst, Option.map_eq_some_iff] at h
    obtain ⟨x, hx, rfl⟩ := h
    simp [SV.den, hv_map ρ hx]
  | .junk, v', h => by simp [SV.subst] at h; subst h; rfl
theorem SV.substL_den {β : List Bnd} {σ : List Nat} (env : List (EV U)) (ρ : List Value) : ∀ {l l' : List SV}, SV.substL β σ l = some l' → SV.denL env ρ l' = SV.denL (β.map (Bnd.den env)) (σ.map (hv ρ)) l
  | [], l', h => by simp [SV.substL] at h; subst h; rfl
  | v :: l, l', h => by
    simp only [SV.substL, Option.bind_eq_some_iff, Option.map_eq_some_iff] at h
    obtain ⟨x, hx, y, hy, rfl⟩ := h
    simp [SV.denL, SV.subst_den env ρ hx, SV.substL_den env ρ hy]
end
end
end Go.Proofs.Ytjohihkbampbgaa
