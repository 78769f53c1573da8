/- The symbolic executor: trees whose numbers are all known are reckoned. No program is named here. -/
import Derived.Test.YtjohihkbampbgaaSr
namespace Go.Proofs.Ytjohihkbampbgaa
set_option linter.unusedVariables false
set_option linter.unusedSimpArgs false
set_option linter.unusedSectionVars false
open Go

section
variable {U : Type} [Nil U]

/-- a tree, reckoned: preB says (enough for) what contracts ask -/
def Tree.satB (X : Cx U) (preB : Nat → List (EV U) → Bool) (RB : List (EV U) → List (EV U) → Bool) : Tree → List (EV U) → Bool
  | .ret β, env => RB env (β.map (Bnd.den env))
  | .br c t f, env => match c.den env with | true => t.satB X preB RB env | false => f.satB X preB RB env
  | .need c k, env => c.den env && k.satB X preB RB env
  | .call ci β k, env =>
    match X.cts[ci]? with
    | some c => preB ci (β.map (Bnd.den env)) && k.satB X preB RB (env ++ c.out (β.map (Bnd.den env)))
    | none => false
  | .ext d k, env =>
    match d with
    | .setl i e x => k.satB X preB RB (env ++ [.l ((gL env i).set (e.den env).toNat (x.den env))])
    | .repl n x => k.satB X preB RB (env ++ [.l (List.replicate (n.den env).toNat (x.den env))])
    | .mk _ _ => false
    | .lst xs => k.satB X preB RB (env ++ [.l (xs.map (Ex.den env))])
  | .and a b, env => a.satB X preB RB env && b.satB X preB RB env
  | .ok, _ => true
  | _, _ => false

theorem satB_sound {X : Cx U} {R : List (EV U) → List (EV U) → Prop} {preB : Nat → List (EV U) → Bool} {RB : List (EV U) → List (EV U) → Bool}
    (hp : ∀ ci c ins, X.cts[ci]? = some c → preB ci ins = true → c.pre ins) (hR : ∀ e o, RB e o = true → R e o) : ∀ (t : Tree) (env : List (EV U)), t.satB X preB RB env = true → t.sat X R env := by
  intro t
  induction t with
  | ret β => intro env h; exact hR _ _ h
  | br c t f iht ihf =>
    intro env h
    simp only [Tree.satB] at h
    cases hc : c.den env
    · rw [hc] at h; exact ⟨fun h' => by rw [hc] at h'; (cases h'), fun _ => ihf _ h⟩
    · rw [hc] at h; exact ⟨fun _ => iht _ h, fun h' => by rw [hc] at h'; (cases h')⟩
  | need c k ih => intro env h; simp only [Tree.satB, Bool.and_eq_true] at h; exact ⟨h.1, ih _ h.2⟩
  | call ci β k ih =>
    intro env h
    simp only [Tree.satB] at h
    simp only [Tree.sat]
    split at h
    · rename_i c hc
      simp only [Bool.and_eq_true] at h
      rw [hc]
      exact ⟨hp _ _ _ hc h.1, ih _ h.2⟩
    · cases h
  | ext d k ih =>
    intro env h
    cases d with
    | setl i e x => exact ih _ h
    | repl n x => exact ih _ h
    | mk t ps => cases h
    | lst xs => exact ih _ h
  | and a b iha ihb => intro env h; simp only [Tree.satB, Bool.and_eq_true] at h; exact ⟨iha _ h.1, ihb _ h.2⟩
  | ok => intro _ _; trivial
  | opn i t k ih => intro env h; cases h
  | nomore i ts => intro env h; cases h
  | loop id ne β k ih => intro env h; cases h
  | back id ne β => intro env h; cases h
  | viol n => intro env h; cases h
  | rng k ih => intro env h; cases h
  | grow i e k ih => intro env h; cases h
  | fail w => intro env h; cases h

/-- one true, told -/
def oneB (o : List (EV U)) : Bool := match o with | [.b x] => x | _ => false
theorem oneB_spec {o : List (EV U)} (h : oneB o = true) : o = [.b true] := by
  unfold oneB at h
  split at h
  · rw [h]
  · cases h
end
end Go.Proofs.Ytjohihkbampbgaa
