/- A run's ways, step by step. No program is named here. -/
import Derived.Test.YtdabdbbgaekmdaaGreatSr
namespace Go.Proofs.YtdabdbbgaekmdaaGreat
set_option linter.unusedVariables false
set_option linter.unusedSimpArgs false
set_option linter.unusedSectionVars false
open Go

section
variable {U : Type} [Nil U] {X : Cx U} {R : List (EV U) → List (EV U) → Prop}
theorem st_br {c : Bx} {t f : Tree} {env : List (EV U)} (ht : c.den env = true → t.sat X R env) (hf : c.den env = false → f.sat X R env) : (Tree.br c t f).sat X R env := ⟨ht, hf⟩
theorem st_need {c : Bx} {k : Tree} {env : List (EV U)} (h : c.den env = true) (hk : k.sat X R env) : (Tree.need c k).sat X R env := ⟨h, hk⟩
theorem st_and {a b : Tree} {env : List (EV U)} (h : a.sat X R env) (hk : b.sat X R env) : (Tree.and a b).sat X R env := ⟨h, hk⟩
theorem st_ok {env : List (EV U)} : Tree.ok.sat X R env := trivial
theorem st_call {ci : Nat} {β : List Bnd} {k : Tree} {env a o env' : List (EV U)} {c : Ctr U} (hc : X.cts[ci]? = some c) (ha : β.map (Bnd.den env) = a) (hp : c.pre a) (ho : c.out a = o) (he : env ++ o = env') (hk : k.sat X R env') : (Tree.call ci β k).sat X R env := by
  subst ha ho he
  simp only [Tree.sat, hc]
  exact ⟨hp, hk⟩
theorem st_callm {ci : Nat} {β : List Bnd} {k : Tree} {env a : List (EV U)} {c : Ctr U} (hc : X.cts[ci]? = some c) (ha : β.map (Bnd.den env) = a) (hp : c.pre a) (hk : ∀ o env', c.may a o → env ++ o = env' → k.sat X R env') : (Tree.callm ci β k).sat X R env := by
  subst ha
  simp only [Tree.sat, hc]
  exact ⟨hp, fun o ho => hk o _ ho rfl⟩
theorem st_ret {β : List Bnd} {env a : List (EV U)} (ha : β.map (Bnd.den env) = a) (h : R env a) : (Tree.ret β).sat X R env := by subst ha; exact h
theorem st_back {id ne : Nat} {β : List Bnd} {env a e0 e1 : List (EV U)} {s : LoopS U} (hs : X.loops[id]? = some s) (ha : β.map (Bnd.den env) = a) (h0 : env.take ne = e0) (h1 : env.take (ne + s.nv) = e1) (hi : s.inv (e0 ++ a)) (hm : s.mu (e0 ++ a) < s.mu e1) : (Tree.back id ne β).sat X R env := by
  subst ha h0 h1
  simp only [Tree.sat, hs]
  exact ⟨hi, hm⟩
theorem st_loop {id ne : Nat} {β : List Bnd} {k : Tree} {env a e0 : List (EV U)} {s : LoopS U} (hs : X.loops[id]? = some s) (ha : β.map (Bnd.den env) = a) (h0 : env.take ne = e0) (hi : s.inv (e0 ++ a)) (hk : ∀ env', s.inv env' → k.sat X R env') : (Tree.loop id ne β k).sat X R env := by
  subst ha h0
  simp only [Tree.sat, hs]
  exact ⟨hi, fun fr _ h => hk _ h⟩
theorem st_mk {t : Nat} {ps : List Bnd} {k : Tree} {env a env' : List (EV U)} {T : ObjT U} (hT : X.objs[t]? = some T) (ha : ps.map (Bnd.den env) = a) (hok : T.ok a) (he : env ++ [.u (T.obj a)] = env') (hk : k.sat X R env') : (Tree.ext (.mk t ps) k).sat X R env := by
  subst ha he
  simp only [Tree.sat, hT]
  exact ⟨hok, hk⟩
theorem st_lst {xs : List Ex} {k : Tree} {env env' : List (EV U)} (he : env ++ [.l (xs.map (Ex.den env))] = env') (hk : k.sat X R env') : (Tree.ext (.lst xs) k).sat X R env := by subst he; exact hk
theorem st_repl {n x : Ex} {k : Tree} {env env' : List (EV U)} (he : env ++ [.l (List.replicate (n.den env).toNat (x.den env))] = env') (hk : k.sat X R env') : (Tree.ext (.repl n x) k).sat X R env := by subst he; exact hk
theorem st_setl {i : Nat} {e x : Ex} {k : Tree} {env env' : List (EV U)} (he : env ++ [.l ((gL env i).set (e.den env).toNat (x.den env))] = env') (hk : k.sat X R env') : (Tree.ext (.setl i e x) k).sat X R env := by subst he; exact hk
end
end Go.Proofs.YtdabdbbgaekmdaaGreat
