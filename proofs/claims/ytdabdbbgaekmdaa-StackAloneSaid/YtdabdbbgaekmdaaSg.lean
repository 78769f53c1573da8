/- A tree of ways, part by part. No program is named here. -/
import Derived.Test.YtdabdbbgaekmdaaSa
namespace Go.Proofs.Ytdabdbbgaekmdaa
set_option linter.unusedVariables false
set_option linter.unusedSimpArgs false
set_option linter.unusedSectionVars false
open Go

/-- which nodes are looked at one by one -/
inductive Sh where
  | stop
  | one (s : Sh)
  | oner (s : Sh)
  | two (l r : Sh)
namespace Tree
def pl : Tree → Tree
  | .br _ a _ => a
  | .need _ k => k
  | .call _ _ k => k
  | .callm _ _ k => k
  | .ext _ k => k
  | .and a _ => a
  | .opn _ _ k => k
  | .loop _ _ _ k => k
  | .rng k => k
  | .grow _ _ k => k
  | .app _ _ _ k => k
  | .apps _ _ _ k => k
  | .appr _ _ _ _ k => k
  | .fast k => k
  | _ => .ok
def pr : Tree → Tree
  | .br _ _ b => b
  | .and _ b => b
  | _ => .ok
/-- a node without what is left below it -/
def hd1 : Tree → Tree
  | .br c _ b => .br c .ok b
  | .need c _ => .need c .ok
  | .call c β _ => .call c β .ok
  | .callm c β _ => .callm c β .ok
  | .ext d _ => .ext d .ok
  | .and _ b => .and .ok b
  | .opn i t _ => .opn i t .ok
  | .loop i n β _ => .loop i n β .ok
  | .rng _ => .rng .ok
  | .grow i e _ => .grow i e .ok
  | .app i e x _ => .app i e x .ok
  | .apps i e x _ => .apps i e x .ok
  | .appr i e j x _ => .appr i e j x .ok
  | .fast _ => .fast .ok
  | t => t
/-- a node without what is right below it -/
def hdr : Tree → Tree
  | .br c a _ => .br c a .ok
  | .and a _ => .and a .ok
  | t => t.hd1
/-- a node without what is below it -/
def hd2 : Tree → Tree
  | .br c _ _ => .br c .ok .ok
  | .and _ _ => .and .ok .ok
  | t => t.hd1
def at_ : List Bool → Tree → Tree
  | [], t => t
  | false :: p, t => at_ p t.pl
  | true :: p, t => at_ p t.pr
def heads : Sh → Tree → List Tree
  | .stop, _ => []
  | .one s, t => t.hd1 :: heads s t.pl
  | .oner s, t => t.hdr :: t.pl :: heads s t.pr
  | .two l r, t => t.hd2 :: (heads l t.pl ++ heads r t.pr)
theorem ext1 (t u : Tree) (h : t.hd1 = u.hd1) (hl : t.pl = u.pl) : t = u := by
  cases t <;> cases u <;> simp only [hd1, pl, Tree.br.injEq, Tree.need.injEq, Tree.call.injEq, Tree.callm.injEq, Tree.ext.injEq, Tree.and.injEq, Tree.opn.injEq, Tree.loop.injEq, Tree.rng.injEq, Tree.grow.injEq, Tree.app.injEq, Tree.apps.injEq, Tree.appr.injEq, Tree.fast.injEq, Tree.ret.injEq, Tree.nomore.injEq, Tree.back.injEq, Tree.viol.injEq, Tree.fail.injEq, Tree.leaf.injEq, reduceCtorEq] at h hl ⊢ <;> simp_all
theorem ext2 (t u : Tree) (h : t.hd2 = u.hd2) (hl : t.pl = u.pl) (hr : t.pr = u.pr) : t = u := by
  cases t <;> cases u <;> simp only [hd2, hd1, pl, pr, Tree.br.injEq, Tree.need.injEq, Tree.call.injEq, Tree.callm.injEq, Tree.ext.injEq, Tree.and.injEq, Tree.opn.injEq, Tree.loop.injEq, Tree.rng.injEq, Tree.grow.injEq, Tree.app.injEq, Tree.apps.injEq, Tree.appr.injEq, Tree.fast.injEq, Tree.ret.injEq, Tree.nomore.injEq, Tree.back.injEq, Tree.viol.injEq, Tree.fail.injEq, Tree.leaf.injEq, reduceCtorEq] at h hl hr ⊢ <;> simp_all
theorem extr (t u : Tree) (h : t.hdr = u.hdr) (hl : t.pl = u.pl) (hr : t.pr = u.pr) : t = u := by
  cases t <;> cases u <;> simp only [hdr, hd1, pl, pr, Tree.br.injEq, Tree.need.injEq, Tree.call.injEq, Tree.callm.injEq, Tree.ext.injEq, Tree.and.injEq, Tree.opn.injEq, Tree.loop.injEq, Tree.rng.injEq, Tree.grow.injEq, Tree.app.injEq, Tree.apps.injEq, Tree.appr.injEq, Tree.fast.injEq, Tree.ret.injEq, Tree.nomore.injEq, Tree.back.injEq, Tree.viol.injEq, Tree.fail.injEq, Tree.leaf.injEq, reduceCtorEq] at h hl hr ⊢ <;> simp_all
theorem heads_len : ∀ (s : Sh) (t u : Tree), (heads s t).length = (heads s u).length
  | .stop, _, _ => rfl
  | .one s, t, u => by simp only [heads, List.length_cons, heads_len s t.pl u.pl]
  | .oner s, t, u => by simp only [heads, List.length_cons, heads_len s t.pr u.pr]
  | .two l r, t, u => by simp only [heads, List.length_cons, List.length_append, heads_len l t.pl u.pl, heads_len r t.pr u.pr]
end Tree
def Sh.paths : Sh → List (List Bool)
  | .stop => [[]]
  | .one s => s.paths.map (false :: ·)
  | .oner s => s.paths.map (true :: ·)
  | .two l r => l.paths.map (false :: ·) ++ r.paths.map (true :: ·)
theorem Tree.glue0 : ∀ (s : Sh) (t u : Tree), t.heads s = u.heads s → (∀ p, p ∈ s.paths → Tree.at_ p t = Tree.at_ p u) → t = u
  | .stop, t, u, _, h => h [] (by simp [Sh.paths])
  | .one s, t, u, hc, h => by
    simp only [Tree.heads, List.cons.injEq] at hc
    exact Tree.ext1 t u hc.1 (Tree.glue0 s _ _ hc.2 fun p hp => h (false :: p) (by simp [Sh.paths, hp]))
  | .oner s, t, u, hc, h => by
    simp only [Tree.heads, List.cons.injEq] at hc
    exact Tree.extr t u hc.1 hc.2.1 (Tree.glue0 s _ _ hc.2.2 fun p hp => h (true :: p) (by simp [Sh.paths, hp]))
  | .two l r, t, u, hc, h => by
    simp only [Tree.heads, List.cons.injEq] at hc
    have hh := List.append_inj hc.2 (Tree.heads_len l _ _)
    exact Tree.ext2 t u hc.1 (Tree.glue0 l _ _ hh.1 fun p hp => h (false :: p) (by simp [Sh.paths, hp])) (Tree.glue0 r _ _ hh.2 fun p hp => h (true :: p) (by simp [Sh.paths, hp]))
def Tree.Alike (t u : Tree) : List (List Bool) → Prop
  | [] => True
  | p :: ps => Tree.at_ p t = Tree.at_ p u ∧ Tree.Alike t u ps
theorem Tree.Alike.mem {t u : Tree} : ∀ {ps : List (List Bool)}, Tree.Alike t u ps → ∀ p, p ∈ ps → Tree.at_ p t = Tree.at_ p u
  | [], _, p, h => by cases h
  | q :: ps, h, p, hp => by
    rcases List.mem_cons.1 hp with rfl | hp
    · exact h.1
    · exact h.2.mem p hp
theorem Tree.glue (s : Sh) (ps : List (List Bool)) (t u : Tree) (he : s.paths = ps) (hc : t.heads s = u.heads s) (h : Tree.Alike t u ps) : t = u :=
  Tree.glue0 s t u hc fun p hp => h.mem p (he ▸ hp)
end Go.Proofs.Ytdabdbbgaekmdaa
