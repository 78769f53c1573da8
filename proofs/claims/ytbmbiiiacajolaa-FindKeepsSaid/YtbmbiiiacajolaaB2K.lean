/- Texts of this proof. -/
import Derived.Test.YtbmbiiiacajolaaSrK
import Derived.ProofKit
import Derived.OpenShut
import Derived.Deep.Slices
import Derived.Deep.Fields
import Derived.WalkKit
import Derived.Lib.Hide
namespace Go.Proofs.Ytbmbiiiacajolaa
set_option linter.unusedVariables false
set_option linter.unusedSimpArgs false
set_option linter.unusedSectionVars false
open Go
section
variable {U : Type} [Nil U]
def lookC : List (Nat × Int) → Nat → Option Int
 | [], _ => none
 | (j, m) :: l, i => match Nat.beq i j with | true => some m | false => lookC l i
def Bx.sureB (caps : List (Nat × Int)) (env : List (EV U)) (c : Bx) : Bool :=
 match c with
 | .cmp .leq (.len i) (.var j) => match lookC caps j, Nat.beq (i + 1) j with | some _, true => true | _, _ => c.den env
 | .cmp .leq (.var j) (.len i) => match lookC caps j, Nat.beq (i + 1) j with | some _, true => true | _, _ => c.den env
 | .cmp .leq e (.var j) => match lookC caps j with | some m => decide (e.den env ≤ m) | none => c.den env
 | .cmp .lss e (.var j) => match lookC caps j with | some m => decide (e.den env < m) | none => c.den env
 | .cmp .leq e (.len i) => match lookC caps (i + 1) with | some m => decide (e.den env ≤ m) | none => c.den env
 | .cmp .lss e (.len i) => match lookC caps (i + 1) with | some m => decide (e.den env < m) | none => c.den env
 | c => c.den env
def CapsOk (caps : List (Nat × Int)) (env : List (EV U)) : Prop := ∀ j m, lookC caps j = some m → ∃ i, j = i + 1 ∧ j < env.length ∧ gI env j = ((gL env i).length : Int) ∧ m ≤ gI env j
theorem sureB_sound {caps : List (Nat × Int)} {env : List (EV U)} (h : CapsOk caps env) {c : Bx} (hc : c.sureB caps env = true) : c.den env = true := by
 unfold Bx.sureB at hc
 split at hc
 · split at hc
   · rename_i i j _ _ m hl hb
     obtain ⟨i', e, _, h1, h2⟩ := h _ _ hl
     have := Nat.eq_of_beq_eq_true hb
     obtain rfl : i = i' := by omega
     simp only [Bx.den, Ex.den, cmpDen]; exact decide_eq_true (by omega)
   · exact hc
 · split at hc
   · rename_i j i _ _ m hl hb
     obtain ⟨i', e, _, h1, h2⟩ := h _ _ hl
     have := Nat.eq_of_beq_eq_true hb
     obtain rfl : i = i' := by omega
     simp only [Bx.den, Ex.den, cmpDen]; exact decide_eq_true (by omega)
   · exact hc
 · split at hc
   · rename_i hl
     obtain ⟨i', e, _, h1, h2⟩ := h _ _ hl
     simp only [decide_eq_true_eq] at hc
     simp only [Bx.den, Ex.den, cmpDen]; exact decide_eq_true (by omega)
   · exact hc
 · split at hc
   · rename_i hl
     obtain ⟨i', e, _, h1, h2⟩ := h _ _ hl
     simp only [decide_eq_true_eq] at hc
     simp only [Bx.den, Ex.den, cmpDen]; exact decide_eq_true (by omega)
   · exact hc
 · split at hc
   · rename_i hl
     obtain ⟨i', e, _, h1, h2⟩ := h _ _ hl
     simp only [Nat.add_right_cancel_iff] at e; subst e
     simp only [decide_eq_true_eq] at hc
     simp only [Bx.den, Ex.den, cmpDen]; exact decide_eq_true (by omega)
   · exact hc
 · split at hc
   · rename_i hl
     obtain ⟨i', e, _, h1, h2⟩ := h _ _ hl
     simp only [Nat.add_right_cancel_iff] at e; subst e
     simp only [decide_eq_true_eq] at hc
     simp only [Bx.den, Ex.den, cmpDen]; exact decide_eq_true (by omega)
   · exact hc
 · exact hc
theorem gI_app {env o : List (EV U)} {i : Nat} (h : i < env.length) : gI (env ++ o) i = gI env i := by simp [gI, List.getElem?_append_left h]
theorem gL_app {env o : List (EV U)} {i : Nat} (h : i < env.length) : gL (env ++ o) i = gL env i := by simp [gL, List.getElem?_append_left h]
theorem CapsOk.app {caps : List (Nat × Int)} {env : List (EV U)} (h : CapsOk caps env) (o : List (EV U)) : CapsOk caps (env ++ o) := by
 intro j m hl
 obtain ⟨i, e, h0, h1, h2⟩ := h j m hl
 exact ⟨i, e, by simp; omega, by rw [gI_app h0, gL_app (by omega)]; exact h1, by rw [gI_app h0]; exact h2⟩
theorem CapsOk.cons {caps : List (Nat × Int)} {env : List (EV U)} (h : CapsOk caps env) {l : List Int} {c m : Int} (hc : c = l.length) (hm : m ≤ c) : CapsOk ((env.length + 1, m) :: caps) (env ++ [.l l, .i c]) := by
 intro j m' hl
 simp only [lookC] at hl
 split at hl
 · rename_i hb
   injection hl with hl
   have := Nat.eq_of_beq_eq_true hb
   subst this hl
   refine ⟨env.length, rfl, by simp, ?_, ?_⟩
   · simp [gI, gL, List.getElem?_append_right, hc]
   · simp [gI, List.getElem?_append_right, hm]
 · exact h.app _ j m' hl
theorem CapsOk.nil {env : List (EV U)} : CapsOk [] env := fun _ _ h => by cases h
def roomB (caps : List (Nat × Int)) (env : List (EV U)) (i : Option Nat) (e : Int) : Bool :=
 decide (0 ≤ e) && match i with | none => decide (e ≤ 0) | some i => match lookC caps (i + 1) with | some m => decide (e ≤ m) | none => decide (e ≤ (gL env i).length)
theorem roomB_sound {caps : List (Nat × Int)} {env : List (EV U)} (h : CapsOk caps env) {i : Option Nat} {e : Int} (hc : roomB caps env i e = true) : 0 ≤ e ∧ e ≤ ((match i with | none => [] | some i => gL env i).length : Int) := by
 unfold roomB at hc
 simp only [Bool.and_eq_true, decide_eq_true_eq] at hc
 refine ⟨hc.1, ?_⟩
 have hc := hc.2
 cases i with
 | none => simpa using hc
 | some i =>
   simp only at hc ⊢
   split at hc
   · rename_i hl
     obtain ⟨i', e, _, h1, h2⟩ := h _ _ hl
     simp only [Nat.add_right_cancel_iff] at e; subst e
     simp only [decide_eq_true_eq] at hc
     omega
   · simpa using hc
def Tree.satC (X : Cx U) (preB : Nat → List (EV U) → Bool) (okB : Nat → List (EV U) → Bool) (RB : List (EV U) → List (EV U) → Bool) (cs : Nat → List Int × Loop) : Tree → Nat → List (Nat × Int) → List (EV U) → Bool
 | .ret β, _, _, env => RB env (β.map (Bnd.den env))
 | .br c t f, k, ca, env => match c.den env with | true => t.satC X preB okB RB cs k ca env | false => f.satC X preB okB RB cs k ca env
 | .need c t, k, ca, env => c.sureB ca env && t.satC X preB okB RB cs k ca env
 | .call ci β t, k, ca, env =>
   match X.cts[ci]? with
   | some c => preB ci (β.map (Bnd.den env)) && t.satC X preB okB RB cs k ca (env ++ c.out (β.map (Bnd.den env)))
   | none => false
 | .callm ci β t, k, ca, env =>
   match X.cts[ci]? with
   | some c =>
     match c.many with
     | none =>
       match c.rel with
       | none => preB ci (β.map (Bnd.den env)) && t.satC X preB okB RB cs k ca (env ++ c.out (β.map (Bnd.den env)))
       | some _ =>
         match assoc c.fn X.split with
         | some n => preB ci (β.map (Bnd.den env)) && (List.range n).all fun j => t.satC X preB okB RB cs k ca (env ++ [.i j])
         | none => false
     | some g => preB ci (β.map (Bnd.den env)) && t.satC X preB okB RB cs (k + 1) ca (env ++ g (cs k).1 (β.map (Bnd.den env)))
   | none => false
 | .ext d t, k, ca, env =>
   match d with
   | .setl i e x => match lookC ca (i + 1) with | none => t.satC X preB okB RB cs k ca (env ++ [.l ((gL env i).set (e.den env).toNat (x.den env))]) | some _ => false
   | .repl n x => t.satC X preB okB RB cs k ca (env ++ [.l (List.replicate (n.den env).toNat (x.den env))])
   | .mk m ps =>
     match X.objs[m]? with
     | some T => okB m (ps.map (Bnd.den env)) && t.satC X preB okB RB cs k ca (env ++ [.u (T.obj (ps.map (Bnd.den env)))])
     | none => false
   | .lst xs => t.satC X preB okB RB cs k ca (env ++ [.l (xs.map (Ex.den env))])
   | .push i e => t.satC X preB okB RB cs k ca (env ++ [.l (gL env i ++ [e.den env])])
 | .and a b, k, ca, env => a.satC X preB okB RB cs k ca env && b.satC X preB okB RB cs k ca env
 | .ok, _, _, _ => true
 | .rng t, k, ca, env => t.satC X preB okB RB cs (k + 1) ca (env ++ [.r (cs k).2])
 | .grow i e t, k, ca, env => roomB ca env (some i) (e.den env) && t.satC X preB okB RB cs (k + 1) ((env.length + 1, e.den env) :: ca) (env ++ [.l ((gL env i).take (e.den env).toNat ++ List.replicate (cs k).1.length 0), .i (((e.den env).toNat + (cs k).1.length : Nat) : Int)])
 | .app i e x t, k, ca, env => roomB ca env i (e.den env) && t.satC X preB okB RB cs (k + 1) ((env.length + 1, e.den env + 1) :: ca) (env ++ [.l ((match i with | none => [] | some i => gL env i).take (e.den env).toNat ++ x.den env :: (cs k).1), .i (((e.den env).toNat + 1 + (cs k).1.length : Nat) : Int)])
 | .apps i e xs t, k, ca, env => roomB ca env i (e.den env) && t.satC X preB okB RB cs (k + 1) ((env.length + 1, e.den env + xs.length) :: ca) (env ++ [.l ((match i with | none => [] | some i => gL env i).take (e.den env).toNat ++ xs.map (Ex.den env) ++ (cs k).1), .i (((e.den env).toNat + xs.length + (cs k).1.length : Nat) : Int)])
 | .appr i e j e2 t, k, ca, env => roomB ca env i (e.den env) && (roomB ca env (some j) (e2.den env) && t.satC X preB okB RB cs (k + 1) ((env.length + 1, e.den env + e2.den env) :: ca) (env ++ [.l ((match i with | none => [] | some i => gL env i).take (e.den env).toNat ++ (gL env j).take (e2.den env).toNat ++ (cs k).1), .i (((e.den env).toNat + (e2.den env).toNat + (cs k).1.length : Nat) : Int)]))
 | _, _, _, _ => false
theorem satC_congr {X : Cx U} {preB okB : Nat → List (EV U) → Bool} {RB : List (EV U) → List (EV U) → Bool} {cs cs' : Nat → List Int × Loop} : ∀ (t : Tree) (k : Nat) (ca : List (Nat × Int)) (env : List (EV U)), (∀ j, k ≤ j → cs j = cs' j) → t.satC X preB okB RB cs k ca env = t.satC X preB okB RB cs' k ca env := by
 intro t
 induction t with
 | ret β => intro k ca env h; rfl
 | br c t f iht ihf => intro k ca env h; simp only [Tree.satC, iht k _ _ h, ihf k _ _ h]
 | need c t ih => intro k ca env h; simp only [Tree.satC, ih k _ _ h]
 | call ci β t ih => intro k ca env h; simp only [Tree.satC, fun a e => ih k a e h]
 | callm ci β t ih => intro k ca env h; simp only [Tree.satC, fun a e => ih k a e h, fun a e => ih (k + 1) a e (fun j hj => h j (by omega)), h k (Nat.le_refl _)]
 | ext d t ih => intro k ca env h; cases d <;> simp only [Tree.satC, fun a e => ih k a e h]
 | and a b iha ihb => intro k ca env h; simp only [Tree.satC, iha k _ _ h, ihb k _ _ h]
 | ok => intro _ _ _ _; rfl
 | opn i t k ih => intro _ _ _ _; rfl
 | nomore i ts => intro _ _ _ _; rfl
 | loop id ne β k ih => intro _ _ _ _; rfl
 | back id ne β => intro _ _ _ _; rfl
 | viol n => intro _ _ _ _; rfl
 | rng t ih => intro k ca env h; simp only [Tree.satC, fun a e => ih (k + 1) a e (fun j hj => h j (by omega)), h k (Nat.le_refl _)]
 | grow i e t ih => intro k ca env h; simp only [Tree.satC, fun a e => ih (k + 1) a e (fun j hj => h j (by omega)), h k (Nat.le_refl _)]
 | app i e x t ih => intro k ca env h; simp only [Tree.satC, fun a e => ih (k + 1) a e (fun j hj => h j (by omega)), h k (Nat.le_refl _)]
 | apps i e x t ih => intro k ca env h; simp only [Tree.satC, fun a e => ih (k + 1) a e (fun j hj => h j (by omega)), h k (Nat.le_refl _)]
 | appr i e j e2 t ih => intro k ca env h; simp only [Tree.satC, fun a e => ih (k + 1) a e (fun j hj => h j (by omega)), h k (Nat.le_refl _)]
 | fail w => intro _ _ _ _; rfl
 | leaf s => intro _ _ _ _; rfl
 | fast t ih => intro _ _ _ _; rfl
theorem satC_at {X : Cx U} {preB okB : Nat → List (EV U) → Bool} {RB : List (EV U) → List (EV U) → Bool} {t : Tree} {k : Nat} {ca : List (Nat × Int)} {F : List Int × Loop → List (EV U)} (h : ∀ cs : Nat → List Int × Loop, t.satC X preB okB RB cs (k + 1) ca (F (cs k)) = true) (r : List Int × Loop) :
 ∀ cs : Nat → List Int × Loop, t.satC X preB okB RB cs (k + 1) ca (F r) = true := by
 intro cs
 have h1 := h (fun j => if j = k then r else cs j)
 rw [if_pos rfl] at h1
 rw [← h1]
 exact satC_congr _ _ _ _ fun j hj => by rw [if_neg (by omega)]
theorem satC_sound {X : Cx U} {R : List (EV U) → List (EV U) → Prop} {preB okB : Nat → List (EV U) → Bool} {RB : List (EV U) → List (EV U) → Bool}
 (hp : ∀ ci c ins, X.cts[ci]? = some c → preB ci ins = true → c.pre ins) (hok : ∀ m T ps, X.objs[m]? = some T → okB m ps = true → T.ok ps) (hR : ∀ e o, RB e o = true → R e o)
 (t : Tree) (k : Nat) (ca : List (Nat × Int)) (env : List (EV U)) (hca : CapsOk ca env) (h : ∀ cs, t.satC X preB okB RB cs k ca env = true)
 (hal : ∀ (ci : Nat) (c : Ctr U) r n, X.cts[ci]? = some c → c.rel = some r → assoc c.fn X.split = some n → ∀ ins outs, r ins outs → ∃ j : Nat, j < n ∧ outs = [.i j] := by intro _ _ _ _ _ _ h; cases h) : t.sat X R env := by
 revert t k ca env
 suffices ∀ (t : Tree) (k : Nat) (ca : List (Nat × Int)) (env : List (EV U)), CapsOk ca env → (∀ cs, t.satC X preB okB RB cs k ca env = true) → t.sat X R env from fun t k ca env hca h => this t k ca env hca h
 intro t
 have z : Nat → List Int × Loop := fun _ => ([], default)
 induction t with
 | ret β => intro k ca env hca h; exact hR _ _ (h z)
 | br c t f iht ihf =>
   intro k ca env hca h
   simp only [Tree.satC] at h
   cases hc : c.den env
   · simp only [hc] at h; exact ⟨fun h' => by rw [hc] at h'; (cases h'), fun _ => ihf _ _ _ hca h⟩
   · simp only [hc] at h; exact ⟨fun _ => iht _ _ _ hca h, fun h' => by rw [hc] at h'; (cases h')⟩
 | need c t ih => intro k ca env hca h; simp only [Tree.satC, Bool.and_eq_true] at h; exact ⟨sureB_sound hca (h z).1, ih _ _ _ hca fun cs => (h cs).2⟩
 | call ci β t ih =>
   intro k ca env hca h
   simp only [Tree.satC] at h
   simp only [Tree.sat]
   cases hc : X.cts[ci]? with
   | none => rw [hc] at h; have := h z; cases this
   | some c =>
     simp only [hc, Bool.and_eq_true] at h
     exact ⟨hp _ _ _ hc (h z).1, ih _ _ _ (hca.app _) fun cs => (h cs).2⟩
 | callm ci β t ih =>
   intro k ca env hca h
   simp only [Tree.satC] at h
   simp only [Tree.sat]
   cases hc : X.cts[ci]? with
   | none => rw [hc] at h; have := h z; cases this
   | some c =>
     simp only [hc] at h
     cases hm : c.many with
     | none =>
       cases hrel : c.rel with
       | none =>
         simp only [hm, hrel, Bool.and_eq_true] at h
         refine ⟨hp _ _ _ hc (h z).1, fun o ho => ?_⟩
         simp only [Ctr.may, hm, hrel] at ho
         subst ho
         exact ih _ _ _ (hca.app _) fun cs => (h cs).2
       | some r =>
         cases hsp : assoc c.fn X.split with
         | none => simp only [hm, hrel, hsp] at h; have := h z; cases this
         | some n =>
           simp only [hm, hrel, hsp, Bool.and_eq_true, List.all_eq_true, List.mem_range] at h
           refine ⟨hp _ _ _ hc (h z).1, fun o ho => ?_⟩
           simp only [Ctr.may, hm, hrel] at ho
           obtain ⟨j, hj, rfl⟩ := hal ci c r n hc hrel hsp _ _ ho
           exact ih _ _ _ (hca.app _) fun cs => (h cs).2 j hj
     | some g =>
       simp only [hm, Bool.and_eq_true] at h
       refine ⟨hp _ _ _ hc (h z).1, fun o ho => ?_⟩
       simp only [Ctr.may, hm] at ho
       obtain ⟨n, rfl⟩ := ho
       have h2 := satC_at (F := fun r => env ++ g r.1 (β.map (Bnd.den env))) (fun cs => (h cs).2) (n, default)
       exact ih _ _ _ (hca.app _) h2
 | ext d t ih =>
   intro k ca env hca h
   cases d with
   | setl i e x =>
     simp only [Tree.satC] at h
     cases hl : lookC ca (i + 1) with
     | none => simp only [hl] at h; exact ih _ _ _ (hca.app _) h
     | some m => simp only [hl] at h; have := h z; cases this
   | repl n x => exact ih _ _ _ (hca.app _) h
   | mk m ps =>
     simp only [Tree.satC] at h
     simp only [Tree.sat]
     cases hc : X.objs[m]? with
     | none => rw [hc] at h; have := h z; cases this
     | some T =>
       simp only [hc, Bool.and_eq_true] at h
       exact ⟨hok _ _ _ hc (h z).1, ih _ _ _ (hca.app _) fun cs => (h cs).2⟩
   | lst xs => exact ih _ _ _ (hca.app _) h
   | push i e => exact ih _ _ _ (hca.app _) h
 | and a b iha ihb => intro k ca env hca h; simp only [Tree.satC, Bool.and_eq_true] at h; exact ⟨iha _ _ _ hca fun cs => (h cs).1, ihb _ _ _ hca fun cs => (h cs).2⟩
 | ok => intro _ _ _ _ _; trivial
 | opn i t k ih => intro k ca env hca h; have := h z; cases this
 | nomore i ts => intro k ca env hca h; have := h z; cases this
 | loop id ne β k ih => intro k ca env hca h; have := h z; cases this
 | back id ne β => intro k ca env hca h; have := h z; cases this
 | viol n => intro k ca env hca h; have := h z; cases this
 | rng t ih =>
   intro k ca env hca h
   simp only [Tree.satC] at h
   intro L
   exact ih _ _ _ (hca.app _) (satC_at (F := fun r => env ++ [.r r.2]) h ([], L))
 | grow i e t ih =>
   intro k ca env hca h
   simp only [Tree.satC, Bool.and_eq_true] at h
   obtain ⟨h0, h1⟩ := roomB_sound hca (h z).1
   simp only at h1
   intro c
   have h2 := satC_at (F := fun r => env ++ [.l ((gL env i).take (e.den env).toNat ++ List.replicate r.1.length 0), .i (((e.den env).toNat + r.1.length : Nat) : Int)]) (fun cs => (h cs).2) (List.replicate c 0, default)
   simp only [List.length_replicate] at h2
   exact ih _ _ _ (hca.cons (by rw [List.length_append, List.length_take, List.length_replicate]; omega) (by omega)) h2
 | app i e x t ih =>
   intro k ca env hca h
   simp only [Tree.satC, Bool.and_eq_true] at h
   obtain ⟨h0, h1⟩ := roomB_sound hca (h z).1
   intro r
   have h2 := satC_at (F := fun r => env ++ [.l ((match i with | none => [] | some i => gL env i).take (e.den env).toNat ++ x.den env :: r.1), .i (((e.den env).toNat + 1 + r.1.length : Nat) : Int)]) (fun cs => (h cs).2) (r, default)
   exact ih _ _ _ (hca.cons (by rw [List.length_append, List.length_take, List.length_cons]; cases i <;> simp only [List.length_nil] at h1 ⊢ <;> omega) (by omega)) h2
 | apps i e xs t ih =>
   intro k ca env hca h
   simp only [Tree.satC, Bool.and_eq_true] at h
   obtain ⟨h0, h1⟩ := roomB_sound hca (h z).1
   intro r
   have h2 := satC_at (F := fun r => env ++ [.l ((match i with | none => [] | some i => gL env i).take (e.den env).toNat ++ xs.map (Ex.den env) ++ r.1), .i (((e.den env).toNat + xs.length + r.1.length : Nat) : Int)]) (fun cs => (h cs).2) (r, default)
   exact ih _ _ _ (hca.cons (by rw [List.length_append, List.length_append, List.length_take, List.length_map]; cases i <;> simp only [List.length_nil] at h1 ⊢ <;> omega) (by omega)) h2
 | appr i e j e2 t ih =>
   intro k ca env hca h
   simp only [Tree.satC, Bool.and_eq_true] at h
   obtain ⟨h0, h1⟩ := roomB_sound hca (h z).1
   obtain ⟨g0, g1⟩ := roomB_sound hca (h z).2.1
   intro r
   have h2 := satC_at (F := fun r => env ++ [.l ((match i with | none => [] | some i => gL env i).take (e.den env).toNat ++ (gL env j).take (e2.den env).toNat ++ r.1), .i (((e.den env).toNat + (e2.den env).toNat + r.1.length : Nat) : Int)]) (fun cs => (h cs).2.2) (r, default)
   exact ih _ _ _ (hca.cons (by rw [List.length_append, List.length_append, List.length_take, List.length_take]; simp only at g1; cases i <;> simp only [List.length_nil] at h1 ⊢ <;> omega) (by omega)) h2
 | fail w => intro k ca env hca h; have := h z; cases this
 | leaf s => intro k ca env hca h; have := h z; cases this
 | fast t ih => intro k ca env hca h; have := h z; cases this
def oneB (o : List (EV U)) : Bool := match o with | [.b x] => x | _ => false
theorem oneB_spec {o : List (EV U)} (h : oneB o = true) : o = [.b true] := by
 unfold oneB at h
 split at h
 · rw [h]
 · cases h
end
open Go Go.RowKit
section
variable {U : Type} [Nil U] {objs : List (ObjT U)} {P : Program} {c : Ctr U}
def isW (x : Int) : Prop := 0 ≤ x ∧ x < 18446744073709551616
def noF : Nat → Prop := fun _ => False
theorem Sat.inputs {W : World} {env : List (EV U)} {ρ : List Value} {hp : List HE} (hl : ρ.length = hp.length) (h : ∀ n e, hp[n]? = some e → (∃ ks i, e = .ro ks i ∧ RoAt W noF env ks i (hv ρ n)) ∨ e = .gone) : Sat objs W noF env ρ hp W := by
 refine ⟨hl, ⟨fun _ _ => False, ⟨fun n e hn => ?_, fun _ _ _ h => h.elim, fun _ _ h => h.elim⟩⟩, ⟨rfl, rfl, rfl, Nat.le_refl _, fun _ _ _ => rfl⟩⟩
 rcases h n e hn with ⟨ks, i, rfl, h⟩ | rfl
 · exact h
 · trivial
theorem Ctr.Holds.law (h : c.Holds objs P) (hret : c.ret = .bool (.var c.nin)) {ins : List (EV U)} {ρ : List Value} {vals : List Value} {W : World} (hn : ins.length = c.nin) (hp : c.pre ins) (ho : c.out ins = [.b true])
 (hd : DenL ins ρ c.args vals) (hs : Sat objs W noF ins ρ c.heap W) (hm : c.many = none := by rfl) (hrel : c.rel = none := by rfl) : Calls P c.fn vals.toArray W fun e W' => e = .returned (.bool true) ∧ Below W.heap.size W W' := by
 refine (h.2.2 ins ρ W vals noF hn hp hd hs).mono ?_
 rintro e W' ⟨r, ρ', outs, hmay, rfl, h1, h2⟩
 simp only [Ctr.may, hm, hrel] at hmay
 subst hmay
 have h3 := h1.1 [] []
 rw [hret, ho] at h3
 simp only [List.append_nil, SV.den, Bx.den, gB] at h3
 rw [List.getElem?_append_right (by omega), hn, Nat.sub_self] at h3
 simp only [List.getElem?_cons_zero] at h3
 refine ⟨by rw [← h3], h2.frame.os, h2.frame.tape, h2.frame.output, h2.frame.size, fun k hk => h2.frame.block k hk id⟩
end
open Go Go.RowKit Go.Deep Go.ChangeShapes Go.WideShapes
def SliceAt (W : World) (ks : List (Option IntKind)) (v : Value) (n c : Nat) (g : Nat → Nat → Int) : Prop :=
 ((v = .slice none 0 0 ∧ n = 0 ∧ c = 0) ∨ ∃ a, v = .slice (some a) n c ∧ a.block < W.heap.size ∧ ∀ j, j < n → ∀ i k, ks[i]? = some k → W.cell? (a.add (j * ks.length + i)) = some (roVal k (g j i))) ∧
   (∀ j, j < n → ∀ i k, ks[i]? = some (some k) → (Lit.int k (g j i)).wf = true) ∧ (n : Int) ≤ IntKind.i64.max
def ptrOf (v : Value) : Value := match v with | .slice p _ _ => .pointer p | _ => .pointer none
def kindsB (P : Program) (fs : Array Field) (ks : List (Option IntKind)) : Bool :=
 fs.size == ks.length && (List.range ks.length).all fun i => match fs[i]?, ks[i]? with
  | some f, some k => f.offset == i && P.cellsOf f.type == 1 && (match P.underlying f.type, k with | some (.int k'), some k => decide (k' = k) | some .bool, none => true | _, _ => false)
  | _, _ => false
theorem slice_at {H : Type} {enc : TypeId × Value → H} {P : Program} {W : World} {r : Reach} {base : Nat} {spare : Nat → Bool} {held : Bool} {t e : TypeId} {fs : Array Field} {ks : List (Option IntKind)} {v : Value} {d : DataW H} {p : List MemPlace}
 (ht : P.underlying t = some (.slice e)) (he : P.underlying e = some (.struct fs)) (hc : P.cellsOf e = ks.length) (hk : kindsB P fs ks = true) (hval : Value.okWide P W r base t v) (h : DataW.Trod enc P W 0 spare held t v d p) :
 ∃ n c g, SliceAt W ks v n c g := by
 obtain ⟨a0, len0, cap0, rfl⟩ := okWide_slice ht hval
 obtain ⟨fuel, hf⟩ := h
 simp only [Value.cells] at hf
 rcases open_slice ht hf with ⟨h0, _⟩ | ⟨a, len, cap, m, q, D, Pl, h0, _, hlc, hcm, hm, _, hel⟩
 · injection h0 with h0 _
   injection h0 with h1 h2 h3
   subst h1 h2 h3
   exact ⟨0, 0, fun _ _ => 0, .inl ⟨rfl, rfl, rfl⟩, fun j hj => absurd hj (Nat.not_lt_zero _), by decide⟩
 · injection h0 with h0 _
   injection h0 with h1 h2 h3
   subst h1 h2 h3
   have hlen : len0 ≤ m := by rw [hm]; split <;> omega
   unfold kindsB at hk
   simp only [Bool.and_eq_true, beq_iff_eq, List.all_eq_true, List.mem_range] at hk
   obtain ⟨hfs, hk⟩ := hk
   have key : ∀ j, j < len0 → ∃ f : Nat → Int, (∀ i k, ks[i]? = some k → W.cell? (a.add (j * ks.length + i)) = some (roVal k (f i))) ∧ ∀ i k, ks[i]? = some (some k) → (Lit.int k (f i)).wf = true := by
    intro j hj
    obtain ⟨cs, hcs, htr⟩ := hel j (Nat.lt_of_lt_of_le hj hlen)
    obtain ⟨_, hl, hcell⟩ := World.cells?_some hcs
    obtain ⟨xs, n, _, _, _, hxl, hfd⟩ := DataW.trod_struct he htr
    have each : ∀ i, ∃ x : Int, ∀ k, ks[i]? = some k → W.cell? (a.add (j * ks.length + i)) = some (roVal k x) ∧ ∀ k', k = some k' → (Lit.int k' x).wf = true := by
     intro i
     by_cases hi : i < ks.length
     · have hk1 := hk i hi
       have hif : i < fs.size := by omega
       rw [Array.getElem?_eq_getElem hif, List.getElem?_eq_getElem hi] at hk1
       simp only [Bool.and_eq_true, beq_iff_eq] at hk1
       obtain ⟨⟨ho, hc1⟩, hk2⟩ := hk1
       have hfi := hfd i _ (Array.getElem?_eq_getElem hif)
       rw [ho, hc1, List.getElem?_eq_getElem (by omega)] at hfi
       rw [take1_drop cs i undef (by omega)] at hfi
       have hce := hcell i (by omega)
       rw [hc, addr_add_add, List.getElem?_eq_getElem (by omega)] at hce
       have hcd : cs.getD i undef = cs[i]'(by omega) := by simp [List.getD, List.getElem?_eq_getElem (show i < cs.length by omega)]
       rw [hcd] at hfi
       split at hk2
       · rename_i k' k hu hkk
         obtain ⟨x, hx, _, hw⟩ := DataW.trod_int hu hfi
         simp only [List.cons.injEq, and_true] at hx
         refine ⟨x, fun k2 h2 => ?_⟩
         have h3 : k2 = some k := by rw [List.getElem?_eq_getElem hi] at h2; injection h2 with h2; rw [← h2, hkk]
         subst h3
         have h4 : k' = k := by simpa using hk2
         subst h4
         exact ⟨by rw [hce, hx]; rfl, fun k3 h3 => by injection h3 with h3; subst h3; exact hw⟩
       · rename_i hu hkk
         obtain ⟨b, hx, _⟩ := DataW.trod_bool hu hfi
         simp only [List.cons.injEq, and_true] at hx
         refine ⟨if b then 1 else 0, fun k2 h2 => ?_⟩
         have h3 : k2 = none := by rw [List.getElem?_eq_getElem hi] at h2; injection h2 with h2; rw [← h2, hkk]
         subst h3
         exact ⟨by rw [hce, hx]; cases b <;> rfl, fun k3 h3 => by cases h3⟩
       · cases hk2
     · exact ⟨0, fun k h => by rw [List.getElem?_eq_none (by omega)] at h; cases h⟩
    exact ⟨fun i => (each i).choose, fun i k h => ((each i).choose_spec k h).1, fun i k h => ((each i).choose_spec _ h).2 k rfl⟩
   have hb : a.block < W.heap.size ∧ (cap0 : Int) ≤ IntKind.i64.max := by
    simp only [Value.okWide, ht, Cell.okWide, Cell.ok] at hval
    obtain ⟨_, hmax, _, _, row, cells, hs, _⟩ := hval
    refine ⟨?_, hmax⟩
    unfold World.shape? at hs
    rcases Nat.lt_or_ge a.block W.heap.size with h' | h'
    · exact h'
    · simp [Array.getElem?_eq_none h'] at hs
   refine ⟨len0, cap0, fun j => if h : j < len0 then (key j h).choose else fun _ => 0, .inr ⟨a, rfl, hb.1, fun j hj i k h => ?_⟩, fun j hj i k h => ?_, by have := hb.2; omega⟩
   · simp only [hj, dif_pos]; exact (key j hj).choose_spec.1 i k h
   · simp only [hj, dif_pos]; exact (key j hj).choose_spec.2 i k h
theorem slice_at1 {H : Type} {enc : TypeId × Value → H} {P : Program} {W : World} {r : Reach} {base : Nat} {spare : Nat → Bool} {held : Bool} {t e : TypeId} {k : IntKind} {v : Value} {d : DataW H} {p : List MemPlace}
 (ht : P.underlying t = some (.slice e)) (he : P.underlying e = some (.int k)) (hc : P.cellsOf e = 1) (hval : Value.okWide P W r base t v) (h : DataW.Trod enc P W 0 spare held t v d p) :
 ∃ n c g, SliceAt W [some k] v n c g := by
 obtain ⟨a0, len0, cap0, rfl⟩ := okWide_slice ht hval
 obtain ⟨fuel, hf⟩ := h
 simp only [Value.cells] at hf
 rcases open_ints ht he hc hf with ⟨h0, _⟩ | ⟨a, len, cap, zs, h0, _, hlc, hcm, hm, _, hel, hwf⟩
 · injection h0 with h0 _
   injection h0 with h1 h2 h3
   subst h1 h2 h3
   exact ⟨0, 0, fun _ _ => 0, .inl ⟨rfl, rfl, rfl⟩, fun j hj => absurd hj (Nat.not_lt_zero _), by decide⟩
 · injection h0 with h0 _
   injection h0 with h1 h2 h3
   subst h1 h2 h3
   have hlen : len0 ≤ zs.length := by rw [hm]; split <;> omega
   have hb : a.block < W.heap.size ∧ (cap0 : Int) ≤ IntKind.i64.max := by
    simp only [Value.okWide, ht, Cell.okWide, Cell.ok] at hval
    obtain ⟨_, hmax, _, _, row, cells, hs, _⟩ := hval
    refine ⟨?_, hmax⟩
    unfold World.shape? at hs
    rcases Nat.lt_or_ge a.block W.heap.size with h' | h'
    · exact h'
    · simp [Array.getElem?_eq_none h'] at hs
   have hget : ∀ j, j < len0 → zs.getD j 0 ∈ zs := fun j hj => by
    have : j < zs.length := by omega
    simp [List.getD, List.getElem?_eq_getElem this]
   refine ⟨len0, cap0, fun j _ => zs.getD j 0, .inr ⟨a, rfl, hb.1, fun j hj i k' hk => ?_⟩, fun j hj i k' hk => ?_, by have := hb.2; omega⟩
   · match i, hk with
     | 0, hk =>
       simp at hk
       subst hk
       simp only [List.length_singleton, Nat.mul_one, Nat.add_zero]
       exact hel j (by omega)
     | i + 1, hk => simp at hk
   · match i, hk with
     | 0, hk =>
       simp at hk
       subst hk
       exact hwf _ (hget j hj)
     | i + 1, hk => simp at hk
section
variable {U : Type} [Nil U]
theorem SliceAt.ro {W : World} {ks : List (Option IntKind)} {v : Value} {n c : Nat} {g : Nat → Nat → Int} (h : SliceAt W ks v n c g) {env : List (EV U)} {i : Nat} (he : env[i]? = some (.f g n)) : RoAt W noF env ks i (ptrOf v) := by
 rcases h.1 with ⟨rfl, rfl, rfl⟩ | ⟨a, rfl, h1, h2⟩
 · exact .inl ⟨rfl, g, he⟩
 · exact .inr ⟨a, g, n, rfl, he, h1, id, h2⟩
theorem SliceAt.den {W : World} {ks : List (Option IntKind)} {v : Value} {n c : Nat} {g : Nat → Nat → Int} (h : SliceAt W ks v n c g) {env : List (EV U)} {ρ : List Value} {j x y : Nat} (hr : hv ρ j = ptrOf v) (hj : j < ρ.length) (hx : env[x]? = some (.i n)) (hy : env[y]? = some (.i c)) :
 Den env ρ (.slice j (.var x) (.var y)) v := by
 have e1 : ∀ (z : Nat) (k : Nat) (xs : List (EV U)), env[z]? = some (.i k) → (Ex.var z).den (env ++ xs) = (k : Int) := fun z k xs hz => by
  simp only [Ex.den, gI]
  rw [List.getElem?_append_left (List.getElem?_eq_some_iff.1 hz).1, hz]
 refine ⟨fun xs ys => ?_, ⟨fun xs => ?_, fun xs => ?_⟩⟩
 · simp only [SV.den]
   rw [hv_app hj, hr, e1 x n xs hx, e1 y c xs hy]
   rcases h.1 with ⟨rfl, rfl, rfl⟩ | ⟨a, rfl, _⟩
   · rfl
   · simp [ptrOf, baseOf]
 · have := e1 x n [] hx; rw [List.append_nil] at this; rw [e1 x n xs hx, this]
 · have := e1 y c [] hy; rw [List.append_nil] at this; rw [e1 y c xs hy, this]
end
section
variable {U : Type} [Nil U] {X : Cx U} {R : List (EV U) → List (EV U) → Prop}
theorem st_br {c : Bx} {t f : Tree} {env : List (EV U)} (ht : c.den env = true → t.sat X R env) (hf : c.den env = false → f.sat X R env) : (Tree.br c t f).sat X R env := ⟨ht, hf⟩
theorem st_need {c : Bx} {k : Tree} {env : List (EV U)} (h : c.den env = true) (hk : k.sat X R env) : (Tree.need c k).sat X R env := ⟨h, hk⟩
theorem st_and {a b : Tree} {env : List (EV U)} (h : a.sat X R env) (hk : b.sat X R env) : (Tree.and a b).sat X R env := ⟨h, hk⟩
theorem st_ok {env : List (EV U)} : Tree.ok.sat X R env := trivial
theorem st_call {ci : Nat} {β : List Bnd} {k : Tree} {env a o env' : List (EV U)} {c : Ctr U} (hc : X.cts[ci]? = some c) (ha : β.map (Bnd.den env) = a) (hp : c.pre a) (ho : c.out a = o) (he : env ++ o = env') (hk : k.sat X R env') : (Tree.call ci β k).sat X R env := by
 subst ha ho he
 simp only [Tree.sat, hc]
 exact ⟨hp, hk⟩
theorem st_callm {ci : Nat} {β : List Bnd} {k : Tree} {env a : List (EV U)} {c : Ctr U} (hc : X.cts[ci]? = some c) (ha : β.map (Bnd.den env) = a) (hp : c.pre a) (hk : ∀ o env', c.may a o → env ++ o = env' → k.sat X R env') : (Tree.callm ci β k).sat X R env := by
 subst ha
 simp only [Tree.sat, hc]
 exact ⟨hp, fun o ho => hk o _ ho rfl⟩
theorem st_ret {β : List Bnd} {env a : List (EV U)} (ha : β.map (Bnd.den env) = a) (h : R env a) : (Tree.ret β).sat X R env := by subst ha; exact h
theorem st_back {id ne : Nat} {β : List Bnd} {env a e0 e1 : List (EV U)} {s : LoopS U} (hs : X.loops[id]? = some s) (ha : β.map (Bnd.den env) = a) (h0 : env.take ne = e0) (h1 : env.take (ne + s.nv) = e1) (hi : s.inv (e0 ++ a)) (hm : s.mu (e0 ++ a) < s.mu e1) : (Tree.back id ne β).sat X R env := by
 subst ha h0 h1
 simp only [Tree.sat, hs]
 exact ⟨hi, hm⟩
theorem st_loop {id ne : Nat} {β : List Bnd} {k : Tree} {env a e0 : List (EV U)} {s : LoopS U} (hs : X.loops[id]? = some s) (ha : β.map (Bnd.den env) = a) (h0 : env.take ne = e0) (hi : s.inv (e0 ++ a)) (hk : ∀ env', s.inv env' → k.sat X R env') : (Tree.loop id ne β k).sat X R env := by
 subst ha h0
 simp only [Tree.sat, hs]
 exact ⟨hi, fun fr _ h => hk _ h⟩
theorem st_mk {t : Nat} {ps : List Bnd} {k : Tree} {env a env' : List (EV U)} {T : ObjT U} (hT : X.objs[t]? = some T) (ha : ps.map (Bnd.den env) = a) (hok : T.ok a) (he : env ++ [.u (T.obj a)] = env') (hk : k.sat X R env') : (Tree.ext (.mk t ps) k).sat X R env := by
 subst ha he
 simp only [Tree.sat, hT]
 exact ⟨hok, hk⟩
theorem st_lst {xs : List Ex} {k : Tree} {env env' : List (EV U)} (he : env ++ [.l (xs.map (Ex.den env))] = env') (hk : k.sat X R env') : (Tree.ext (.lst xs) k).sat X R env := by subst he; exact hk
theorem st_setl {i : Nat} {e x : Ex} {k : Tree} {env env' : List (EV U)} (he : env ++ [.l ((gL env i).set (e.den env).toNat (x.den env))] = env') (hk : k.sat X R env') : (Tree.ext (.setl i e x) k).sat X R env := by subst he; exact hk
end
theorem or_add (k : Nat) (a b : Int) (h0 : 0 ≤ a) (h1 : a < 2 ^ k) (h2 : 0 ≤ b) (h3 : 2 ^ k * b < 18446744073709551616) (h4 : a < 18446744073709551616) :
 bits .or .u64 a (2 ^ k * b) = a + 2 ^ k * b := by
 obtain ⟨x, rfl⟩ := Int.eq_ofNat_of_zero_le h0
 obtain ⟨y, rfl⟩ := Int.eq_ofNat_of_zero_le h2
 have e : (2 : Int) ^ k * (y : Int) = ((2 ^ k * y : Nat) : Int) := by simp
 rw [e] at h3 ⊢
 have h1' : x < 2 ^ k := by
  have e2 : (2 : Int) ^ k = ((2 ^ k : Nat) : Int) := by simp
  rw [e2] at h1; exact Int.ofNat_lt.1 h1
 rw [u64_or_nat x (2 ^ k * y) (by omega) (by omega), Nat.or_comm, ← Nat.two_pow_add_eq_or_of_lt h1']
 omega
theorem and_mod (k : Nat) (a : Int) (hk : k < 64) (h0 : 0 ≤ a) (h1 : a < 18446744073709551616) : bits .and .u64 a (2 ^ k - 1) = a % 2 ^ k := by
 obtain ⟨x, rfl⟩ := Int.eq_ofNat_of_zero_le h0
 have hp : 0 < 2 ^ k := Nat.two_pow_pos k
 have hq : 2 ^ k ≤ 2 ^ 63 := Nat.pow_le_pow_right (by omega) (by omega)
 have e : (2 : Int) ^ k - 1 = ((2 ^ k - 1 : Nat) : Int) := by
  rw [Int.ofNat_sub hp]; simp
 rw [e, u64_and_nat x (2 ^ k - 1) (by omega) (by omega), Nat.and_two_pow_sub_one_eq_mod]
 simp
theorem or_add' (k : Nat) (a b : Int) (h0 : 0 ≤ a) (h1 : a < 2 ^ k) (h2 : 0 ≤ b) (h3 : 2 ^ k * b < 18446744073709551616) (h4 : a < 18446744073709551616) :
 bits .or .u64 (2 ^ k * b) a = 2 ^ k * b + a := by
 obtain ⟨x, rfl⟩ := Int.eq_ofNat_of_zero_le h0
 obtain ⟨y, rfl⟩ := Int.eq_ofNat_of_zero_le h2
 have e : (2 : Int) ^ k * (y : Int) = ((2 ^ k * y : Nat) : Int) := by simp
 rw [e] at h3 ⊢
 have h1' : x < 2 ^ k := by
  have e2 : (2 : Int) ^ k = ((2 ^ k : Nat) : Int) := by simp
  rw [e2] at h1; exact Int.ofNat_lt.1 h1
 rw [u64_or_nat (2 ^ k * y) x (by omega) (by omega), ← Nat.two_pow_add_eq_or_of_lt h1']
 omega
theorem or_zero' (x : Int) (h0 : 0 ≤ x) (h1 : x < 18446744073709551616) : bits .or .u64 0 x = x := by
 obtain ⟨y, rfl⟩ := Int.eq_ofNat_of_zero_le h0
 have := u64_or_nat 0 y (by omega) (by omega)
 simpa using this
end Go.Proofs.Ytbmbiiiacajolaa
