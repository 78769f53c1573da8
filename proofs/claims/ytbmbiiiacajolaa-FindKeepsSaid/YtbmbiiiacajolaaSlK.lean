/- Texts of this proof. -/
import Derived.Test.YtbmbiiiacajolaaShK
import Derived.Laws.Append
import Derived.Laws.AppendOwn
namespace Go.Proofs.Ytbmbiiiacajolaa
set_option linter.unusedVariables false
set_option linter.unusedSimpArgs false
set_option linter.unusedSectionVars false
open Go
section
variable {U : Type} [Nil U]
def CellsAt (env : List (EV U)) (ρ : List Value) (vs : List SV) (ty : TypeId) (v : Value) (w : World) (S : Nat → Prop) : Prop :=
 ∃ b cs, v = .pointer (some ⟨b, 0, none⟩) ∧ DenL env ρ vs cs ∧ w.heap[b]? = some (.cells cs.toArray ty (0, 0)) ∧ S b
def RowAt (env : List (EV U)) (k : IntKind) (ty : TypeId) (i : Nat) (v : Value) (w : World) (S : Nat → Prop) : Prop :=
 (v = .pointer none ∧ env[i]? = some (.l [])) ∨ ∃ b xs, v = .pointer (some ⟨b, 0, none⟩) ∧ env[i]? = some (.l xs) ∧ w.heap[b]? = some (.cells (xs.map (Value.int k)).toArray ty (0, 0)) ∧ S b
def plainH : HE → Bool
 | .ro .. | .sys .. | .sp .. | .mp .. | .kn .. | .kc .. | .rb .. => false
 | _ => true
inductive Rep (objs : List (ObjT U)) (w : World) : U → Value → (Nat → Prop) → Prop
 | mk (t : Nat) (T : ObjT U) (ps : List (EV U)) (ρ : List Value) (Sf : Nat → Nat → Prop) (S : Nat → Prop) (v : Value)
    (ht : objs[t]? = some T) (hn : ps.length = T.nv) (hok : T.ok ps) (hl : ρ.length = T.hp.length)
    (hcell : ∀ (n : Nat) vs ty, T.hp[n]? = some (.cells vs ty) → CellsAt ps ρ vs ty (hv ρ n) w (Sf n))
    (hrow : ∀ (n : Nat) k ty i, T.hp[n]? = some (.row k ty i) → RowAt ps k ty i (hv ρ n) w (Sf n))
    (habs : ∀ (n i : Nat) s, T.hp[n]? = some (.abs i) → ps[i]? = some (.u s) → Rep objs w s (hv ρ n) (Sf n))
    (habs' : ∀ (n i : Nat), T.hp[n]? = some (HE.abs i) → ∃ s, ps[i]? = some (EV.u s))
    (hro : ∀ (n : Nat) h, T.hp[n]? = some h → plainH h = true)
    (disj : ∀ n m x, Sf n x → Sf m x → n = m) (sub : ∀ n x, Sf n x → S x) (inn : ∀ n x, Sf n x → n < T.hp.length)
    (hv' : v = if T.isNil then .pointer none else hv ρ 0) : Rep objs w (T.obj ps) v S
def RoAt (w0 : World) (F : Nat → Prop) (env : List (EV U)) (ks : List (Option IntKind)) (i : Nat) (v : Value) : Prop :=
 (v = .pointer none ∧ ∃ g, env[i]? = some (.f g 0)) ∨ ∃ a g n, v = .pointer (some a) ∧ env[i]? = some (.f g n) ∧ a.block < w0.heap.size ∧ ¬ F a.block ∧
   ∀ j, j < n → ∀ c k, ks[c]? = some k → w0.cell? (a.add (j * ks.length + c)) = some (roVal k (g j c))
def Holds (objs : List (ObjT U)) (w0 : World) (F : Nat → Prop) (env : List (EV U)) (ρ : List Value) (h : HE) (v : Value) (w : World) (S : Nat → Prop) : Prop :=
 match h with
 | .cells vs ty => CellsAt env ρ vs ty v w S
 | .abs i => ∃ s, env[i]? = some (.u s) ∧ Rep objs w s v S
 | .row k ty i => RowAt env k ty i v w S
 | .ro ks i => RoAt w0 F env ks i v
 | .sys i j => ∃ b L, v = .pointer (some ⟨b, 0, none⟩) ∧ env[i]? = some (.r L) ∧ w.heap[b]? = some (objOf L j) ∧ S b
 | .gone => True
 | .sp k ty len xs => ∃ b, v = .pointer (some ⟨b, 0, none⟩) ∧ w.heap[b]? = some (.cells ((spL len xs).map (Value.int k)).toArray ty (0, 0)) ∧ S b
 | .mp i => ∃ b xs, v = .pointer (some ⟨b, 0, none⟩) ∧ env[i]? = some (.l xs) ∧ w.heap[b]? = some (.map (mpE xs).toArray xs.length) ∧ S b
 | .kn k ty xs i => ∃ b r, v = .pointer (some ⟨b, 0, none⟩) ∧ env[i]? = some (.l (xs ++ r)) ∧ w.heap[b]? = some (.cells ((xs ++ r).map (Value.int k)).toArray ty (0, 0)) ∧ S b
 | .kc vs ty sz i => ∃ b cs r, v = .pointer (some ⟨b, 0, none⟩) ∧ DenL env ρ vs cs ∧ (∃ l, env[i]? = some (.l l) ∧ cs.length + r.length = l.length * sz) ∧ w.heap[b]? = some (.cells (cs ++ r).toArray ty (0, 0)) ∧ S b
 | .rb ty i => ∃ b xs, v = .pointer (some ⟨b, 0, none⟩) ∧ env[i]? = some (.l xs) ∧ w.heap[b]? = some (.cells (xs.map rbV).toArray ty (0, 0)) ∧ S b
structure Fr (w0 : World) (F : Nat → Prop) (w : World) : Prop where
 os : w.os = w0.os
 tape : w.tape = w0.tape
 output : w.output = w0.output
 size : w0.heap.size ≤ w.heap.size
 block : ∀ x, x < w0.heap.size → ¬ F x → w.heap[x]? = w0.heap[x]?
structure Own (objs : List (ObjT U)) (w0 : World) (F : Nat → Prop) (env : List (EV U)) (ρ : List Value) (hp : List HE) (w : World) (S : Nat → Nat → Prop) : Prop where
 holds : ∀ n h, hp[n]? = some h → Holds objs w0 F env ρ h (hv ρ n) w (S n)
 disj : ∀ n m x, S n x → S m x → n = m
 dom : ∀ n x, S n x → n < hp.length ∧ x < w.heap.size ∧ (F x ∨ w0.heap.size ≤ x)
structure Sat (objs : List (ObjT U)) (w0 : World) (F : Nat → Prop) (env : List (EV U)) (ρ : List Value) (hp : List HE) (w : World) : Prop where
 len : ρ.length = hp.length
 own : ∃ S, Own objs w0 F env ρ hp w S
 frame : Fr w0 F w
def markOf (ρ : List Value) (n : Nat) : Deferred := { target := .collected (addrOf (hv ρ n)).block, args := #[] }
def DfOk (env : List (EV U)) (ρ : List Value) (p : FuncId × List SV) (d : Deferred) : Prop := ∃ cap : Array Value, d.target = .fn (.func p.1) cap ∧ DenL env ρ p.2 (d.args ++ cap).toList
def DfsOk (env : List (EV U)) (ρ : List Value) : List (FuncId × List SV) → List Deferred → Prop
 | [], [] => True
 | p :: ps, d :: ds => DfOk env ρ p d ∧ DfsOk env ρ ps ds
 | _, _ => False
def TmOk (env : List (EV U)) (ρ : List Value) (tm : Tm) (a : Act) : Prop := TmRel env ρ tm a.tmps ∧ (∃ ds, a.defers = ds ++ tm.mks.map (markOf ρ) ∧ DfsOk env ρ tm.dfs ds) ∧ ∀ n ∈ tm.mks, n < ρ.length
theorem DfsOk.nil {env : List (EV U)} {ρ : List Value} {ds : List Deferred} (h : DfsOk env ρ [] ds) : ds = [] := by
 cases ds with
 | nil => rfl
 | cons d l => exact h.elim
theorem TmOk.plain {env : List (EV U)} {ρ : List Value} {tm : Tm} {a : Act} (h : TmOk env ρ tm a) (hd : tm.dfs = []) : a.defers = tm.mks.map (markOf ρ) := by
 obtain ⟨ds, e, hds⟩ := h.2.1
 rw [hd] at hds
 rw [e, hds.nil]; rfl
theorem TmOk.of {env : List (EV U)} {ρ : List Value} {tm : Tm} {a : Act} (h : TmRel env ρ tm a.tmps) (he : a.defers = tm.mks.map (markOf ρ)) (hm : ∀ n ∈ tm.mks, n < ρ.length) (hd : tm.dfs = []) : TmOk env ρ tm a :=
 ⟨h, ⟨[], by simpa using he, by rw [hd]; trivial⟩, hm⟩
inductive Stk (env : List (EV U)) (ρ : List Value) : List Tm → List Act → Prop
 | nil : Stk env ρ [] []
 | cons {tm : Tm} {a : Act} {l : List Tm} {as : List Act} (h : TmOk env ρ tm a) (t : Stk env ρ l as) : Stk env ρ (tm :: l) (a :: as)
def PcOk (env : List (EV U)) (pc : List (Bx × Bool)) : Prop := ∀ p ∈ pc, DenB env p.1 p.2
structure Conc (objs : List (ObjT U)) (w0 : World) (F : Nat → Prop) (env : List (EV U)) (ρ : List Value) (st : St) (a : Act) (as : List Act) (w : World) : Prop where
 ne : env.length = st.ne
 pc : PcOk env st.pc
 tm : TmOk env ρ st.tm a
 stk : Stk env ρ st.stk as
 sat : Sat objs w0 F env ρ st.hp w
structure ObjsOk (objs : List (ObjT U)) : Prop where
 nil : ∀ (t : Nat) (T : ObjT U), objs[t]? = some T → ∀ ps, T.ok ps → Nil.isNil (T.obj ps) = T.isNil
 nilhp : ∀ (t : Nat) (T : ObjT U), objs[t]? = some T → T.isNil = true → T.hp = []
 noro : ∀ (t : Nat) (T : ObjT U), objs[t]? = some T → ∀ (n : Nat) h, T.hp[n]? = some h → plainH h = true
 root : ∀ (t : Nat) (T : ObjT U), objs[t]? = some T → T.isNil = false → ∃ vs ty, T.hp[0]? = some (.cells vs ty)
variable {objs : List (ObjT U)} {w0 : World} {F : Nat → Prop} {env : List (EV U)} {ρ : List Value} {hp : List HE} {w w' : World} {P : Program}
theorem EStab.ext {e : Ex} (h : EStab env e) (o : List (EV U)) : EStab (env ++ o) e := fun xs => by rw [List.append_assoc, h, h]
mutual
theorem SV.stab_ext (o : List (EV U)) : ∀ {v : SV}, v.stab env → v.stab (env ++ o)
 | .ptrx _ _ _ _, h => by exact EStab.ext h o
 | .slice _ _ _, h => by exact ⟨EStab.ext h.1 o, EStab.ext h.2 o⟩
 | .slicx _ _ _ _, h => by exact ⟨EStab.ext h.1 o, EStab.ext h.2 o⟩
 | .func _ _ _, h => by exact ⟨SV.stabL_ext o h.1, SV.stabL_ext o h.2⟩
 | .agg _, h => by simp only [SV.stab] at h ⊢; exact SV.stabL_ext o h
 | .tuple _, h => by simp only [SV.stab] at h ⊢; exact SV.stabL_ext o h
 | .iface _ _, h => by simp only [SV.stab] at h ⊢; exact SV.stabL_ext o h
 | .int _ _, _ => trivial
 | .bool _, _ => trivial
 | .nilp, _ => trivial
 | .ptr _ _, _ => trivial
 | .hnd _, _ => trivial
 | .nils, _ => trivial
 | .nilf, _ => trivial
 | .rowv _ _, _ => trivial
 | .yld _, _ => trivial
 | .mapv _, _ => trivial
 | .str _, _ => trivial
 | .junk, _ => trivial
theorem SV.stabL_ext (o : List (EV U)) : ∀ {l : List SV}, SV.stabL env l → SV.stabL (env ++ o) l
 | [], _ => trivial
 | _ :: _, h => ⟨SV.stab_ext o h.1, SV.stabL_ext o h.2⟩
end
theorem Den.ext {v : SV} {c : Value} (h : Den env ρ v c) (o : List (EV U)) (r : List Value) : Den (env ++ o) (ρ ++ r) v c :=
 ⟨fun xs ys => by rw [List.append_assoc, List.append_assoc]; exact h.1 _ _, SV.stab_ext o h.2⟩
theorem DenL.ext {l : List SV} {cs : List Value} (h : DenL env ρ l cs) (o : List (EV U)) (r : List Value) : DenL (env ++ o) (ρ ++ r) l cs :=
 ⟨fun xs ys => by rw [List.append_assoc, List.append_assoc]; exact h.1 _ _, SV.stabL_ext o h.2⟩
theorem DenB.ext {b : Bx} {c : Bool} (h : DenB env b c) (o : List (EV U)) : DenB (env ++ o) b c := fun xs => by rw [List.append_assoc]; exact h _
theorem Rel.ext {v : SV} {c : Value} (h : Rel env ρ v c) (o : List (EV U)) (r : List Value) : Rel (env ++ o) (ρ ++ r) v c := h.imp id fun h => h.ext o r
theorem mark_app {n : Nat} (h : n < ρ.length) (r : List Value) : markOf (ρ ++ r) n = markOf ρ n := by unfold markOf; rw [hv_app h]
theorem DfsOk.ext (o : List (EV U)) (r : List Value) : ∀ {ps : List (FuncId × List SV)} {ds : List Deferred}, DfsOk env ρ ps ds → DfsOk (env ++ o) (ρ ++ r) ps ds
 | [], [], _ => trivial
 | _ :: _, _ :: _, ⟨⟨cap, h1, h2⟩, h3⟩ => ⟨⟨cap, h1, h2.ext o r⟩, h3.ext o r⟩
 | [], _ :: _, h => h.elim
 | _ :: _, [], h => h.elim
theorem TmOk.ext {tm : Tm} {a : Act} (h : TmOk env ρ tm a) (o : List (EV U)) (r : List Value) : TmOk (env ++ o) (ρ ++ r) tm a :=
 ⟨⟨h.1.1, fun i => (h.1.2 i).ext o r⟩, (by
   obtain ⟨ds, e, hds⟩ := h.2.1
   exact ⟨ds, by rw [e]; congr 1; exact List.map_congr_left fun n hn => (mark_app (h.2.2 n hn) r).symm, hds.ext o r⟩), fun n hn => by rw [List.length_append]; exact Nat.lt_of_lt_of_le (h.2.2 n hn) (Nat.le_add_right _ _)⟩
theorem Stk.ext {l : List Tm} {as : List Act} (h : Stk env ρ l as) (o : List (EV U)) (r : List Value) : Stk (env ++ o) (ρ ++ r) l as := by
 induction h with
 | nil => exact .nil
 | cons h _ ih => exact .cons (h.ext o r) ih
theorem get_ext {i : Nat} {x : EV U} (h : env[i]? = some x) (o : List (EV U)) : (env ++ o)[i]? = some x := by
 rw [List.getElem?_append_left (List.getElem?_eq_some_iff.1 h).1, h]
theorem Rep.stay {s : U} {v : Value} {S : Nat → Prop} (h : Rep objs w s v S) (hk : ∀ x, S x → w'.heap[x]? = w.heap[x]?) : Rep objs w' s v S := by
 induction h with
 | mk t T ps ρ Sf S v ht hn hok hl hcell hrow habs habs' hro disj sub inn hv' ih =>
   refine .mk t T ps ρ Sf S v ht hn hok hl (fun n vs ty h => ?_) (fun n k ty i h => ?_) (fun n i s h hs => ih n i s h hs fun x hx => hk x (sub n x hx)) habs' hro disj sub inn hv'
   · obtain ⟨b, cs, e1, e2, e3, e4⟩ := hcell n vs ty h
     exact ⟨b, cs, e1, e2, by rw [hk b (sub n b e4)]; exact e3, e4⟩
   · rcases hrow n k ty i h with h | ⟨b, cs, e1, e2, e3, e4⟩
     · exact .inl h
     · exact .inr ⟨b, cs, e1, e2, by rw [hk b (sub n b e4)]; exact e3, e4⟩
theorem Holds.stay {h : HE} {v : Value} {S : Nat → Prop} (hh : Holds objs w0 F env ρ h v w S) (hk : ∀ x, S x → w'.heap[x]? = w.heap[x]?) : Holds objs w0 F env ρ h v w' S := by
 cases h with
 | cells vs ty => obtain ⟨b, cs, e1, e2, e3, e4⟩ := hh; exact ⟨b, cs, e1, e2, by rw [hk b e4]; exact e3, e4⟩
 | row k ty i =>
   rcases hh with h | ⟨b, cs, e1, e2, e3, e4⟩
   · exact .inl h
   · exact .inr ⟨b, cs, e1, e2, by rw [hk b e4]; exact e3, e4⟩
 | abs i => obtain ⟨s, e1, e2⟩ := hh; exact ⟨s, e1, e2.stay hk⟩
 | ro ks i => exact hh
 | sys i j => obtain ⟨b, L, e1, e2, e3, e4⟩ := hh; exact ⟨b, L, e1, e2, by rw [hk b e4]; exact e3, e4⟩
 | gone => trivial
 | sp k ty len xs => obtain ⟨b, e1, e3, e4⟩ := hh; exact ⟨b, e1, by rw [hk b e4]; exact e3, e4⟩
 | mp i => obtain ⟨b, cs, e1, e2, e3, e4⟩ := hh; exact ⟨b, cs, e1, e2, by rw [hk b e4]; exact e3, e4⟩
 | kn k ty xs i => obtain ⟨b, cs, e1, e2, e3, e4⟩ := hh; exact ⟨b, cs, e1, e2, by rw [hk b e4]; exact e3, e4⟩
 | kc vs ty sz i => obtain ⟨b, cs, r, e1, e2, e0, e3, e4⟩ := hh; exact ⟨b, cs, r, e1, e2, e0, by rw [hk b e4]; exact e3, e4⟩
 | rb ty i => obtain ⟨b, cs, e1, e2, e3, e4⟩ := hh; exact ⟨b, cs, e1, e2, by rw [hk b e4]; exact e3, e4⟩
theorem Holds.ext {h : HE} {v : Value} {S : Nat → Prop} (hh : Holds objs w0 F env ρ h v w S) (o : List (EV U)) (r : List Value) : Holds objs w0 F (env ++ o) (ρ ++ r) h v w S := by
 cases h with
 | cells vs ty => obtain ⟨b, cs, e1, e2, e3, e4⟩ := hh; exact ⟨b, cs, e1, e2.ext o r, e3, e4⟩
 | row k ty i =>
   rcases hh with ⟨e1, e2⟩ | ⟨b, cs, e1, e2, e3, e4⟩
   · exact .inl ⟨e1, get_ext e2 o⟩
   · exact .inr ⟨b, cs, e1, get_ext e2 o, e3, e4⟩
 | abs i => obtain ⟨s, e1, e2⟩ := hh; exact ⟨s, get_ext e1 o, e2⟩
 | ro ks i =>
   rcases hh with ⟨e1, g, e2⟩ | ⟨a, g, n, e1, e2, e3⟩
   · exact .inl ⟨e1, g, get_ext e2 o⟩
   · exact .inr ⟨a, g, n, e1, get_ext e2 o, e3⟩
 | sys i j => obtain ⟨b, L, e1, e2, e3⟩ := hh; exact ⟨b, L, e1, get_ext e2 o, e3⟩
 | gone => trivial
 | sp k ty len xs => exact hh
 | mp i => obtain ⟨b, cs, e1, e2, e3, e4⟩ := hh; exact ⟨b, cs, e1, get_ext e2 o, e3, e4⟩
 | kn k ty xs i => obtain ⟨b, cs, e1, e2, e3, e4⟩ := hh; exact ⟨b, cs, e1, get_ext e2 o, e3, e4⟩
 | kc vs ty sz i => obtain ⟨b, cs, r', e1, e2, ⟨l, e0, e5⟩, e3, e4⟩ := hh; exact ⟨b, cs, r', e1, e2.ext o r, ⟨l, get_ext e0 o, e5⟩, e3, e4⟩
 | rb ty i => obtain ⟨b, cs, e1, e2, e3, e4⟩ := hh; exact ⟨b, cs, e1, get_ext e2 o, e3, e4⟩
theorem Rep.isPtr (ho : ObjsOk objs) {s : U} {v : Value} {S : Nat → Prop} (h : Rep objs w s v S) : (Nil.isNil s = true → v = .pointer none) ∧ (Nil.isNil s = false → ∃ a, v = .pointer (some a)) := by
 cases h with
 | mk t T ps ρ Sf S v ht hn hok hl hcell hrow habs habs' hro disj sub inn hv' =>
   rw [ho.nil t T ht ps hok]
   refine ⟨fun h => by rw [hv', if_pos h], fun h => ?_⟩
   rw [hv', if_neg (by simp [h])]
   obtain ⟨vs, ty, h0⟩ := ho.root t T ht h
   obtain ⟨b, cs, e1, _⟩ := hcell 0 vs ty h0
   exact ⟨_, e1⟩
theorem Sat.reads (ho : ObjsOk objs) (h : Sat objs w0 F env ρ hp w) : Reads env ρ hp w := by
 intro n e hn
 obtain ⟨S, hS⟩ := h.own
 refine ⟨by rw [h.len]; exact (List.getElem?_eq_some_iff.1 hn).1, ?_⟩
 have hh := hS.holds n e hn
 cases e with
 | cells vs ty => obtain ⟨b, cs, e1, e2, e3, e4⟩ := hh; exact ⟨b, cs, e1, e2, e3⟩
 | row k ty i =>
   rcases hh with h | ⟨b, cs, e1, e2, e3, e4⟩
   · exact .inl h
   · exact .inr ⟨b, cs, e1, e2, e3⟩
 | abs i => obtain ⟨s, e1, e2⟩ := hh; exact ⟨s, e1, e2.isPtr ho⟩
 | ro ks i =>
   rcases hh with h | ⟨a, g, m, e1, e2, e3, e4, e5⟩
   · exact .inl h
   exact .inr ⟨a, g, m, e1, e2, fun j hj c k hk => by
    rw [← e5 j hj c k hk]
    have hb : (a.add (j * ks.length + c)).block = a.block := by unfold Addr.add; split <;> rfl
    exact World.cell?_of_block (w := w0) (by rw [hb]; exact h.frame.block _ e3 e4)⟩
 | sys i j => trivial
 | gone => trivial
 | sp k ty len xs => obtain ⟨b, e1, e3, e4⟩ := hh; exact ⟨b, e1, e3⟩
 | mp i => obtain ⟨b, cs, e1, e2, e3, e4⟩ := hh; exact ⟨b, cs, e1, e2, e3⟩
 | kn k ty xs i => obtain ⟨b, cs, e1, e2, e3, e4⟩ := hh; exact ⟨b, cs, e1, e2, e3⟩
 | kc vs ty sz i => obtain ⟨b, cs, r, e1, e2, e0, e3, e4⟩ := hh; exact ⟨b, cs, r, e1, e2, e3⟩
 | rb ty i => obtain ⟨b, cs, e1, e2, e3, e4⟩ := hh; exact ⟨b, cs, e1, e2, e3⟩
theorem PcOk.ext {pc : List (Bx × Bool)} (h : PcOk env pc) (o : List (EV U)) : PcOk (env ++ o) pc := fun p hp => (h p hp).ext o
theorem Conc.ext {st : St} {a : Act} {as : List Act} (h : Conc objs w0 F env ρ st a as w) (o : List (EV U)) : Conc objs w0 F (env ++ o) ρ { st with ne := st.ne + o.length } a as w := by
 obtain ⟨S, hS⟩ := h.sat.own
 refine ⟨by simp [h.ne], h.pc.ext o, by simpa using h.tm.ext o [], by simpa using h.stk.ext o [], h.sat.len, ⟨S, fun n e hn => by simpa using (hS.holds n e hn).ext o [], hS.disj, hS.dom⟩, h.sat.frame⟩
theorem Fr.same (h : Fr w0 F w) (ho : w'.os = w.os) (ht : w'.tape = w.tape) (hu : w'.output = w.output) (hh : w'.heap = w.heap) : Fr w0 F w' :=
 ⟨ho.trans h.os, ht.trans h.tape, hu.trans h.output, by rw [hh]; exact h.size, by rw [hh]; exact h.block⟩
theorem Conc.drewn {st : St} {a : Act} {as : List Act} (h : Conc objs w0 F env ρ st a as w) (n : Nat) : Conc objs w0 F env ρ st a as { w with drawn := n } := by
 obtain ⟨S, hS⟩ := h.sat.own
 exact ⟨h.ne, h.pc, h.tm, h.stk, h.sat.len, ⟨S, fun n e hn => (hS.holds n e hn).stay fun _ _ => rfl, hS.disj, hS.dom⟩, h.sat.frame.same rfl rfl rfl rfl⟩
theorem blt_true {a b : Nat} (h : Nat.blt a b = true) : a < b := Nat.le_of_ble_eq_true h
theorem blt_false {a b : Nat} (h : Nat.blt a b = false) : b ≤ a := by
 rcases Nat.lt_or_ge a b with h' | h'
 · have : Nat.blt a b = true := Nat.ble_eq_true_of_le h'
   rw [h] at this; cases this
 · exact h'
theorem Tm.set_mks (m : Tm) (i : Nat) (v : SV) : (m.set i v).mks = m.mks := by unfold Tm.set; split <;> rfl
theorem Tm.set_dfs (m : Tm) (i : Nat) (v : SV) : (m.set i v).dfs = m.dfs := by unfold Tm.set; split <;> rfl
theorem Tm.set_len (m : Tm) (i : Nat) (v : SV) : (m.set i v).len = m.len := by unfold Tm.set; split <;> rfl
theorem TmRel.set {tm : Tm} {tmps : Array Value} (h : TmRel env ρ tm tmps) (d : Nat) {v : SV} {c : Value} (hr : Rel env ρ v c) : TmRel env ρ (tm.set d v) (tmps.setIfInBounds d c) := by
 refine ⟨by rw [Tm.set_len]; simp [h.1], fun i => ?_⟩
 unfold Tm.set
 split
 · rename_i hb
   have hlt := blt_true hb
   have hlt2 : d < tmps.size := by rw [← h.1]; exact hlt
   by_cases hi : d = i
   · subst hi
     rcases (Tr.get_set tm.t d d v).1 rfl with e | e
     · simp only [Tm.getD, e]
       simpa [hlt2] using hr
     · simp only [Tm.getD, e]; exact .inl rfl
   · simp only [Tm.getD, (Tr.get_set tm.t d i v).2 hi]
     have := h.2 i
     simpa [Tm.getD, Array.getElem?_setIfInBounds_ne hi] using this
 · rename_i hb
   have hge : ¬ d < tmps.size := by have := blt_false hb; rw [← h.1]; omega
   have := h.2 i
   rwa [Array.setIfInBounds_eq_of_size_le (by omega)]
theorem TmOk.put {tm : Tm} {a : Act} (h : TmOk env ρ tm a) (d : Option Tmp) {v : SV} {c : Value} (hr : Rel env ρ v c) :
 TmOk env ρ (match d with | some d => tm.set d v | none => tm) (a.put d c) := by
 cases d with
 | none => exact h
 | some d => exact ⟨h.1.set d hr, by rw [Tm.set_mks, Tm.set_dfs]; exact h.2.1, by rw [Tm.set_mks]; exact h.2.2⟩
theorem Conc.put {st : St} {a : Act} {as : List Act} (h : Conc objs w0 F env ρ st a as w) (d : Option Tmp) {v : SV} {c : Value} (hr : Rel env ρ v c) : Conc objs w0 F env ρ (st.put d v) (a.put d c) as w := by
 have := h.tm.put d hr
 cases d with
 | none => exact h
 | some d => exact ⟨h.ne, h.pc, this, h.stk, h.sat⟩
end
section
variable {U : Type} [Nil U]
def Tree.sat (X : Cx U) (R : List (EV U) → List (EV U) → Prop) : Tree → List (EV U) → Prop
 | .ret β, env => R env (β.map (Bnd.den env))
 | .br c t f, env => (c.den env = true → t.sat X R env) ∧ (c.den env = false → f.sat X R env)
 | .need c k, env => c.den env = true ∧ k.sat X R env
 | .call ci β k, env =>
   match X.cts[ci]? with
   | some c => c.pre (β.map (Bnd.den env)) ∧ k.sat X R (env ++ c.out (β.map (Bnd.den env)))
   | none => False
 | .callm ci β k, env =>
   match X.cts[ci]? with
   | some c => c.pre (β.map (Bnd.den env)) ∧ ∀ o, c.may (β.map (Bnd.den env)) o → k.sat X R (env ++ o)
   | none => False
 | .ext d k, env =>
   match d with
   | .setl i e x => k.sat X R (env ++ [.l ((gL env i).set (e.den env).toNat (x.den env))])
   | .repl n x => k.sat X R (env ++ [.l (List.replicate (n.den env).toNat (x.den env))])
   | .mk t ps =>
     match X.objs[t]? with
     | some T => T.ok (ps.map (Bnd.den env)) ∧ k.sat X R (env ++ [.u (T.obj (ps.map (Bnd.den env)))])
     | none => False
   | .lst xs => k.sat X R (env ++ [.l (xs.map (Ex.den env))])
   | .push i e => k.sat X R (env ++ [.l (gL env i ++ [e.den env])])
 | .and a b, env => a.sat X R env ∧ b.sat X R env
 | .ok, _ => True
 | .opn i t k, env =>
   match X.objs[t]? with
   | some T => ∀ ps, ps.length = T.nv → T.ok ps → env[i]? = some (.u (T.obj ps)) → k.sat X R (env ++ ps)
   | none => False
 | .nomore i ts, env => ∀ t T ps, X.objs[t]? = some T → t ∉ ts → ps.length = T.nv → T.ok ps → env[i]? ≠ some (.u (T.obj ps))
 | .loop id ne β k, env =>
   match X.loops[id]? with
   | some s => s.inv (env.take ne ++ β.map (Bnd.den env)) ∧ ∀ fr, fr.length = s.nv → s.inv (env.take ne ++ fr) → k.sat X R (env.take ne ++ fr)
   | none => False
 | .back id ne β, env =>
   match X.loops[id]? with
   | some s => s.inv (env.take ne ++ β.map (Bnd.den env)) ∧ s.mu (env.take ne ++ β.map (Bnd.den env)) < s.mu (env.take (ne + s.nv))
   | none => False
 | .viol _, _ => False
 | .rng k, env => ∀ L, k.sat X R (env ++ [.r L])
 | .grow i e k, env => ∀ c : Nat, k.sat X R (env ++ [.l ((gL env i).take (e.den env).toNat ++ List.replicate c 0), .i (((e.den env).toNat + c : Nat) : Int)])
 | .app i e x k, env => ∀ r : List Int, k.sat X R (env ++ [.l ((match i with | none => [] | some i => gL env i).take (e.den env).toNat ++ x.den env :: r), .i (((e.den env).toNat + 1 + r.length : Nat) : Int)])
 | .apps i e xs k, env => ∀ r : List Int, k.sat X R (env ++ [.l ((match i with | none => [] | some i => gL env i).take (e.den env).toNat ++ xs.map (Ex.den env) ++ r), .i (((e.den env).toNat + xs.length + r.length : Nat) : Int)])
 | .appr i e j e2 k, env => ∀ r : List Int, k.sat X R (env ++ [.l ((match i with | none => [] | some i => gL env i).take (e.den env).toNat ++ (gL env j).take (e2.den env).toNat ++ r), .i (((e.den env).toNat + (e2.den env).toNat + r.length : Nat) : Int)])
 | .fail _, _ => False
 | .leaf _, _ => False
 | .fast _, _ => False
def Callable (P : Program) (g : FuncId) : Prop := ∃ fn c, P.funcs[g]? = some fn ∧ fn.body = some c ∧ (fn.name == "runtime.NumGoroutine") = false
def ArgsRel (env : List (EV U)) (ρ : List Value) (args : List SV) (vals : List Value) : Prop := args.length = vals.length ∧ ∀ i, Rel env ρ (args.getD i .junk) (vals.getD i undef)
def Pfx (pr : List (EV U) × List Value) (env : List (EV U)) (ρ : List Value) : Prop := pr.1 <+: env ∧ pr.2 <+: ρ
theorem Pfx.env {pr : List (EV U) × List Value} {env : List (EV U)} {ρ : List Value} (h : Pfx pr env ρ) (o : List (EV U)) : Pfx pr (env ++ o) ρ := ⟨h.1.trans (List.prefix_append _ _), h.2⟩
theorem Pfx.rho {pr : List (EV U) × List Value} {env : List (EV U)} {ρ : List Value} (h : Pfx pr env ρ) (r : List Value) : Pfx pr env (ρ ++ r) := ⟨h.1, h.2.trans (List.prefix_append _ _)⟩
theorem Pfx.trans {b p : List (EV U) × List Value} {env : List (EV U)} {ρ : List Value} (h : Pfx b p.1 p.2) (h' : Pfx p env ρ) : Pfx b env ρ := ⟨h.1.trans h'.1, h.2.trans h'.2⟩
def InlOk (X : Cx U) (R : List (EV U) → List (EV U) → Prop) (w0 : World) (F : Nat → Prop) (base : List (EV U) × List Value) (inl : FuncId → List SV → St → (SV → St → Tree) → Tree) : Prop :=
 ∀ (pre : List (EV U) × List Value) g args st K env ρ a as w vals (N : Value → World → Prop), Pfx base pre.1 pre.2 → Pfx pre env ρ → Conc X.objs w0 F env ρ st a as w → ArgsRel env ρ args vals →
   (∀ v st' env' ρ' c w', Pfx pre env' ρ' → Conc X.objs w0 F env' ρ' st' a as w' → Rel env' ρ' v c → (K v st').sat X R env' → N c w') → (inl g args st K).sat X R env →
   Callable X.P g ∧ Calls X.P g vals.toArray w fun e w' => ∃ c, e = .returned c ∧ N c w'
variable {X : Cx U} {R : List (EV U) → List (EV U) → Prop} {w0 : World} {F : Nat → Prop} {env : List (EV U)} {ρ : List Value} {hp : List HE} {w w' : World}
theorem needs_sat {ns : List Bx} {k : Tree} (h : (needs ns k).sat X R env) : (∀ b ∈ ns, b.den env = true) ∧ k.sat X R env := by
 induction ns with
 | nil => exact ⟨by simp, h⟩
 | cons b ns ih =>
   simp only [needs] at h
   split at h
   · exact absurd h.1 (by simp [Bx.den])
   obtain ⟨h1, h2⟩ := h
   obtain ⟨h3, h4⟩ := ih h2
   refine ⟨fun c hc => ?_, h4⟩
   rcases List.mem_cons.1 hc with rfl | hc
   · exact h1
   · exact h3 c hc
variable {objs : List (ObjT U)}
theorem Own.update {S : Nat → Nat → Prop} (hS : Own objs w0 F env ρ hp w S) (n : Nat) (h' : HE) (hn : n < hp.length) (hblk : ∀ x, ¬ S n x → w'.heap[x]? = w.heap[x]?) (hsize : w'.heap.size = w.heap.size)
 (hh : Holds objs w0 F env ρ h' (hv ρ n) w' (S n)) : Own objs w0 F env ρ (hp.set n h') w' S := by
 refine ⟨fun m e hm => ?_, hS.disj, fun m x hx => by rw [List.length_set, hsize]; exact hS.dom m x hx⟩
 by_cases hmn : n = m
 · subst hmn
   simp only [List.getElem?_set_self hn, Option.some.injEq] at hm
   subst hm
   exact hh
 · rw [List.getElem?_set_ne hmn] at hm
   exact (hS.holds m e hm).stay fun x hx => hblk x fun hx' => hmn (hS.disj n m x hx' hx)
theorem Fr.update {S : Nat → Nat → Prop} (hS : Own objs w0 F env ρ hp w S) (hf : Fr w0 F w) (n : Nat) (hblk : ∀ x, ¬ S n x → w'.heap[x]? = w.heap[x]?) (hsize : w'.heap.size = w.heap.size)
 (ho : w'.os = w.os) (ht : w'.tape = w.tape) (hu : w'.output = w.output) : Fr w0 F w' :=
 ⟨ho.trans hf.os, ht.trans hf.tape, hu.trans hf.output, by rw [hsize]; exact hf.size, fun x hx hF => by
   rw [hblk x fun hx' => ?_]
   · exact hf.block x hx hF
   · rcases (hS.dom n x hx').2.2 with h | h
     · exact hF h
     · omega⟩
theorem hv_len (ρ : List Value) (v : Value) : hv (ρ ++ [v]) ρ.length = v := by simp [hv]
theorem Own.push {S : Nat → Nat → Prop} (hS : Own objs w0 F env ρ hp w S) (hl : ρ.length = hp.length) (hf : Fr w0 F w) (o : Obj) (h' : HE) (v : Value)
 (hh : Holds objs w0 F env (ρ ++ [v]) h' v (w.alloc o) (· = w.heap.size)) : Own objs w0 F env (ρ ++ [v]) (hp ++ [h']) (w.alloc o) (fun m x => if m = hp.length then x = w.heap.size else S m x) := by
 have old : ∀ m x, S m x → x < w.heap.size := fun m x hx => (hS.dom m x hx).2.1
 refine ⟨fun m e hm => ?_, fun n m x h1 h2 => ?_, fun m x hx => ?_⟩
 · by_cases hmn : m = hp.length
   · subst hmn
     simp at hm
     subst hm
     simp only [if_true]
     rw [← hl, hv_len]
     exact hh
   · have hlt : m < hp.length := by
      have := (List.getElem?_eq_some_iff.1 hm).1
      simp at this; omega
     rw [List.getElem?_append_left hlt] at hm
     have h1 := (hS.holds m e hm).ext [] [v]
     rw [List.append_nil] at h1
     rw [hv_app (by omega)]
     have h2 := h1.stay (w' := w.alloc o) fun x hx => Go.RowKit.Below.heap_alloc w o x (old m x hx)
     have hfun : (fun x => if m = hp.length then x = w.heap.size else S m x) = S m := by funext x; rw [if_neg hmn]
     rw [hfun]
     exact h2
 · skip
   by_cases hn : n = hp.length
   · rw [if_pos hn] at h1
     by_cases hm : m = hp.length
     · rw [hn, hm]
     · rw [if_neg hm] at h2; have := old m x h2; omega
   · rw [if_neg hn] at h1
     by_cases hm : m = hp.length
     · rw [if_pos hm] at h2; have := old n x h1; omega
     · rw [if_neg hm] at h2; exact hS.disj n m x h1 h2
 · simp only [List.length_append, List.length_singleton, World.size_alloc]
   by_cases hm : m = hp.length
   · rw [if_pos hm] at hx
     exact ⟨by omega, by omega, .inr (by have := hf.size; omega)⟩
   · rw [if_neg hm] at hx
     obtain ⟨h1, h2, h3⟩ := hS.dom m x hx
     exact ⟨by omega, by omega, h3⟩
theorem Fr.alloc (hf : Fr w0 F w) (o : Obj) : Fr w0 F (w.alloc o) :=
 ⟨hf.os, hf.tape, hf.output, by have := hf.size; simp; omega, fun x hx hF => by rw [Go.RowKit.Below.heap_alloc w o x (by have := hf.size; omega)]; exact hf.block x hx hF⟩
theorem Conc.alloc {st : St} {a : Act} {as : List Act} (h : Conc objs w0 F env ρ st a as w) {vs : List SV} {cs : List Value} (ty : TypeId) (hd : DenL env ρ vs cs) :
 Conc objs w0 F env (ρ ++ [.pointer (some ⟨w.heap.size, 0, none⟩)]) { st with hp := st.hp ++ [HE.cells vs ty] } a as (w.alloc (.cells cs.toArray ty)) := by
 obtain ⟨S, hS⟩ := h.sat.own
 refine ⟨h.ne, h.pc, by simpa using h.tm.ext [] [_], by simpa using h.stk.ext [] [_], by simp [h.sat.len], ⟨_, hS.push h.sat.len h.sat.frame _ (.cells vs ty) _ ⟨_, cs, rfl, by simpa using hd.ext [] [_], heap_alloc_new w _, rfl⟩⟩, h.sat.frame.alloc _⟩
theorem Conc.allocRow {st : St} {a : Act} {as : List Act} (h : Conc objs w0 F env ρ st a as w) (k : IntKind) (ty : TypeId) {i : Nat} {xs : List Int} (hi : env[i]? = some (.l xs)) :
 Conc objs w0 F env (ρ ++ [.pointer (some ⟨w.heap.size, 0, none⟩)]) { st with hp := st.hp ++ [HE.row k ty i] } a as (w.alloc (.cells (xs.map (Value.int k)).toArray ty)) := by
 obtain ⟨S, hS⟩ := h.sat.own
 refine ⟨h.ne, h.pc, by simpa using h.tm.ext [] [_], by simpa using h.stk.ext [] [_], by simp [h.sat.len], ⟨_, hS.push h.sat.len h.sat.frame _ (.row k ty i) _ (.inr ⟨_, xs, rfl, hi, heap_alloc_new w _, rfl⟩)⟩, h.sat.frame.alloc _⟩
theorem Conc.allocRb {st : St} {a : Act} {as : List Act} (h : Conc objs w0 F env ρ st a as w) (ty : TypeId) {i : Nat} {xs : List Int} (hi : env[i]? = some (.l xs)) :
 Conc objs w0 F env (ρ ++ [.pointer (some ⟨w.heap.size, 0, none⟩)]) { st with hp := st.hp ++ [HE.rb ty i] } a as (w.alloc (.cells (xs.map rbV).toArray ty)) := by
 obtain ⟨S, hS⟩ := h.sat.own
 refine ⟨h.ne, h.pc, by simpa using h.tm.ext [] [_], by simpa using h.stk.ext [] [_], by simp [h.sat.len], ⟨_, hS.push h.sat.len h.sat.frame _ (.rb ty i) _ ⟨_, xs, rfl, hi, heap_alloc_new w _, rfl⟩⟩, h.sat.frame.alloc _⟩
theorem Conc.allocSp {st : St} {a : Act} {as : List Act} (h : Conc objs w0 F env ρ st a as w) (k : IntKind) (ty : TypeId) (len : Nat) (xs : List (Nat × Int)) :
 Conc objs w0 F env (ρ ++ [.pointer (some ⟨w.heap.size, 0, none⟩)]) { st with hp := st.hp ++ [HE.sp k ty len xs] } a as (w.alloc (.cells ((spL len xs).map (Value.int k)).toArray ty)) := by
 obtain ⟨S, hS⟩ := h.sat.own
 refine ⟨h.ne, h.pc, by simpa using h.tm.ext [] [_], by simpa using h.stk.ext [] [_], by simp [h.sat.len], ⟨_, hS.push h.sat.len h.sat.frame _ (.sp k ty len xs) _ ⟨_, rfl, heap_alloc_new w _, rfl⟩⟩, h.sat.frame.alloc _⟩
theorem Conc.allocMp {st : St} {a : Act} {as : List Act} (h : Conc objs w0 F env ρ st a as w) {i : Nat} {xs : List Int} (hi : env[i]? = some (.l xs)) :
 Conc objs w0 F env (ρ ++ [.pointer (some ⟨w.heap.size, 0, none⟩)]) { st with hp := st.hp ++ [HE.mp i] } a as (w.alloc (.map (mpE xs).toArray xs.length)) := by
 obtain ⟨S, hS⟩ := h.sat.own
 refine ⟨h.ne, h.pc, by simpa using h.tm.ext [] [_], by simpa using h.stk.ext [] [_], by simp [h.sat.len], ⟨_, hS.push h.sat.len h.sat.frame _ (.mp i) _ ⟨_, xs, rfl, hi, heap_alloc_new w _, rfl⟩⟩, h.sat.frame.alloc _⟩
theorem newptr_den {w : World} {st : St} (h : ρ.length = st.hp.length) : Den env (ρ ++ [Value.pointer (some ⟨w.heap.size, 0, none⟩)]) (.ptr st.hp.length 0) (.pointer (some ⟨w.heap.size, 0, none⟩)) := by
 have := ptr_den (env := env) (ρ := ρ ++ [Value.pointer (some ⟨w.heap.size, 0, none⟩)]) (n := st.hp.length) 0 (by simp [h])
 rw [← h, hv_len] at this
 rw [← h]
 simpa [addrOf, Addr.add] using this
theorem Conc.setCells {st : St} {a : Act} {as : List Act} (h : Conc objs w0 F env ρ st a as w) {n : Nat} {vs vs' : List SV} {ty : TypeId} {cs' : List Value} {b : Nat} (hn : st.hp[n]? = some (.cells vs ty))
 (hb : hv ρ n = .pointer (some ⟨b, 0, none⟩)) (hd : DenL env ρ vs' cs') : Conc objs w0 F env ρ { st with hp := st.hp.set n (.cells vs' ty) } a as (w.setRow b cs'.toArray) := by
 obtain ⟨S, hS⟩ := h.sat.own
 obtain ⟨b', cs, e1, e2, e3, e4⟩ := hS.holds n _ hn
 rw [hb] at e1; injection e1 with e1; injection e1 with e1; injection e1 with e1; subst e1
 have hblk : ∀ x, ¬ S n x → (w.setRow b cs'.toArray).heap[x]? = w.heap[x]? := fun x hx => setRow_other w b x _ (fun e => hx (e ▸ e4))
 refine ⟨h.ne, h.pc, h.tm, h.stk, by simp [h.sat.len], ⟨S, hS.update n _ (List.getElem?_eq_some_iff.1 hn).1 hblk (size_setRow w b _) ⟨b, cs', hb, hd, setRow_heap w b cs.toArray _ ty _ e3, e4⟩⟩, Fr.update hS h.sat.frame n hblk (size_setRow w b _) rfl rfl rfl⟩
theorem Conc.setSp {st : St} {a : Act} {as : List Act} (h : Conc objs w0 F env ρ st a as w) {n len : Nat} {k : IntKind} {ty : TypeId} {xs ys : List (Nat × Int)} {b : Nat} (hn : st.hp[n]? = some (.sp k ty len xs))
 (hb : hv ρ n = .pointer (some ⟨b, 0, none⟩)) : Conc objs w0 F env ρ { st with hp := st.hp.set n (.sp k ty len ys) } a as (w.setRow b ((spL len ys).map (Value.int k)).toArray) := by
 obtain ⟨S, hS⟩ := h.sat.own
 obtain ⟨b', e1, e3, e4⟩ := hS.holds n _ hn
 rw [hb] at e1; injection e1 with e1; injection e1 with e1; injection e1 with e1; subst e1
 have hblk : ∀ x, ¬ S n x → (w.setRow b ((spL len ys).map (Value.int k)).toArray).heap[x]? = w.heap[x]? := fun x hx => setRow_other w b x _ (fun e => hx (e ▸ e4))
 refine ⟨h.ne, h.pc, h.tm, h.stk, by simp [h.sat.len], ⟨S, hS.update n _ (List.getElem?_eq_some_iff.1 hn).1 hblk (size_setRow w b _) ⟨b, hb, setRow_heap w b _ _ ty _ e3, e4⟩⟩, Fr.update hS h.sat.frame n hblk (size_setRow w b _) rfl rfl rfl⟩
theorem Conc.setRow' {st : St} {a : Act} {as : List Act} (h : Conc objs w0 F env ρ st a as w) {n i j : Nat} {k : IntKind} {ty : TypeId} {xs : List Int} {b : Nat} (hn : st.hp[n]? = some (.row k ty i))
 (hb : hv ρ n = .pointer (some ⟨b, 0, none⟩)) (hj : env[j]? = some (.l xs)) : Conc objs w0 F env ρ { st with hp := st.hp.set n (.row k ty j) } a as (w.setRow b (xs.map (Value.int k)).toArray) := by
 obtain ⟨S, hS⟩ := h.sat.own
 rcases hS.holds n _ hn with ⟨e1, _⟩ | ⟨b', cs, e1, e2, e3, e4⟩
 · rw [hb] at e1; cases e1
 rw [hb] at e1; injection e1 with e1; injection e1 with e1; injection e1 with e1; subst e1
 have hblk : ∀ x, ¬ S n x → (w.setRow b (xs.map (Value.int k)).toArray).heap[x]? = w.heap[x]? := fun x hx => setRow_other w b x _ (fun e => hx (e ▸ e4))
 refine ⟨h.ne, h.pc, h.tm, h.stk, by simp [h.sat.len], ⟨S, hS.update n _ (List.getElem?_eq_some_iff.1 hn).1 hblk (size_setRow w b _) (.inr ⟨b, xs, hb, hj, setRow_heap w b _ _ ty _ e3, e4⟩)⟩, Fr.update hS h.sat.frame n hblk (size_setRow w b _) rfl rfl rfl⟩
theorem Conc.setRb {st : St} {a : Act} {as : List Act} (h : Conc objs w0 F env ρ st a as w) {n i j : Nat} {ty : TypeId} {xs : List Int} {b : Nat} (hn : st.hp[n]? = some (.rb ty i))
 (hb : hv ρ n = .pointer (some ⟨b, 0, none⟩)) (hj : env[j]? = some (.l xs)) : Conc objs w0 F env ρ { st with hp := st.hp.set n (.rb ty j) } a as (w.setRow b (xs.map rbV).toArray) := by
 obtain ⟨S, hS⟩ := h.sat.own
 obtain ⟨b', cs, e1, e2, e3, e4⟩ := hS.holds n _ hn
 rw [hb] at e1; injection e1 with e1; injection e1 with e1; injection e1 with e1; subst e1
 have hblk : ∀ x, ¬ S n x → (w.setRow b (xs.map rbV).toArray).heap[x]? = w.heap[x]? := fun x hx => setRow_other w b x _ (fun e => hx (e ▸ e4))
 refine ⟨h.ne, h.pc, h.tm, h.stk, by simp [h.sat.len], ⟨S, hS.update n _ (List.getElem?_eq_some_iff.1 hn).1 hblk (size_setRow w b _) ⟨b, xs, hb, hj, setRow_heap w b _ _ ty _ e3, e4⟩⟩, Fr.update hS h.sat.frame n hblk (size_setRow w b _) rfl rfl rfl⟩
theorem Conc.setMp {st : St} {a : Act} {as : List Act} (h : Conc objs w0 F env ρ st a as w) {n i j : Nat} {xs : List Int} {b : Nat} (hn : st.hp[n]? = some (.mp i))
 (hb : hv ρ n = .pointer (some ⟨b, 0, none⟩)) (hj : env[j]? = some (.l xs)) : Conc objs w0 F env ρ { st with hp := st.hp.set n (.mp j) } a as { w with heap := w.heap.setIfInBounds b (.map (mpE xs).toArray xs.length) } := by
 obtain ⟨S, hS⟩ := h.sat.own
 obtain ⟨b', cs, e1, e2, e3, e4⟩ := hS.holds n _ hn
 rw [hb] at e1; injection e1 with e1; injection e1 with e1; injection e1 with e1; subst e1
 have hlt : b < w.heap.size := (hS.dom n b e4).2.1
 have hblk : ∀ x, ¬ S n x → ({ w with heap := w.heap.setIfInBounds b (.map (mpE xs).toArray xs.length) } : World).heap[x]? = w.heap[x]? := fun x hx => Array.getElem?_setIfInBounds_ne (fun e => hx (by rw [← e]; exact e4))
 have hsize : ({ w with heap := w.heap.setIfInBounds b (.map (mpE xs).toArray xs.length) } : World).heap.size = w.heap.size := Array.size_setIfInBounds
 refine ⟨h.ne, h.pc, h.tm, h.stk, by simp [h.sat.len], ⟨S, hS.update n _ (List.getElem?_eq_some_iff.1 hn).1 hblk hsize ⟨b, xs, hb, hj, Array.getElem?_setIfInBounds_self_of_lt hlt, e4⟩⟩, Fr.update hS h.sat.frame n hblk hsize rfl rfl rfl⟩
theorem Conc.recast {st : St} {a : Act} {as : List Act} (h : Conc objs w0 F env ρ st a as w) {n : Nat} {e e' : HE} (hn : st.hp[n]? = some e) (hh : ∀ v S, Holds objs w0 F env ρ e v w S → Holds objs w0 F env ρ e' v w S) : Conc objs w0 F env ρ { st with hp := st.hp.set n e' } a as w := by
 obtain ⟨S, hS⟩ := h.sat.own
 refine ⟨h.ne, h.pc, h.tm, h.stk, by simp [h.sat.len], ⟨S, ⟨fun m x hm => ?_, hS.disj, fun m x hx => by have := hS.dom m x hx; simpa using this⟩⟩, h.sat.frame⟩
 by_cases hmn : n = m
 · subst hmn
   simp only [List.getElem?_set_self (List.getElem?_eq_some_iff.1 hn).1, Option.some.injEq] at hm
   subst hm
   exact hh _ _ (hS.holds n e hn)
 · rw [List.getElem?_set_ne hmn] at hm
   exact hS.holds m x hm
theorem Conc.knRow {st : St} {a : Act} {as : List Act} (h : Conc objs w0 F env ρ st a as w) {n i : Nat} {k : IntKind} {ty : TypeId} {xs : List Int} (hn : st.hp[n]? = some (.kn k ty xs i)) : Conc objs w0 F env ρ { st with hp := st.hp.set n (.row k ty i) } a as w :=
 h.recast hn fun v S ⟨b, r, e1, e2, e3, e4⟩ => .inr ⟨b, xs ++ r, e1, e2, e3, e4⟩
theorem Conc.rowKn {st : St} {a : Act} {as : List Act} {k : IntKind} {ty : TypeId} {i : Nat} {xs r : List Int} (h : Conc objs w0 F env ρ { st with hp := st.hp ++ [HE.row k ty i] } a as w) (hi : env[i]? = some (.l (xs ++ r))) (hx : xs ≠ []) : Conc objs w0 F env ρ { st with hp := st.hp ++ [HE.kn k ty xs i] } a as w := by
 have h1 := h.recast (n := st.hp.length) (e := HE.row k ty i) (e' := HE.kn k ty xs i) (by simp) fun v S hv => by
  rcases hv with ⟨_, e2⟩ | ⟨b, ys, e1, e2, e3, e4⟩
  · rw [hi] at e2
    injection e2 with e2
    injection e2 with e2
    exact absurd (List.append_eq_nil_iff.1 e2).1 hx
  · rw [hi] at e2
    injection e2 with e2
    injection e2 with e2
    subst e2
    exact ⟨b, r, e1, hi, e3, e4⟩
 simpa using h1
theorem Conc.letGo {st : St} {a : Act} {as : List Act} (h : Conc objs w0 F env ρ st a as w) (n : Nat) : Conc objs w0 F env ρ { st with hp := st.hp.set n .gone } a as w := by
 obtain ⟨S, hS⟩ := h.sat.own
 refine ⟨h.ne, h.pc, h.tm, h.stk, by simp [h.sat.len], ⟨S, ⟨fun m e hm => ?_, hS.disj, fun m x hx => by have := hS.dom m x hx; simpa using this⟩⟩, h.sat.frame⟩
 by_cases hmn : n = m
 · subst hmn
   by_cases hlt : n < st.hp.length
   · simp only [List.getElem?_set_self hlt, Option.some.injEq] at hm
     subst hm
     trivial
   · rw [List.getElem?_eq_none (by simpa using hlt)] at hm; cases hm
 · rw [List.getElem?_set_ne hmn] at hm
   exact hS.holds m e hm
theorem Conc.renameRow {st : St} {a : Act} {as : List Act} (h : Conc objs w0 F env ρ st a as w) {n i : Nat} {k : IntKind} {ty : TypeId} (hn : st.hp[n]? = some (.row k ty i)) :
 Conc objs w0 F env (ρ ++ [hv ρ n]) { st with hp := st.hp.set n .gone ++ [HE.row k ty i] } a as w := by
 obtain ⟨S, hS⟩ := h.sat.own
 have hnlt := (List.getElem?_eq_some_iff.1 hn).1
 refine ⟨h.ne, h.pc, by simpa using h.tm.ext [] [_], by simpa using h.stk.ext [] [_], by simp [h.sat.len], ⟨fun m x => if m = st.hp.length then S n x else if m = n then False else S m x, ⟨fun m e hm => ?_, fun p q x h1 h2 => ?_, fun m x hx => ?_⟩⟩, h.sat.frame⟩
 · by_cases hml : m = st.hp.length
   · subst hml
     have : (st.hp.set n HE.gone ++ [HE.row k ty i])[st.hp.length]? = some (HE.row k ty i) := by rw [List.getElem?_append_right (by simp)]; simp
     rw [this] at hm
     cases hm
     simp only [if_true]
     rw [← h.sat.len, hv_len]
     have h1 := (hS.holds n _ hn).ext [] [hv ρ n]
     rw [List.append_nil] at h1
     exact h1
   · have hlt : m < st.hp.length := by
      have := (List.getElem?_eq_some_iff.1 hm).1
      simp at this; omega
     rw [List.getElem?_append_left (by simpa using hlt)] at hm
     by_cases hmn : n = m
     · subst hmn
       simp only [List.getElem?_set_self hnlt, Option.some.injEq] at hm
       subst hm
       trivial
     · rw [List.getElem?_set_ne hmn] at hm
       have h1 := (hS.holds m e hm).ext [] [hv ρ n]
       rw [List.append_nil] at h1
       rw [hv_app (by rw [h.sat.len]; exact hlt)]
       have hfun : (fun x => if m = st.hp.length then S n x else if m = n then False else S m x) = S m := by funext x; rw [if_neg hml, if_neg (fun e => hmn e.symm)]
       rw [hfun]
       exact h1
 · have hN : ∀ x, ¬ S st.hp.length x := fun x hx => by have := (hS.dom _ x hx).1; omega
   by_cases hp : p = st.hp.length
   · rw [if_pos hp] at h1
     by_cases hq : q = st.hp.length
     · rw [hp, hq]
     · rw [if_neg hq] at h2
       by_cases hqn : q = n
       · rw [if_pos hqn] at h2; exact h2.elim
       · rw [if_neg hqn] at h2; exact absurd (hS.disj n q x h1 h2) (fun e => hqn e.symm)
   · rw [if_neg hp] at h1
     by_cases hpn : p = n
     · rw [if_pos hpn] at h1; exact h1.elim
     · rw [if_neg hpn] at h1
       by_cases hq : q = st.hp.length
       · rw [if_pos hq] at h2; exact absurd (hS.disj p n x h1 h2) hpn
       · rw [if_neg hq] at h2
         by_cases hqn : q = n
         · rw [if_pos hqn] at h2; exact h2.elim
         · rw [if_neg hqn] at h2; exact hS.disj p q x h1 h2
 · by_cases hml : m = st.hp.length
   · rw [if_pos hml] at hx
     obtain ⟨h1, h2, h3⟩ := hS.dom n x hx
     exact ⟨by simp; omega, h2, h3⟩
   · rw [if_neg hml] at hx
     by_cases hmn : m = n
     · rw [if_pos hmn] at hx; exact hx.elim
     · rw [if_neg hmn] at hx
       obtain ⟨h1, h2, h3⟩ := hS.dom m x hx
       exact ⟨by simp; omega, h2, h3⟩
theorem Conc.rename {st : St} {a : Act} {as : List Act} (h : Conc objs w0 F env ρ st a as w) {n : Nat} {e0 : HE} (hn : st.hp[n]? = some e0) :
 Conc objs w0 F env (ρ ++ [hv ρ n]) { st with hp := st.hp.set n .gone ++ [e0] } a as w := by
 obtain ⟨S, hS⟩ := h.sat.own
 have hnlt := (List.getElem?_eq_some_iff.1 hn).1
 refine ⟨h.ne, h.pc, by simpa using h.tm.ext [] [_], by simpa using h.stk.ext [] [_], by simp [h.sat.len], ⟨fun m x => if m = st.hp.length then S n x else if m = n then False else S m x, ⟨fun m e hm => ?_, fun p q x h1 h2 => ?_, fun m x hx => ?_⟩⟩, h.sat.frame⟩
 · by_cases hml : m = st.hp.length
   · subst hml
     have : (st.hp.set n HE.gone ++ [e0])[st.hp.length]? = some (e0) := by rw [List.getElem?_append_right (by simp)]; simp
     rw [this] at hm
     cases hm
     simp only [if_true]
     rw [← h.sat.len, hv_len]
     have h1 := (hS.holds n _ hn).ext [] [hv ρ n]
     rw [List.append_nil] at h1
     exact h1
   · have hlt : m < st.hp.length := by
      have := (List.getElem?_eq_some_iff.1 hm).1
      simp at this; omega
     rw [List.getElem?_append_left (by simpa using hlt)] at hm
     by_cases hmn : n = m
     · subst hmn
       simp only [List.getElem?_set_self hnlt, Option.some.injEq] at hm
       subst hm
       trivial
     · rw [List.getElem?_set_ne hmn] at hm
       have h1 := (hS.holds m e hm).ext [] [hv ρ n]
       rw [List.append_nil] at h1
       rw [hv_app (by rw [h.sat.len]; exact hlt)]
       have hfun : (fun x => if m = st.hp.length then S n x else if m = n then False else S m x) = S m := by funext x; rw [if_neg hml, if_neg (fun e => hmn e.symm)]
       rw [hfun]
       exact h1
 · have hN : ∀ x, ¬ S st.hp.length x := fun x hx => by have := (hS.dom _ x hx).1; omega
   by_cases hp : p = st.hp.length
   · rw [if_pos hp] at h1
     by_cases hq : q = st.hp.length
     · rw [hp, hq]
     · rw [if_neg hq] at h2
       by_cases hqn : q = n
       · rw [if_pos hqn] at h2; exact h2.elim
       · rw [if_neg hqn] at h2; exact absurd (hS.disj n q x h1 h2) (fun e => hqn e.symm)
   · rw [if_neg hp] at h1
     by_cases hpn : p = n
     · rw [if_pos hpn] at h1; exact h1.elim
     · rw [if_neg hpn] at h1
       by_cases hq : q = st.hp.length
       · rw [if_pos hq] at h2; exact absurd (hS.disj p n x h1 h2) hpn
       · rw [if_neg hq] at h2
         by_cases hqn : q = n
         · rw [if_pos hqn] at h2; exact h2.elim
         · rw [if_neg hqn] at h2; exact hS.disj p q x h1 h2
 · by_cases hml : m = st.hp.length
   · rw [if_pos hml] at hx
     obtain ⟨h1, h2, h3⟩ := hS.dom n x hx
     exact ⟨by simp; omega, h2, h3⟩
   · rw [if_neg hml] at hx
     by_cases hmn : m = n
     · rw [if_pos hmn] at hx; exact hx.elim
     · rw [if_neg hmn] at hx
       obtain ⟨h1, h2, h3⟩ := hS.dom m x hx
       exact ⟨by simp; omega, h2, h3⟩
theorem Conc.allocKc {st : St} {a : Act} {as : List Act} (h : Conc objs w0 F env ρ st a as w) {vs : List SV} {cs r : List Value} {ty : TypeId} {sz i : Nat} {l : List Int} (hd : DenL env ρ vs cs) (hi : env[i]? = some (.l l)) (hl : cs.length + r.length = l.length * sz) :
 Conc objs w0 F env (ρ ++ [.pointer (some ⟨w.heap.size, 0, none⟩)]) { st with hp := st.hp ++ [HE.kc vs ty sz i] } a as (w.alloc (.cells (cs ++ r).toArray ty)) := by
 obtain ⟨S, hS⟩ := h.sat.own
 refine ⟨h.ne, h.pc, by simpa using h.tm.ext [] [_], by simpa using h.stk.ext [] [_], by simp [h.sat.len], ⟨_, hS.push h.sat.len h.sat.frame _ (.kc vs ty sz i) _ ⟨_, cs, r, rfl, by simpa using hd.ext [] [_], ⟨l, hi, hl⟩, heap_alloc_new w _, rfl⟩⟩, h.sat.frame.alloc _⟩
theorem Conc.setKc {st : St} {a : Act} {as : List Act} (h : Conc objs w0 F env ρ st a as w) {n i i' sz : Nat} {us vs : List SV} {cs r : List Value} {ty : TypeId} {l : List Int} {b : Nat} (hn : st.hp[n]? = some (.kc us ty sz i))
 (hb : hv ρ n = .pointer (some ⟨b, 0, none⟩)) (hd : DenL env ρ vs cs) (hi : env[i']? = some (.l l)) (hl : cs.length + r.length = l.length * sz) : Conc objs w0 F env ρ { st with hp := st.hp.set n (.kc vs ty sz i') } a as (w.setRow b (cs ++ r).toArray) := by
 obtain ⟨S, hS⟩ := h.sat.own
 obtain ⟨b', cs', r', e1, e2, e0, e3, e4⟩ := hS.holds n _ hn
 rw [hb] at e1; injection e1 with e1; injection e1 with e1; injection e1 with e1; subst e1
 have hblk : ∀ x, ¬ S n x → (w.setRow b (cs ++ r).toArray).heap[x]? = w.heap[x]? := fun x hx => setRow_other w b x _ (fun e => hx (e ▸ e4))
 refine ⟨h.ne, h.pc, h.tm, h.stk, by simp [h.sat.len], ⟨S, hS.update n _ (List.getElem?_eq_some_iff.1 hn).1 hblk (size_setRow w b _) ⟨b, cs, r, hb, hd, ⟨l, hi, hl⟩, setRow_heap w b _ _ ty _ e3, e4⟩⟩, Fr.update hS h.sat.frame n hblk (size_setRow w b _) rfl rfl rfl⟩
end
section
variable {U : Type} [Nil U] {X : Cx U} {R : List (EV U) → List (EV U) → Prop} {w0 : World} {F : Nat → Prop} {env : List (EV U)} {ρ : List Value} {w : World}
def Goes (X : Cx U) (R : List (EV U) → List (EV U) → Prop) (w0 : World) (F : Nat → Prop) (pre : List (EV U) × List Value) (as : List Act) (K : St → Tree) (N : Act → World → Prop) : Prop :=
 ∀ st' env' ρ' a' w', Pfx pre env' ρ' → Conc X.objs w0 F env' ρ' st' a' as w' → (K st').sat X R env' → N a' w'
theorem zeroRow_spec {P : Program} {t : TypeId} {k : IntKind} {len : Nat} (h : zeroRow P t = some (k, len)) : ∃ z, (∀ w, (zeroValue t).run P w = .ok z w) ∧ z.cells = (List.replicate len (Value.int k 0)).toArray := by
 unfold zeroRow at h
 split at h
 · rename_i len' elem z hu hz
   split at h
   · rename_i k' hk
     split at h
     · rename_i hc
       simp only [Option.some.injEq, Prod.mk.injEq] at h
       obtain ⟨rfl, rfl⟩ := h
       simp only [Bool.and_eq_true, beq_iff_eq] at hc
       obtain ⟨⟨_, hall⟩, hlen⟩ := hc
       cases hi : P.info? t with
       | none => simp [hi] at hz
       | some i =>
         simp only [hi, Option.bind_some] at hz
         refine ⟨z, fun w => by simp [zeroValue, typeInfo, hi, hz], ?_⟩
         apply Array.toList_inj.1
         rw [List.toList_toArray, List.eq_replicate_iff]
         refine ⟨hlen, fun v hv => ?_⟩
         have := List.all_eq_true.1 hall v hv
         cases v <;> simp_all
     · cases h
   · cases h
 · cases h
theorem gL_get {i : Nat} {xs : List Int} (h : env[i]? = some (.l xs)) : gL env i = xs := by simp [gL, h]
theorem eqLit {a b : Ex} (h : (Bx.cmp .eql a b).den env = true) : a.den env = b.den env := by simpa [Bx.den, cmpDen] using h
theorem last_get (x : EV U) : (env ++ [x])[env.length]? = some x := by simp
theorem flatten_den (hz : ∀ n : Nat, n = n) {l : List SV} {cs : List Value} (hd : DenL env ρ l cs) : ∀ n : Nat, DenL env ρ (List.replicate n l).flatten (List.replicate n cs).flatten
 | 0 => DenL.nil
 | n + 1 => by simp only [List.replicate_succ, List.flatten_cons]; exact hd.append (flatten_den hz hd n)
theorem zeros_array (z : Array Value) (s : Nat) (hs : z.size = s) (hp : 0 < s) (n : Nat) : (Array.range (n * s)).map (fun j => z[j % z.size]!) = ((List.replicate n z.toList).flatten).toArray := by
 apply Array.toList_inj.1
 apply List.ext_getElem?
 intro i
 rw [List.toList_toArray]
 have key : ∀ n i, i < n * s → ((List.replicate n z.toList).flatten)[i]? = z[i % s]? := by
  intro n
  induction n with
  | zero => intro i hi; omega
  | succ n ih =>
    intro i hi
    rw [List.replicate_succ, List.flatten_cons]
    by_cases h : i < s
    · rw [List.getElem?_append_left (by simpa [hs] using h), Nat.mod_eq_of_lt h]; simp
    · rw [List.getElem?_append_right (by simp [hs]; omega)]
      simp only [Array.length_toList, hs]
      rw [ih (i - s) (by rw [Nat.succ_mul] at hi; omega), ← Nat.mod_eq_sub_mod (by omega)]
 by_cases hi : i < n * s
 · rw [key n i hi]
   have hm : i % s < z.size := by rw [hs]; exact Nat.mod_lt _ hp
   have e1 : z[i % s]! = z[i % s] := getElem!_pos z (i % s) hm
   simp [hi, hs, e1, Array.getElem?_eq_getElem hm]
 · have hlen : ((List.replicate n z.toList).flatten).length = n * s := by simp [hs]
   have h0 : ((List.replicate n z.toList).flatten)[i]? = none := List.getElem?_eq_none (by rw [hlen]; omega)
   rw [h0]
   simp
   omega
theorem ArgsRel.append {a b : List SV} {x y : List Value} (h1 : ArgsRel env ρ a x) (h2 : ArgsRel env ρ b y) : ArgsRel env ρ (a ++ b) (x ++ y) := by
 refine ⟨by simp [h1.1, h2.1], fun i => ?_⟩
 by_cases hi : i < a.length
 · have := h1.2 i
   simp only [List.getD] at this ⊢
   rw [List.getElem?_append_left hi, List.getElem?_append_left (by rw [← h1.1]; exact hi)]
   exact this
 · have := h2.2 (i - a.length)
   simp only [List.getD] at this ⊢
   rw [List.getElem?_append_right (by omega), List.getElem?_append_right (by rw [← h1.1]; omega), ← h1.1]
   exact this
theorem ArgsRel.of_den {l : List SV} {vals : List Value} (hd : DenL env ρ l vals) : ArgsRel env ρ l vals := by
 refine ⟨hd.len, fun x => ?_⟩
 by_cases hx : x < l.length
 · obtain ⟨c', h1, h2⟩ := hd.get (List.getElem?_eq_getElem hx)
   rw [List.getD, List.getD, List.getElem?_eq_getElem hx, h1]
   exact .inr h2
 · rw [List.getD, List.getElem?_eq_none (by omega)]; exact .inl rfl
theorem ArgsRel.of_ops {tm : Tm} {a : Act} (ht : TmRel env ρ tm a.tmps) (xs : List Operand) : ArgsRel env ρ (xs.map (evalO tm)) (xs.map a.eval) := by
 refine ⟨by simp, fun x => ?_⟩
 simp only [List.getD, List.getElem?_map]
 cases h : xs[x]? with
 | none => exact .inl rfl
 | some o => exact evalO_rel ht o
theorem run_append_zero {P : Program} (t ty e : TypeId) (i : TypeInfo) (ht : P.underlying t = some (.slice e)) (hi : P.info? e = some i) (b y : Option Addr) (c : Nat) (w : World) :
 (Builtin.append_ #[t, t] ty #[.slice b 0 0, .slice y 0 c]).run P w = .ok (.slice b 0 0) w := by
 cases y with
 | none => cases b <;> simp [Builtin.append_, run_underlying ht, sizeOf, typeInfo, hi, Builtin.lenOf, Builtin.firstCells, storeCells]
 | some a =>
   have hf := run_firstCells_some (P := P) w i.size 0 a 0 c [] (by simp) (by simp)
   cases b <;> simp [Builtin.append_, run_underlying ht, sizeOf, typeInfo, hi, Builtin.lenOf, hf, storeCells]
theorem zeroInts (k : IntKind) (cp : Nat) : Builtin.zeroCells (Value.int k 0).cells cp = ((List.replicate cp (0 : Int)).map (Value.int k)).toArray := by
 apply Array.ext
 · simp [Builtin.zeroCells, Value.cells]
 · intro i h1 h2
   simp [Builtin.zeroCells, Value.cells, Nat.mod_one]
theorem app_new {st : St} {K : St → Tree} {o : Oper} {a : Act} {as : List Act} {pre : List (EV U) × List Value} {N : Act → World → Prop} {env : List (EV U)} {ρ : List Value} {w : World} {d : Nat}
 (hc : Conc X.objs w0 F env ρ st a as w) (hK : Goes X R w0 F pre as K N) (hpre : Pfx pre env ρ) {k : IntKind} {elem : TypeId} {ys r : List Int} {y : Int} {e' : Ex}
 (he : ∀ xs, e'.den (env ++ xs) = ((ys.length + 1 : Nat) : Int))
 (hs : (K ({ st with hp := st.hp ++ [HE.row k elem st.ne], ne := st.ne + 2 }.put o.dst (.slice st.hp.length e' (.var (st.ne + 1))))).sat X R (env ++ [.l (ys ++ y :: r), .i ((ys.length + 1 + r.length : Nat) : Int)])) :
 N (a.put o.dst (.slice (some ⟨w.heap.size, 0, none⟩) (ys.length + 1) (ys.length + 1 + r.length))) ({ w with drawn := d }.alloc (.cells ((ys ++ y :: r).map (Value.int k)).toArray elem)) := by
 have hc2 := (hc.drewn d).ext [EV.l (ys ++ y :: r), EV.i ((ys.length + 1 + r.length : Nat) : Int)]
 have hc3 := hc2.allocRow k elem (i := st.ne) (xs := ys ++ y :: r) (by rw [← hc.ne]; simp)
 refine hK _ _ _ _ _ ((hpre.env _).rho _) (hc3.put o.dst (.inr ?_)) hs
 have hv1 : ∀ xs' : List (EV U), (Ex.var (st.ne + 1)).den ((env ++ [EV.l (ys ++ y :: r), EV.i ((ys.length + 1 + r.length : Nat) : Int)]) ++ xs') = ((ys.length + 1 + r.length : Nat) : Int) := by
  intro xs'
  rw [← hc.ne, List.append_assoc]
  simp only [Ex.den, gI]
  rw [List.getElem?_append_right (by omega), Nat.add_sub_cancel_left]
  rfl
 have hv0 := hv1 []
 rw [List.append_nil] at hv0
 have he2 : e'.den (env ++ [EV.l (ys ++ y :: r), EV.i ((ys.length + 1 + r.length : Nat) : Int)]) = ((ys.length + 1 : Nat) : Int) := he _
 have hd := slice_den (env := env ++ [EV.l (ys ++ y :: r), EV.i ((ys.length + 1 + r.length : Nat) : Int)]) (ρ := ρ ++ [Value.pointer (some ⟨w.heap.size, 0, none⟩)]) (n := st.hp.length) (l := e') (c := .var (st.ne + 1)) (by simp [hc.sat.len]) (fun xs' => by rw [he2, List.append_assoc, he]) (fun xs' => by rw [hv1 xs', hv0])
 rw [← hc.sat.len, hv_len, he2, hv0, Int.toNat_natCast, Int.toNat_natCast] at hd
 show Den _ _ (SV.slice st.hp.length e' (.var (st.ne + 1))) _
 rw [← hc.sat.len]
 exact hd
theorem appN_new {st : St} {K : St → Tree} {o : Oper} {a : Act} {as : List Act} {pre : List (EV U) × List Value} {N : Act → World → Prop} {env : List (EV U)} {ρ : List Value} {w : World} {d : Nat}
 (hc : Conc X.objs w0 F env ρ st a as w) (hK : Goes X R w0 F pre as K N) (hpre : Pfx pre env ρ) {k : IntKind} {elem : TypeId} {ys zs r : List Int} {e' : Ex}
 (he : ∀ xs, e'.den (env ++ xs) = ((ys.length + zs.length : Nat) : Int)) {h : HE}
 (hH : ∀ (env' : List (EV U)) (ρ' : List Value) (st' : St) (w' : World), Conc X.objs w0 F env' ρ' { st' with hp := st'.hp ++ [HE.row k elem st.ne] } a as w' → env'[st.ne]? = some (.l (ys ++ zs ++ r)) → Conc X.objs w0 F env' ρ' { st' with hp := st'.hp ++ [h] } a as w')
 (hs : (K ({ st with hp := st.hp ++ [h], ne := st.ne + 2 }.put o.dst (.slice st.hp.length e' (.var (st.ne + 1))))).sat X R (env ++ [.l (ys ++ zs ++ r), .i ((ys.length + zs.length + r.length : Nat) : Int)])) :
 N (a.put o.dst (.slice (some ⟨w.heap.size, 0, none⟩) (ys.length + zs.length) (ys.length + zs.length + r.length))) ({ w with drawn := d }.alloc (.cells ((ys ++ zs ++ r).map (Value.int k)).toArray elem)) := by
 have hc2 := (hc.drewn d).ext [EV.l (ys ++ zs ++ r), EV.i ((ys.length + zs.length + r.length : Nat) : Int)]
 have hc3 := hc2.allocRow k elem (i := st.ne) (xs := ys ++ zs ++ r) (by rw [← hc.ne]; simp)
 have hc4 := hH _ _ _ _ hc3 (by rw [← hc.ne]; simp)
 refine hK _ _ _ _ _ ((hpre.env _).rho _) (hc4.put o.dst (.inr ?_)) hs
 have hv1 : ∀ xs' : List (EV U), (Ex.var (st.ne + 1)).den ((env ++ [EV.l (ys ++ zs ++ r), EV.i ((ys.length + zs.length + r.length : Nat) : Int)]) ++ xs') = ((ys.length + zs.length + r.length : Nat) : Int) := by
  intro xs'
  rw [← hc.ne, List.append_assoc]
  simp only [Ex.den, gI]
  rw [List.getElem?_append_right (by omega), Nat.add_sub_cancel_left]
  rfl
 have hv0 := hv1 []
 rw [List.append_nil] at hv0
 have he2 : e'.den (env ++ [EV.l (ys ++ zs ++ r), EV.i ((ys.length + zs.length + r.length : Nat) : Int)]) = ((ys.length + zs.length : Nat) : Int) := he _
 have hd := slice_den (env := env ++ [EV.l (ys ++ zs ++ r), EV.i ((ys.length + zs.length + r.length : Nat) : Int)]) (ρ := ρ ++ [Value.pointer (some ⟨w.heap.size, 0, none⟩)]) (n := st.hp.length) (l := e') (c := .var (st.ne + 1)) (by simp [hc.sat.len]) (fun xs' => by rw [he2, List.append_assoc, he]) (fun xs' => by rw [hv1 xs', hv0])
 rw [← hc.sat.len, hv_len, he2, hv0, Int.toNat_natCast, Int.toNat_natCast] at hd
 show Den _ _ (SV.slice st.hp.length e' (.var (st.ne + 1))) _
 rw [← hc.sat.len]
 exact hd
theorem methodS_run {P : Program} {t : TypeId} {name : String} {g : FuncId} {v : Value} {w : World} (h : methodS P t name = some g) : (method (P.types.size + Made.depth) t v name).run P w = .ok (g, v) w := by
 unfold methodS at h
 split at h
 · cases h
 · rename_i i hi
   split at h
   · rename_i m u n hm hu hn
     split at h
     · cases h
     · rename_i g' hp hf hnp
       injection h with h
       subst h
       rw [hn, show n + 1 + Made.depth = (n + Made.depth) + 1 by omega]
       simp only [method, typeInfo, Sem.run_bind, run_program, hi, Sem.run_pure, Result.andThen_ok, hm, hp, follow, hf, receiverAt, run_underlying hu]
       simp only [Place.get, Sem.run_pure, Result.andThen_ok]
     · cases h
   · cases h
theorem ext_one {α : Type} (x : α) (A : Array α) : (#[x] ++ A).extract 1 (#[x] ++ A).size = A := by
 apply Array.toList_inj.1
 rw [Array.toList_extract]
 simp only [List.extract, Array.size_append, Array.toList_append, List.drop_succ_cons, List.drop_zero, List.cons_append, List.nil_append]
 rw [List.take_of_length_le (by simp)]
theorem allInts_vals {k : IntKind} : ∀ {vs : List SV} {xs : List Ex}, allInts k vs = some xs → vs = xs.map (SV.int k)
 | [], xs, h => by simp only [allInts, Option.some.injEq] at h; subst h; rfl
 | v :: vs, xs, h => by
   unfold allInts at h
   split at h
   · simp_all
   · rename_i k' e l heq
     simp only [List.cons.injEq] at heq
     obtain ⟨rfl, rfl⟩ := heq
     split at h
     · rename_i hk
       subst hk
       simp only [Option.map_eq_some_iff] at h
       obtain ⟨ys, hy, rfl⟩ := h
       rw [allInts_vals hy]; rfl
     · cases h
   · cases h
theorem run_append_none {P : Program} (t ty e : TypeId) (i : TypeInfo) (ht : P.underlying t = some (.slice e)) (hi : P.info? e = some i) (b y : Option Addr) (n cap c : Nat) (hn : n ≤ cap) (w : World) :
 (Builtin.append_ #[t, t] ty #[.slice b n cap, .slice y 0 c]).run P w = .ok (.slice b n cap) w := by
 cases y with
 | none => cases b <;> simp [Builtin.append_, run_underlying ht, sizeOf, typeInfo, hi, Builtin.lenOf, Builtin.firstCells, storeCells, hn]
 | some a =>
   have hf := run_firstCells_some (P := P) w i.size 0 a 0 c [] (by simp) (by simp)
   cases b <;> simp [Builtin.append_, run_underlying ht, sizeOf, typeInfo, hi, Builtin.lenOf, hf, storeCells, hn]
theorem appGo_sound {o : Oper} {st : St} {K : St → Tree} {a : Act} {as : List Act} {pre : List (EV U) × List Value} {N : Act → World → Prop} {s : SV} {v1 : Value} {k : IntKind} {elem t2 ty : TypeId} {l : Ex} {h : HE} {mk : Option Nat → Ex → Tree → Tree} {inf : TypeInfo} {b2 : Addr} {c2 : Nat} {ys : List Int}
 (hc : Conc X.objs w0 F env ρ st a as w) (hK : Goes X R w0 F pre as K N) (hpre : Pfx pre env ρ) (hu : X.P.underlying t2 = some (.slice elem)) (hinf : X.P.info? elem = some inf) (hz : inf.zero = some (.int k 0)) (hsize : inf.size = 1) (hbytes : inf.bytes ≤ 8)
 (hr1 : Rel env ρ s v1) (hcell2 : ∀ j v, (ys.map (Value.int k))[j]? = some v → w.cell? (b2.add j) = some v) (h0 : 0 < ys.length) (hbig : ys.length ≤ 1000000) (hl : ∀ xs, l.den (env ++ xs) = (ys.length : Int))
 (hmk : ∀ i e t, (mk i e t).sat X R env → ∀ r : List Int, t.sat X R (env ++ [.l ((match i with | none => [] | some i => gL env i).take (e.den env).toNat ++ ys ++ r), .i (((e.den env).toNat + ys.length + r.length : Nat) : Int)]))
 (hH : ∀ (p r : List Int) (env' : List (EV U)) (ρ' : List Value) (st' : St) (w' : World), (p = [] ∧ (s = .nils ∨ ∃ n1 e ce, s = .slice n1 e ce ∧ (e.den env).toNat = 0) ∨ ∃ n1 e ce k3 ty i, s = .slice n1 e ce ∧ st.hp[n1]? = some (.row k3 ty i) ∧ p = (gL env i).take (e.den env).toNat) →
   Conc X.objs w0 F env' ρ' { st' with hp := st'.hp ++ [HE.row k elem st.ne] } a as w' → env'[st.ne]? = some (.l (p ++ ys ++ r)) → Conc X.objs w0 F env' ρ' { st' with hp := st'.hp ++ [h] } a as w')
 (hs : (appGo X o st K s k elem l h mk).sat X R env) : ∃ r w', (Builtin.append_ #[t2, t2] ty #[v1, .slice (some b2) ys.length c2]).run X.P w = .ok r w' ∧ N (a.put o.dst r) w' := by
 unfold appGo at hs
 split at hs
 ·
  have ev1 : v1 = .slice none 0 0 := (hr1.den (by simp)).now.symm
  have happ := run_append_nil (P := X.P) (w := w) t2 ty elem inf (.int k 0) hu hinf hz b2 ys.length c2 (ys.map (Value.int k)) (by simp [hsize]) hcell2 (by omega) (by omega) (by
   have : ys.length * inf.bytes ≤ 1000000 * 8 := Nat.mul_le_mul (by omega) hbytes
   omega)
  refine ⟨_, _, by rw [ev1]; exact happ, ?_⟩
  have hge := grownCap_ge w ys.length 0 elem
  generalize hcap : grownCap w ys.length 0 elem - ys.length = cp at *
  have hcap2 : grownCap w ys.length 0 elem = ys.length + cp := by omega
  rw [hcap2]
  have hcells : ((ys.map (Value.int k)).toArray ++ Builtin.zeroCells (Value.int k 0).cells cp) = (([] ++ ys ++ List.replicate cp 0 : List Int).map (Value.int k)).toArray := by
   rw [zeroInts]; simp
  rw [hcells]
  have hk := hmk _ _ _ hs (List.replicate cp 0)
  simp only [Ex.den, Int.toNat_zero, List.take_zero, Nat.zero_add, List.length_replicate] at hk
  have hn := appN_new (ys := []) (zs := ys) (r := List.replicate cp 0) (d := w.drawn + 1) (k := k) (elem := elem) (e' := l) (o := o) hc hK hpre (fun xs => by rw [hl]; simp) (fun env' ρ' st' w' h1 h2 => hH [] _ env' ρ' st' w' (.inl ⟨rfl, .inl rfl⟩) h1 h2) (by simpa using hk)
  simpa using hn
 · rename_i n1 e ce
   split at hs
   · rename_i k3 ty1 i hn1
     split at hs
     · rename_i hcond2
       simp only [Bool.and_eq_true, decide_eq_true_eq] at hcond2
       obtain ⟨rfl, rfl⟩ := hcond2
       obtain ⟨hns, hs⟩ := needs_sat hs
       have b1 := leE_spec (env := env) (a := .lit 0) (b := e) (fun c hc => hns c (by simp only [List.mem_append]; exact .inl hc))
       have b2' := leE_spec (env := env) (a := e) (b := ce) (fun c hc => hns c (by simp only [List.mem_append]; exact .inr (.inl hc)))
       have b3 := leE_spec (env := env) (a := ce) (b := .len i) (fun c hc => hns c (by simp only [List.mem_append]; exact .inr (.inr (.inl hc))))
       have b4 := leE_spec (env := env) (a := .len i) (b := ce) (fun c hc => hns c (by simp only [List.mem_append]; exact .inr (.inr (.inr (.inl hc)))))
       have b5 := leE_spec (env := env) (a := e) (b := .lit 1000000) (fun c hc => hns c (by simp only [List.mem_append]; exact .inr (.inr (.inr (.inr hc)))))
       simp only [Ex.den] at b1 b3 b4 b5
       obtain ⟨ev1, hst1, hst2⟩ := den_slice (hr1.den (by simp))
       have hl0 : l.den env = (ys.length : Int) := by simpa using hl []
       have hwrap : ∀ xs, (mkBin .add .i64 e l).den (env ++ xs) = (((e.den env).toNat + ys.length : Nat) : Int) := by
        intro xs
        rw [den_mkBin, hst1, hl]
        simp only [binDen]
        rw [wrap_small (n := e.den env + ys.length) (by omega) (by omega)]
        omega
       obtain ⟨S, hS⟩ := hc.sat.own
       have hk0 := hmk _ _ _ hs
       rcases hS.holds n1 _ hn1 with ⟨q1, q2⟩ | ⟨b1', xs, q1, q2, q3, q4⟩
       ·
        have hxs : gL env i = [] := by simp [gL, q2]
        simp only at hk0
        rw [hxs] at b3 b4 hk0
        simp only [List.length_nil] at b3 b4
        have e0 : (e.den env).toNat = 0 := by omega
        have c0 : (ce.den env).toNat = 0 := by omega
        rw [q1, e0, c0] at ev1
        have happ := run_append_nil (P := X.P) (w := w) t2 ty ty1 inf (.int k3 0) hu hinf hz b2 ys.length c2 (ys.map (Value.int k3)) (by simp [hsize]) hcell2 (by omega) (by omega) (by
         have : ys.length * inf.bytes ≤ 1000000 * 8 := Nat.mul_le_mul (by omega) hbytes
         omega)
        refine ⟨_, _, by rw [ev1]; exact happ, ?_⟩
        have hge := grownCap_ge w ys.length 0 ty1
        generalize hcap : grownCap w ys.length 0 ty1 - ys.length = cp at *
        have hcap2 : grownCap w ys.length 0 ty1 = ys.length + cp := by omega
        rw [hcap2]
        have hcells : ((ys.map (Value.int k3)).toArray ++ Builtin.zeroCells (Value.int k3 0).cells cp) = (([] ++ ys ++ List.replicate cp 0 : List Int).map (Value.int k3)).toArray := by
         rw [zeroInts]; simp
        rw [hcells]
        have hk := hk0 (List.replicate cp 0)
        rw [e0] at hk hwrap
        have hn := appN_new (ys := []) (zs := ys) (r := List.replicate cp 0) (d := w.drawn + 1) (k := k3) (elem := ty1) (e' := mkBin .add .i64 e l) (o := o) (hc.letGo n1) hK hpre (by simpa using hwrap) (fun env' ρ' st' w' h1 h2 => hH [] _ env' ρ' st' w' (.inl ⟨rfl, .inr ⟨n1, e, ce, rfl, e0⟩⟩) h1 h2) (by simpa [e0] using hk)
        simpa using hn
       · have hxs : gL env i = xs := by simp [gL, q2]
         simp only at hk0
         rw [hxs] at b3 b4 hk0
         have hlen : ((xs.take (e.den env).toNat).length) = (e.den env).toNat := by rw [List.length_take]; omega
         rw [q1] at ev1
         by_cases hroom : (e.den env).toNat + ys.length ≤ (ce.den env).toNat
         ·
          have happ := run_append_room (P := X.P) (w := w) t2 ty ty1 inf hu hinf b1' (e.den env).toNat (ce.den env).toNat _ q3 b2 ys.length c2 (ys.map (Value.int k3)) (by simp [hsize]) hcell2 (by intro u hu; obtain ⟨z, _, rfl⟩ := List.mem_map.1 hu; simp [Value.oneCell']) hroom (by simp [hsize]; omega)
          refine ⟨_, _, by rw [ev1]; exact happ, ?_⟩
          have hcells : (((xs.map (Value.int k3)).toArray).toList.take ((e.den env).toNat * inf.size) ++ ys.map (Value.int k3) ++ ((xs.map (Value.int k3)).toArray).toList.drop ((e.den env).toNat * inf.size + (ys.map (Value.int k3)).length)) = (xs.take (e.den env).toNat ++ ys ++ xs.drop ((e.den env).toNat + ys.length)).map (Value.int k3) := by
           simp [hsize, List.map_take, List.map_drop]
          rw [hcells]
          have hk := hk0 (xs.drop ((e.den env).toNat + ys.length))
          have hcl : (ce.den env).toNat = (e.den env).toNat + ys.length + (xs.drop ((e.den env).toNat + ys.length)).length := by rw [List.length_drop]; omega
          generalize hY : xs.take (e.den env).toNat ++ ys ++ xs.drop ((e.den env).toNat + ys.length) = zs at *
          have hc1 := hc.ext [EV.l zs, EV.i (((e.den env).toNat + ys.length + (xs.drop ((e.den env).toNat + ys.length)).length : Nat) : Int)]
          have hc2 := hc1.setRow' (n := n1) (i := i) (j := st.ne) (k := k3) (ty := ty1) (xs := zs) (b := b1') hn1 q1 (by rw [← hc.ne]; simp)
          have hnlt := (List.getElem?_eq_some_iff.1 hn1).1
          have hc3 := hc2.renameRow (n := n1) (i := st.ne) (k := k3) (ty := ty1) (by simp [hnlt])
          simp only [List.set_set, List.length_set] at hc3
          have hc4 := hH (xs.take (e.den env).toNat) (xs.drop ((e.den env).toNat + ys.length)) _ _ { st with hp := st.hp.set n1 .gone, ne := st.ne + [EV.l zs, (EV.i (((e.den env).toNat + ys.length + (xs.drop ((e.den env).toNat + ys.length)).length : Nat) : Int) : EV U)].length } _ (.inr ⟨n1, e, ce, k3, ty1, i, rfl, hn1, by rw [hxs]⟩) hc3 (by rw [hY, ← hc.ne]; simp)
          refine hK _ _ _ _ _ ((hpre.env _).rho _) (hc4.put o.dst (.inr ?_)) hk
          have hv1 : ∀ xs' : List (EV U), (Ex.var (st.ne + 1)).den ((env ++ [EV.l zs, EV.i (((e.den env).toNat + ys.length + (xs.drop ((e.den env).toNat + ys.length)).length : Nat) : Int)]) ++ xs') = (((e.den env).toNat + ys.length + (xs.drop ((e.den env).toNat + ys.length)).length : Nat) : Int) := by
           intro xs'
           rw [← hc.ne, List.append_assoc]
           simp only [Ex.den, gI]
           rw [List.getElem?_append_right (by omega), Nat.add_sub_cancel_left]
           rfl
          have hv0 := hv1 []
          rw [List.append_nil] at hv0
          have he2 := hwrap [EV.l zs, EV.i (((e.den env).toNat + ys.length + (xs.drop ((e.den env).toNat + ys.length)).length : Nat) : Int)]
          have hd := slice_den (env := env ++ [EV.l zs, EV.i (((e.den env).toNat + ys.length + (xs.drop ((e.den env).toNat + ys.length)).length : Nat) : Int)]) (ρ := ρ ++ [hv ρ n1]) (n := st.hp.length) (l := mkBin .add .i64 e l) (c := .var (st.ne + 1)) (by simp [hc.sat.len]) (fun xs' => by rw [he2, List.append_assoc, hwrap]) (fun xs' => by rw [hv1 xs', hv0])
          rw [← hc.sat.len, hv_len, he2, hv0, Int.toNat_natCast, Int.toNat_natCast, q1, ← hcl] at hd
          show Den _ _ (SV.slice st.hp.length (mkBin .add .i64 e l) (.var (st.ne + 1))) _
          rw [← hc.sat.len, q1, ← hcl]
          exact hd
         ·
          have hcell1 : ∀ j v, ((xs.take (e.den env).toNat).map (Value.int k3))[j]? = some v → w.cell? ((⟨b1', 0, none⟩ : Addr).add j) = some v := by
           intro j v hj
           rw [Addr.add_lit]
           simp only [List.getElem?_map, Option.map_eq_some_iff] at hj
           obtain ⟨x, hx1, rfl⟩ := hj
           rw [List.getElem?_take] at hx1
           split at hx1
           · simp [World.cell?, q3, hx1]
           · cases hx1
          have happ := run_append_grow (P := X.P) (w := w) t2 ty ty1 inf (.int k3 0) hu hinf hz ⟨b1', 0, none⟩ (e.den env).toNat (ce.den env).toNat ((xs.take (e.den env).toNat).map (Value.int k3)) (by rw [List.length_map, hlen, hsize, Nat.mul_one]) hcell1 b2 ys.length c2 (ys.map (Value.int k3)) (by simp [hsize]) hcell2 (by omega) (by omega)
           (growslice_fits (by omega) (by
             have : ((e.den env).toNat + ys.length) * inf.bytes ≤ 2000000 * 8 := Nat.mul_le_mul (by omega) hbytes
             omega))
          refine ⟨_, _, by rw [ev1]; exact happ, ?_⟩
          have hge := grownCap_ge w ((e.den env).toNat + ys.length) (ce.den env).toNat ty1
          generalize hcap : grownCap w ((e.den env).toNat + ys.length) (ce.den env).toNat ty1 - ((e.den env).toNat + ys.length) = cp at *
          have hcap2 : grownCap w ((e.den env).toNat + ys.length) (ce.den env).toNat ty1 = (e.den env).toNat + ys.length + cp := by omega
          rw [hcap2]
          have hcells : (((xs.take (e.den env).toNat).map (Value.int k3)).toArray ++ (ys.map (Value.int k3)).toArray ++ Builtin.zeroCells (Value.int k3 0).cells cp) = ((xs.take (e.den env).toNat ++ ys ++ List.replicate cp 0).map (Value.int k3)).toArray := by
           rw [zeroInts]; simp
          rw [hcells]
          have hk := hk0 (List.replicate cp 0)
          rw [List.length_replicate] at hk
          have hn := appN_new (ys := xs.take (e.den env).toNat) (zs := ys) (r := List.replicate cp 0) (d := w.drawn + 1) (k := k3) (elem := ty1) (e' := mkBin .add .i64 e l) (o := o) (hc.letGo n1) hK hpre (by rw [hlen]; exact hwrap) (fun env' ρ' st' w' h1 h2 => hH _ _ env' ρ' st' w' (.inr ⟨n1, e, ce, k3, ty1, i, rfl, hn1, by rw [hxs]⟩) h1 h2) (by simpa [hlen] using hk)
          rw [hlen, List.length_replicate] at hn
          exact hn
     · exact hs.elim
   · exact hs.elim
 · exact hs.elim
theorem appM_sound {o : Oper} {st : St} {K : St → Tree} {a : Act} {as : List Act} {pre : List (EV U) × List Value} {N : Act → World → Prop} {Q : Exit → Act → World → Prop} {c : Call}
 (hc : Conc X.objs w0 F env ρ st a as w) (hK : Goes X R w0 F pre as K N) (hpre : Pfx pre env ρ) (hop : o.op = .call c) (hcal : c.callee = .builtin .append)
 (hs : (appM X o st K (c.args.toList.map (evalO st.tm)) c.argTypes.toList).sat X R env) : o.wp X.P a w N Q := by
 unfold Oper.wp
 generalize hargs : c.args.toList.map (evalO st.tm) = args at hs
 generalize htypes : c.argTypes.toList = types at hs
 unfold appM at hs
 split at hs
 · rename_i s n2 e2 ce2 t t2
   split at hs
   · rename_i htt
     subst htt
     split at hs
     · rename_i elem hu
       split at hs
       · rename_i k inf hue hinf
         split at hs
         · rename_i k'' hz
           split at hs
           · rename_i hcond
             simp only [Bool.and_eq_true, decide_eq_true_eq] at hcond
             obtain ⟨⟨rfl, hsize⟩, hbytes⟩ := hcond
             obtain ⟨x1, x2, hx⟩ : ∃ x1 x2, c.args.toList = [x1, x2] := by
              have := congrArg List.length hargs
              simp only [List.length_map, List.length_cons, List.length_nil] at this
              match hl : c.args.toList, this with
              | [x1, x2], _ => exact ⟨x1, x2, rfl⟩
             rw [hx] at hargs
             simp only [List.map_cons, List.map_nil, List.cons.injEq, and_true] at hargs
             obtain ⟨g1, g2⟩ := hargs
             have hr1 := evalO_rel hc.tm.1 x1
             rw [g1] at hr1
             have hr2 := evalO_rel hc.tm.1 x2
             rw [g2] at hr2
             obtain ⟨ev2, hst2, _⟩ := den_slice (hr2.den (by simp))
             have harr : c.args.map a.eval = #[a.eval x1, a.eval x2] := by apply Array.toList_inj.1; simp [hx]
             have hty : c.argTypes = #[t2, t2] := by apply Array.toList_inj.1; rw [htypes]
             have hrun0 : ∀ r w', (Builtin.append_ #[t2, t2] o.type #[a.eval x1, a.eval x2]).run X.P w = .ok r w' → (execOp a.eval o).run X.P w = .ok (.value r) w' := by
              intro r w' h
              simp only [execOp, hop, resolve, hcal, Sem.run_bind, Sem.run_pure, Result.andThen_ok, invoke, builtin, harr, hty, h]
             obtain ⟨S, hS⟩ := hc.sat.own
             split at hs
             ·
              rename_i vs ty2 m hn2
              obtain ⟨b2, cs, p1, p2, p3, p4⟩ := hS.holds n2 _ hn2
              rw [p1] at ev2
              split at hs
              · rename_i xs hxs
                split at hs
                · rename_i hlen
                  simp only [Bool.and_eq_true, decide_eq_true_eq] at hlen
                  obtain ⟨hlen, hm⟩ := hlen
                  have hvs := allInts_vals hxs
                  subst hvs
                  have hcs : cs = (xs.map (Ex.den env)).map (Value.int k'') := by
                   have := p2.1 [] []
                   simp only [List.append_nil, List.map_map] at this
                   rw [← this, List.map_map]
                   rfl
                  have hen : (Ex.den env (.lit ((Int.ofNat (m + 1))))).toNat = (xs.map (Ex.den env)).length := by simp only [Ex.den, List.length_map, hlen]; rfl
                  rw [hen] at ev2
                  obtain ⟨r, w', hrun, hN⟩ := appGo_sound (X := X) (R := R) (ty := o.type) (t2 := t2) (elem := elem) (s := s) (v1 := a.eval x1) (b2 := ⟨b2, 0, none⟩) (c2 := (ce2.den env).toNat) (ys := xs.map (Ex.den env)) (inf := inf) hc hK hpre hu hinf hz hsize hbytes hr1
                   (by
                     intro j v hj
                     rw [← hcs] at hj
                     rw [Addr.add_lit]; simp [World.cell?, p3, hj])
                   (by rw [List.length_map]; omega) (by rw [List.length_map]; omega) (fun ys => by rw [List.length_map, hlen]; rfl)
                   (by
                     intro i e t ht r
                     have := ht r
                     simpa only [List.length_map] using this) (fun _ _ _ _ _ _ _ h _ => h) hs
                  rw [hrun0 _ _ (by rw [ev2]; exact hrun)]
                  exact hN
                · exact hs.elim
              · exact hs.elim
             ·
              rename_i e2 _ _ k2 ty2 j hn2
              split at hs
              · rename_i hkk
                subst hkk
                obtain ⟨hns, hs⟩ := needs_sat hs
                have b1 := leE_spec (env := env) (a := .lit 0) (b := e2) (fun c hc => hns c (by simp only [List.mem_append]; exact .inl hc))
                have b2' := leE_spec (env := env) (a := e2) (b := .len j) (fun c hc => hns c (by simp only [List.mem_append]; exact .inr (.inl hc)))
                have b3 := leE_spec (env := env) (a := e2) (b := .lit 1000000) (fun c hc => hns c (by simp only [List.mem_append]; exact .inr (.inr hc)))
                simp only [Ex.den] at b1 b2' b3
                obtain ⟨hs0, hs1⟩ := hs
                by_cases h0 : e2.den env = 0
                · have hk := hs0 (by simp [Bx.den, cmpDen, Ex.den, h0])
                  rw [h0] at ev2
                  simp only [Int.toNat_zero] at ev2
                  split at hk
                  · have ev1 : a.eval x1 = .slice none 0 0 := (hr1.den (by simp)).now.symm
                    rw [hrun0 _ _ (by rw [ev1, ev2]; exact run_append_none t2 o.type elem inf hu hinf _ _ _ _ _ (Nat.le_refl _) w)]
                    refine hK _ _ _ _ _ hpre (hc.put o.dst ?_) hk
                    rw [← ev1]; exact hr1
                  · rename_i n1 e ce
                    obtain ⟨hns1, hk⟩ := needs_sat hk
                    have d1 := leE_spec (env := env) (a := .lit 0) (b := e) (fun c hc => hns1 c (by simp only [List.mem_append]; exact .inl hc))
                    have d2 := leE_spec (env := env) (a := e) (b := ce) (fun c hc => hns1 c (by simp only [List.mem_append]; exact .inr hc))
                    simp only [Ex.den] at d1
                    obtain ⟨ev1, _, _⟩ := den_slice (hr1.den (by simp))
                    rw [hrun0 _ _ (by rw [ev1, ev2]; exact run_append_none t2 o.type elem inf hu hinf _ _ _ _ _ (by omega) w)]
                    refine hK _ _ _ _ _ hpre (hc.put o.dst ?_) hk
                    rw [← ev1]; exact hr1
                  · exact hk.elim
                · have hk := hs1 (by simp [Bx.den, cmpDen, Ex.den, h0])
                  rcases hS.holds n2 _ hn2 with ⟨_, q2⟩ | ⟨bb, xs, q1, q2, q3, q4⟩
                  · simp [gL, q2] at b2'; omega
                  have hxs : gL env j = xs := by simp [gL, q2]
                  rw [hxs] at b2'
                  rw [q1] at ev2
                  have hlen : (xs.take (e2.den env).toNat).length = (e2.den env).toNat := by rw [List.length_take]; omega
                  have ev3 : a.eval x2 = .slice (some ⟨bb, 0, none⟩) (xs.take (e2.den env).toNat).length (ce2.den env).toNat := by rw [ev2, hlen]; rfl
                  obtain ⟨r, w', hrun, hN⟩ := appGo_sound (X := X) (R := R) (ty := o.type) (t2 := t2) (elem := elem) (s := s) (v1 := a.eval x1) (b2 := ⟨bb, 0, none⟩) (c2 := (ce2.den env).toNat) (ys := xs.take (e2.den env).toNat) (inf := inf) hc hK hpre hu hinf hz hsize hbytes hr1
                   (by
                     intro j v hj
                     rw [Addr.add_lit]
                     simp only [List.getElem?_map, Option.map_eq_some_iff] at hj
                     obtain ⟨x, hx1, rfl⟩ := hj
                     rw [List.getElem?_take] at hx1
                     split at hx1
                     · simp [World.cell?, q3, hx1]
                     · cases hx1)
                   (by omega) (by omega) (fun ys => by rw [hst2, hlen]; omega)
                   (by
                     intro i e t ht r
                     have := ht r
                     rw [hxs] at this
                     rw [hlen]
                     exact this) (fun _ _ _ _ _ _ _ h _ => h) hk
                  rw [hrun0 _ _ (by rw [ev3]; exact hrun)]
                  exact hN
              · exact hs.elim
             · exact hs.elim
           · exact hs.elim
         · exact hs.elim
       · exact hs.elim
     · exact hs.elim
   · exact hs.elim
 · exact hs.elim
theorem litInts_vals {k : IntKind} : ∀ {vs : List SV} {xs : List Int}, litInts k vs = some xs → vs = xs.map fun n => SV.int k (.lit n)
 | [], xs, h => by simp only [litInts, Option.some.injEq] at h; subst h; rfl
 | v :: vs, xs, h => by
   unfold litInts at h
   split at h
   · simp_all
   · rename_i k' n l heq
     simp only [List.cons.injEq] at heq
     obtain ⟨rfl, rfl⟩ := heq
     split at h
     · rename_i hk
       have hk := of_decide_eq_true hk
       subst hk
       simp only [Option.map_eq_some_iff] at h
       obtain ⟨ys, hy, rfl⟩ := h
       rw [litInts_vals hy]; rfl
     · cases h
   · cases h
theorem appK_sound {o : Oper} {st : St} {K : St → Tree} {a : Act} {as : List Act} {pre : List (EV U) × List Value} {N : Act → World → Prop} {Q : Exit → Act → World → Prop} {c : Call} {t : Tree}
 (hc : Conc X.objs w0 F env ρ st a as w) (hK : Goes X R w0 F pre as K N) (hpre : Pfx pre env ρ) (hop : o.op = .call c) (hcal : c.callee = .builtin .append)
 (ht : appK X o st K (c.args.toList.map (evalO st.tm)) c.argTypes.toList = some t) (hs : t.sat X R env) : o.wp X.P a w N Q := by
 unfold Oper.wp
 generalize hargs : c.args.toList.map (evalO st.tm) = args at ht
 generalize htypes : c.argTypes.toList = types at ht
 unfold appK at ht
 split at ht
 · rename_i s n2 e2 ce2 t1 t2 hjoin
   split at ht
   · rename_i elem vs ty2 htt hu hn2
     have htt := of_decide_eq_true htt
     subst htt
     split at ht
     · rename_i k inf hue hinf
       split at ht
       · rename_i k'' hz
         split at ht
         · rename_i x xs hcond hlits
           simp only [Bool.and_eq_true, decide_eq_true_eq] at hcond
           obtain ⟨⟨rfl, hsize⟩, hbytes⟩ := hcond
           obtain ⟨x1, x2, hx⟩ : ∃ x1 x2, c.args.toList = [x1, x2] := by
            have := congrArg List.length hargs
            simp only [List.length_map, List.length_cons, List.length_nil] at this
            match hl : c.args.toList, this with
            | [x1, x2], _ => exact ⟨x1, x2, rfl⟩
           rw [hx] at hargs
           simp only [List.map_cons, List.map_nil, List.cons.injEq, and_true] at hargs
           obtain ⟨g1, g2⟩ := hargs
           have hr1 := evalO_rel hc.tm.1 x1
           rw [g1] at hr1
           have hr2 := evalO_rel hc.tm.1 x2
           rw [g2] at hr2
           obtain ⟨ev2, hst2, _⟩ := den_slice (hr2.den (by simp))
           have harr : c.args.map a.eval = #[a.eval x1, a.eval x2] := by apply Array.toList_inj.1; simp [hx]
           have hty : c.argTypes = #[t2, t2] := by apply Array.toList_inj.1; rw [htypes]
           have hrun0 : ∀ r w', (Builtin.append_ #[t2, t2] o.type #[a.eval x1, a.eval x2]).run X.P w = .ok r w' → (execOp a.eval o).run X.P w = .ok (.value r) w' := by
            intro r w' h
            simp only [execOp, hop, resolve, hcal, Sem.run_bind, Sem.run_pure, Result.andThen_ok, invoke, builtin, harr, hty, h]
           obtain ⟨S, hS⟩ := hc.sat.own
           obtain ⟨b2, cs, p1, p2, p3, p4⟩ := hS.holds n2 _ hn2
           rw [p1] at ev2
           have hvs := litInts_vals hlits
           subst hvs
           have hcs : cs = (x :: xs).map (Value.int k'') := by
            have := p2.1 [] []
            simp only [List.append_nil, List.map_map] at this
            rw [← this]
            exact List.map_congr_left fun n _ => rfl
           split at ht
           rotate_left
           · cases ht
           rename_i hlen
           simp only [Bool.and_eq_true, decide_eq_true_eq] at hlen
           obtain ⟨rfl, hlong⟩ := hlen
           have ev3 : a.eval x2 = .slice (some ⟨b2, 0, none⟩) (x :: xs).length (ce2.den env).toNat := ev2
           have hcell : ∀ j v, ((x :: xs).map (Value.int k''))[j]? = some v → w.cell? ((⟨b2, 0, none⟩ : Addr).add j) = some v := by
            intro j v hj
            rw [Addr.add_lit]
            rw [← hcs] at hj
            simp [World.cell?, p3, hj]
           split at ht
           · injection ht with ht
             subst ht
             obtain ⟨r, w', hrun, hN⟩ := appGo_sound (X := X) (R := R) (ty := o.type) (t2 := t2) (elem := elem) (s := .nils) (v1 := a.eval x1) (b2 := ⟨b2, 0, none⟩) (c2 := (ce2.den env).toNat) (ys := x :: xs) (inf := inf) hc hK hpre hu hinf hz hsize hbytes hr1 hcell
              (by simp) (by simp only [List.length_cons]; omega) (fun ys => rfl) (by
                intro i e t ht r
                have := ht r
                simp only [List.map_map, List.length_map] at this
                have hid : (x :: xs).map (Ex.den env ∘ Ex.lit) = x :: xs := by simp [Function.comp_def, Ex.den]
                rw [hid] at this
                exact this)
              (by
                intro p r env' ρ' st' w' hp h1 h2
                rcases hp with ⟨rfl, _⟩ | ⟨n1, e, ce, k3, ty, i, h0, _⟩
                · exact h1.rowKn h2 (by simp)
                · cases h0) hs
             rw [hrun0 _ _ (by rw [ev3]; exact hrun)]
             exact hN
           · rename_i n1 e ce
             split at ht
             · rename_i k3 ty ys i hn1
               split at ht
               · rename_i he
                 have he := of_decide_eq_true he
                 injection ht with ht
                 subst ht
                 have hnlt := (List.getElem?_eq_some_iff.1 hn1).1
                 obtain ⟨b1, r1, _, q2, _, _⟩ := hS.holds n1 _ hn1
                 have htake : (gL env i).take ((Ex.lit e).den env).toNat = ys := by
                  have : ((Ex.lit e).den env).toNat = ys.length := by simp only [Ex.den]; omega
                  rw [this]; simp [gL, q2]
                 obtain ⟨r, w', hrun, hN⟩ := appGo_sound (X := X) (R := R) (ty := o.type) (t2 := t2) (elem := elem) (s := .slice n1 (.lit e) ce) (v1 := a.eval x1) (b2 := ⟨b2, 0, none⟩) (c2 := (ce2.den env).toNat) (ys := x :: xs) (inf := inf) (hc.knRow hn1) hK hpre hu hinf hz hsize hbytes hr1 hcell
                  (by simp) (by simp only [List.length_cons]; omega) (fun ys => rfl) (by
                    intro i e t ht r
                    have := ht r
                    simp only [List.map_map, List.length_map] at this
                    have hid : (x :: xs).map (Ex.den env ∘ Ex.lit) = x :: xs := by simp [Function.comp_def, Ex.den]
                    rw [hid] at this
                    exact this)
                  (by
                    intro p r env' ρ' st' w' hp h1 h2
                    rcases hp with ⟨rfl, h0 | ⟨n1', e', ce', h0, h3⟩⟩ | ⟨n1', e', ce', k3', ty', i', h0, h3, rfl⟩
                    · cases h0
                    · injection h0 with h0 h4 h5
                      subst h4
                      have hx0 : ys = [] := by
                       apply List.eq_nil_of_length_eq_zero
                       simp only [Ex.den] at h3; omega
                      subst hx0
                      exact h1.rowKn h2 (by simp)
                    · injection h0 with h0 h4 h5
                      subst h0 h4
                      simp only [List.getElem?_set_self hnlt, Option.some.injEq, HE.row.injEq] at h3
                      obtain ⟨_, _, rfl⟩ := h3
                      rw [htake] at h2
                      exact h1.rowKn h2 (by simp)) hs
                 rw [hrun0 _ _ (by rw [ev3]; exact hrun)]
                 exact hN
               · cases ht
             · cases ht
           · cases ht
         · cases ht
       · cases ht
     · cases ht
   · cases ht
 · cases ht
theorem appPre_sound {l : List SV} {st : St} {K : St → Tree} {a : Act} {as : List Act} (hc : Conc X.objs w0 F env ρ st a as w) (hs : (appPre X l st K).sat X R env) : ∃ st' o, st'.tm = st.tm ∧ Conc X.objs w0 F (env ++ o) ρ st' a as w ∧ (K st').sat X R (env ++ o) := by
 have same : (K st).sat X R env → ∃ st' o, st'.tm = st.tm ∧ Conc X.objs w0 F (env ++ o) ρ st' a as w ∧ (K st').sat X R (env ++ o) := fun h => ⟨st, [], rfl, by rw [List.append_nil]; exact hc, by rw [List.append_nil]; exact h⟩
 have conv : ∀ {n : Nat} {vs : List SV} {ty : TypeId} {k : IntKind} {xs : List Ex} (h' : HE), st.hp[n]? = some (.cells vs ty) → allInts k vs = some xs →
  (∀ v (S : Nat → Prop) b, v = .pointer (some ⟨b, 0, none⟩) → w.heap[b]? = some (.cells ((xs.map (Ex.den env)).map (Value.int k)).toArray ty (0, 0)) → S b → Holds X.objs w0 F (env ++ [.l (xs.map (Ex.den env))]) ρ h' v w S) →
  Conc X.objs w0 F (env ++ [.l (xs.map (Ex.den env))]) ρ { st with hp := st.hp.set n h', ne := st.ne + 1 } a as w := by
  intro n vs ty k xs h' hn hx hh
  have hvs := allInts_vals hx
  subst hvs
  refine (hc.ext [.l (xs.map (Ex.den env))]).recast hn fun v S ⟨b, cs, e1, e2, e3, e4⟩ => hh v S b e1 ?_ e4
  have hcs : cs = (xs.map (Ex.den (env ++ [.l (xs.map (Ex.den env))]))).map (Value.int k) := by
   have := e2.1 [] []
   simp only [List.append_nil, List.map_map] at this
   rw [← this, List.map_map]
   exact List.map_congr_left fun n _ => rfl
  obtain ⟨S', hS'⟩ := hc.sat.own
  obtain ⟨b0, cs0, _, f2, _, _⟩ := hS'.holds n _ hn
  have f3 : ∀ e ∈ xs, e.den (env ++ [.l (xs.map (Ex.den env))]) = e.den env := by
   intro e he
   have g1 := f2.1 [.l (xs.map (Ex.den env))] []
   have g2 := f2.1 [] []
   rw [← g2] at g1
   simp only [List.append_nil, List.map_map] at g1
   have := List.map_inj_left.1 g1 e he
   simp only [Function.comp, SV.den, Value.int.injEq, true_and] at this
   exact this
  rw [e3, hcs]
  congr 3
  exact congrArg _ (List.map_congr_left f3)
 unfold appPre at hs
 split at hs
 · split at hs
   · rename_i n1 e c tl _ vs ty hn
     split at hs
     · rename_i k hu
       split at hs
       · rename_i xs hx
         split at hs
         · rename_i ns hj hns
           split at hs
           · rename_i hlen
             have hxs : xs.map (Ex.den env) = ns := by
              have g1 := allInts_vals hx
              have g2 := litInts_vals hns
              rw [g1] at g2
              have : xs = ns.map Ex.lit := by
               have g3 := congrArg (List.map fun v => match v with | SV.int _ e => e | _ => Ex.lit 0) g2
               simpa [List.map_map, Function.comp_def] using g3
              rw [this]; simp [Function.comp_def, Ex.den]
             refine ⟨{ st with hp := st.hp.set n1 (.kn k ty ns st.ne), ne := st.ne + 1 }, [.l (xs.map (Ex.den env))], rfl, conv (.kn k ty ns st.ne) hn hx (fun v S b e1 e3 e4 => ⟨b, [], e1, by rw [← hc.ne, last_get, List.append_nil, hxs], by rw [List.append_nil, ← hxs]; exact e3, e4⟩), hs⟩
           · exact same hs
         · exact ⟨{ st with hp := st.hp.set n1 (.row k ty st.ne), ne := st.ne + 1 }, [.l (xs.map (Ex.den env))], rfl, conv (.row k ty st.ne) hn hx (fun v S b e1 e3 e4 => .inr ⟨b, _, e1, by rw [← hc.ne, last_get], e3, e4⟩), hs⟩
       · exact same hs
     · exact same hs
   · exact same hs
 · exact same hs
theorem appS_sound {o : Oper} {st : St} {K : St → Tree} {a : Act} {as : List Act} {pre : List (EV U) × List Value} {N : Act → World → Prop} {Q : Exit → Act → World → Prop} {c : Call}
 (hc : Conc X.objs w0 F env ρ st a as w) (hK : Goes X R w0 F pre as K N) (hpre : Pfx pre env ρ) (hop : o.op = .call c) (hcal : c.callee = .builtin .append)
 (hs : (appS X o st K (c.args.toList.map (evalO st.tm)) c.argTypes.toList).sat X R env) : o.wp X.P a w N Q := by
 unfold Oper.wp
 generalize hargs : c.args.toList.map (evalO st.tm) = args at hs
 generalize htypes : c.argTypes.toList = types at hs
 unfold appS at hs
 split at hs
 · rename_i s n2 ce2 t t2
   split at hs
   · rename_i htt
     subst htt
     split at hs
     · rename_i elem k x ty2 hu hn2
       split at hs
       · rename_i k' inf hue hinf
         split at hs
         · rename_i k'' hz
           split at hs
           · rename_i hcond
             simp only [Bool.and_eq_true, decide_eq_true_eq] at hcond
             obtain ⟨⟨⟨rfl, rfl⟩, hsize⟩, hbytes⟩ := hcond
             obtain ⟨x1, x2, hx⟩ : ∃ x1 x2, c.args.toList = [x1, x2] := by
              have := congrArg List.length hargs
              simp only [List.length_map, List.length_cons, List.length_nil] at this
              match hl : c.args.toList, this with
              | [x1, x2], _ => exact ⟨x1, x2, rfl⟩
             rw [hx] at hargs
             simp only [List.map_cons, List.map_nil, List.cons.injEq, and_true] at hargs
             obtain ⟨g1, g2⟩ := hargs
             have hr1 := evalO_rel hc.tm.1 x1
             rw [g1] at hr1
             have hr2 := evalO_rel hc.tm.1 x2
             rw [g2] at hr2
             obtain ⟨ev2, _, _⟩ := den_slice (hr2.den (by simp))
             have h1n : (Ex.den env (.lit 1)).toNat = 1 := rfl
             rw [h1n] at ev2
             have harr : c.args.map a.eval = #[a.eval x1, a.eval x2] := by apply Array.toList_inj.1; simp [hx]
             have hty : c.argTypes = #[t2, t2] := by apply Array.toList_inj.1; rw [htypes]
             have hrun0 : ∀ r w', (Builtin.append_ #[t2, t2] o.type #[a.eval x1, a.eval x2]).run X.P w = .ok r w' → (execOp a.eval o).run X.P w = .ok (.value r) w' := by
              intro r w' h
              simp only [execOp, hop, resolve, hcal, Sem.run_bind, Sem.run_pure, Result.andThen_ok, invoke, builtin, harr, hty, h]
             obtain ⟨S, hS⟩ := hc.sat.own
             obtain ⟨b2, cs, p1, p2, p3, p4⟩ := hS.holds n2 _ hn2
             obtain ⟨c0, ds, rfl, hd0, hds⟩ := p2.uncons
             have hds0 : ds = [] := by have := hds.1 [] []; simpa using this.symm
             subst hds0
             obtain rfl : Value.int k'' (x.den env) = c0 := hd0.now
             rw [p1] at ev2
             have hcell2 : ∀ (w' : World), w'.heap = w.heap → ∀ j v, ([Value.int k'' (x.den env)] : List Value)[j]? = some v → w'.cell? ((⟨b2, 0, none⟩ : Addr).add j) = some v := by
              intro w' hw' j v hj
              match j, hj with
              | 0, hj => cases hj; rw [Addr.add_lit]; simp [World.cell?, hw', p3]
              | j + 1, hj => simp at hj
             split at hs
             ·
              have ev1 : a.eval x1 = .slice none 0 0 := by have := (hr1.den (by simp)).now; exact this.symm
              have happ := run_append_nil (P := X.P) (w := w) t2 o.type elem inf (.int k'' 0) hu hinf hz ⟨b2, 0, none⟩ 1 (ce2.den env).toNat [Value.int k'' (x.den env)] (by simp [hsize]) (hcell2 w rfl) (by omega) (by omega) (by omega)
              rw [hrun0 _ _ (by rw [ev1, ev2]; exact happ)]
              have hge := grownCap_ge w 1 0 elem
              generalize hcap : grownCap w 1 0 elem - 1 = cp at *
              have hcap2 : grownCap w 1 0 elem = 1 + cp := by omega
              rw [hcap2]
              have hcells : (([Value.int k'' (x.den env)] : List Value).toArray ++ Builtin.zeroCells (Value.int k'' 0).cells cp) = (([] ++ x.den env :: List.replicate cp 0 : List Int).map (Value.int k'')).toArray := by
               rw [zeroInts]; simp
              rw [hcells]
              have hk := hs (List.replicate cp 0)
              have hn := app_new (ys := []) (r := List.replicate cp 0) (y := x.den env) (d := w.drawn + 1) (k := k'') (elem := elem) (e' := .lit 1) (o := o) hc hK hpre (fun xs => rfl) (by simpa [Ex.den] using hk)
              show N (a.put o.dst _) _
              simpa using hn
             · rename_i n1 e ce
               split at hs
               · rename_i k3 ty i hn1
                 split at hs
                 · rename_i hcond2
                   simp only [Bool.and_eq_true, decide_eq_true_eq] at hcond2
                   obtain ⟨rfl, rfl⟩ := hcond2
                   obtain ⟨hns, hs⟩ := needs_sat hs
                   have b1 := leE_spec (env := env) (a := .lit 0) (b := e) (fun c hc => hns c (by simp only [List.mem_append]; exact .inl hc))
                   have b2' := leE_spec (env := env) (a := e) (b := ce) (fun c hc => hns c (by simp only [List.mem_append]; exact .inr (.inl hc)))
                   have b3 := leE_spec (env := env) (a := ce) (b := .len i) (fun c hc => hns c (by simp only [List.mem_append]; exact .inr (.inr (.inl hc))))
                   have b4 := leE_spec (env := env) (a := .len i) (b := ce) (fun c hc => hns c (by simp only [List.mem_append]; exact .inr (.inr (.inr (.inl hc)))))
                   have b5 := leE_spec (env := env) (a := e) (b := .lit 1000000) (fun c hc => hns c (by simp only [List.mem_append]; exact .inr (.inr (.inr (.inr hc)))))
                   simp only [Ex.den] at b1 b3 b4 b5
                   obtain ⟨ev1, hst1, hst2⟩ := den_slice (hr1.den (by simp))
                   have hwrap : ∀ xs, (mkBin .add .i64 e (.lit 1)).den (env ++ xs) = (((e.den env).toNat + 1 : Nat) : Int) := by
                    intro xs
                    rw [den_mkBin, hst1]
                    simp only [binDen, Ex.den]
                    rw [wrap_small (n := e.den env + 1) (by omega) (by omega)]
                    omega
                   rcases hS.holds n1 _ hn1 with ⟨q1, q2⟩ | ⟨b1', xs, q1, q2, q3, q4⟩
                   ·
                    have hxs : gL env i = [] := by simp [gL, q2]
                    simp only [Tree.sat] at hs
                    rw [hxs] at b3 b4 hs
                    simp only [List.length_nil] at b3 b4
                    have e0 : (e.den env).toNat = 0 := by omega
                    have c0 : (ce.den env).toNat = 0 := by omega
                    rw [q1, e0, c0] at ev1
                    have happ := run_append_nil (P := X.P) (w := w) t2 o.type ty inf (.int k3 0) hu hinf hz ⟨b2, 0, none⟩ 1 (ce2.den env).toNat [Value.int k3 (x.den env)] (by simp [hsize]) (hcell2 w rfl) (by omega) (by omega) (by omega)
                    rw [hrun0 _ _ (by rw [ev1, ev2]; exact happ)]
                    have hge := grownCap_ge w 1 0 ty
                    generalize hcap : grownCap w 1 0 ty - 1 = cp at *
                    have hcap2 : grownCap w 1 0 ty = 1 + cp := by omega
                    rw [hcap2]
                    have hcells : (([Value.int k3 (x.den env)] : List Value).toArray ++ Builtin.zeroCells (Value.int k3 0).cells cp) = (([] ++ x.den env :: List.replicate cp 0 : List Int).map (Value.int k3)).toArray := by
                     rw [zeroInts]; simp
                    rw [hcells]
                    have hk := hs (List.replicate cp 0)
                    rw [e0] at hk hwrap
                    have hn := app_new (ys := []) (r := List.replicate cp 0) (y := x.den env) (d := w.drawn + 1) (k := k3) (elem := ty) (e' := mkBin .add .i64 e (.lit 1)) (o := o) (hc.letGo n1) hK hpre hwrap (by simpa [e0] using hk)
                    show N (a.put o.dst _) _
                    simpa using hn
                   · have hxs : gL env i = xs := by simp [gL, q2]
                     simp only [Tree.sat] at hs
                     rw [hxs] at b3 b4 hs
                     have hlen : ((xs.take (e.den env).toNat).length) = (e.den env).toNat := by rw [List.length_take]; omega
                     rw [q1] at ev1
                     by_cases hroom : (e.den env).toNat + 1 ≤ (ce.den env).toNat
                     ·
                      have happ := run_append_room (P := X.P) (w := w) t2 o.type ty inf hu hinf b1' (e.den env).toNat (ce.den env).toNat _ q3 ⟨b2, 0, none⟩ 1 (ce2.den env).toNat [Value.int k3 (x.den env)] (by simp [hsize]) (hcell2 w rfl) (by simp [Value.oneCell']) hroom (by simp [hsize]; omega)
                      rw [hrun0 _ _ (by rw [ev1, ev2]; exact happ)]
                      have hcells : (((xs.map (Value.int k3)).toArray).toList.take ((e.den env).toNat * inf.size) ++ [Value.int k3 (x.den env)] ++ ((xs.map (Value.int k3)).toArray).toList.drop ((e.den env).toNat * inf.size + [Value.int k3 (x.den env)].length)) = (xs.take (e.den env).toNat ++ x.den env :: xs.drop ((e.den env).toNat + 1)).map (Value.int k3) := by
                       simp [hsize, List.map_take, List.map_drop]
                      rw [hcells]
                      have hk := hs (xs.drop ((e.den env).toNat + 1))
                      have hcl : (ce.den env).toNat = (e.den env).toNat + 1 + (xs.drop ((e.den env).toNat + 1)).length := by rw [List.length_drop]; omega
                      generalize hY : xs.take (e.den env).toNat ++ x.den env :: xs.drop ((e.den env).toNat + 1) = ys at *
                      have hc1 := hc.ext [EV.l ys, EV.i (((e.den env).toNat + 1 + (xs.drop ((e.den env).toNat + 1)).length : Nat) : Int)]
                      have hc2 := hc1.setRow' (n := n1) (i := i) (j := st.ne) (k := k3) (ty := ty) (xs := ys) (b := b1') hn1 q1 (by rw [← hc.ne]; simp)
                      have hnlt := (List.getElem?_eq_some_iff.1 hn1).1
                      have hc3 := hc2.renameRow (n := n1) (i := st.ne) (k := k3) (ty := ty) (by simp [hnlt])
                      simp only [List.set_set, List.length_set] at hc3
                      refine hK _ _ _ _ _ ((hpre.env _).rho _) (hc3.put o.dst (.inr ?_)) hk
                      have hv1 : ∀ xs' : List (EV U), (Ex.var (st.ne + 1)).den ((env ++ [EV.l ys, EV.i (((e.den env).toNat + 1 + (xs.drop ((e.den env).toNat + 1)).length : Nat) : Int)]) ++ xs') = (((e.den env).toNat + 1 + (xs.drop ((e.den env).toNat + 1)).length : Nat) : Int) := by
                       intro xs'
                       rw [← hc.ne, List.append_assoc]
                       simp only [Ex.den, gI]
                       rw [List.getElem?_append_right (by omega), Nat.add_sub_cancel_left]
                       rfl
                      have hv0 := hv1 []
                      rw [List.append_nil] at hv0
                      have he2 := hwrap [EV.l ys, EV.i (((e.den env).toNat + 1 + (xs.drop ((e.den env).toNat + 1)).length : Nat) : Int)]
                      have hd := slice_den (env := env ++ [EV.l ys, EV.i (((e.den env).toNat + 1 + (xs.drop ((e.den env).toNat + 1)).length : Nat) : Int)]) (ρ := ρ ++ [hv ρ n1]) (n := st.hp.length) (l := mkBin .add .i64 e (.lit 1)) (c := .var (st.ne + 1)) (by simp [hc.sat.len]) (fun xs' => by rw [he2, List.append_assoc, hwrap]) (fun xs' => by rw [hv1 xs', hv0])
                      rw [← hc.sat.len, hv_len, he2, hv0, Int.toNat_natCast, Int.toNat_natCast, q1, ← hcl] at hd
                      show Den _ _ (SV.slice st.hp.length (mkBin .add .i64 e (.lit 1)) (.var (st.ne + 1))) _
                      rw [← hc.sat.len, q1, ← hcl]
                      exact hd
                     ·
                      have hcell1 : ∀ j v, ((xs.take (e.den env).toNat).map (Value.int k3))[j]? = some v → w.cell? ((⟨b1', 0, none⟩ : Addr).add j) = some v := by
                       intro j v hj
                       rw [Addr.add_lit]
                       simp only [List.getElem?_map, Option.map_eq_some_iff] at hj
                       obtain ⟨x, hx1, rfl⟩ := hj
                       rw [List.getElem?_take] at hx1
                       split at hx1
                       · simp [World.cell?, q3, hx1]
                       · cases hx1
                      have happ := run_append_grow (P := X.P) (w := w) t2 o.type ty inf (.int k3 0) hu hinf hz ⟨b1', 0, none⟩ (e.den env).toNat (ce.den env).toNat ((xs.take (e.den env).toNat).map (Value.int k3)) (by rw [List.length_map, hlen, hsize, Nat.mul_one]) hcell1 ⟨b2, 0, none⟩ 1 (ce2.den env).toNat [Value.int k3 (x.den env)] (by simp [hsize]) (hcell2 w rfl) (by omega) (by omega)
                       (growslice_fits (by omega) (by
                         have : ((e.den env).toNat + 1) * inf.bytes ≤ 1000001 * 8 := Nat.mul_le_mul (by omega) hbytes
                         omega))
                      rw [hrun0 _ _ (by rw [ev1, ev2]; exact happ)]
                      have hge := grownCap_ge w ((e.den env).toNat + 1) (ce.den env).toNat ty
                      generalize hcap : grownCap w ((e.den env).toNat + 1) (ce.den env).toNat ty - ((e.den env).toNat + 1) = cp at *
                      have hcap2 : grownCap w ((e.den env).toNat + 1) (ce.den env).toNat ty = (e.den env).toNat + 1 + cp := by omega
                      rw [hcap2]
                      have hcells : (((xs.take (e.den env).toNat).map (Value.int k3)).toArray ++ ([Value.int k3 (x.den env)] : List Value).toArray ++ Builtin.zeroCells (Value.int k3 0).cells cp) = ((xs.take (e.den env).toNat ++ x.den env :: List.replicate cp 0).map (Value.int k3)).toArray := by
                       rw [zeroInts]; simp
                      rw [hcells]
                      have hk := hs (List.replicate cp 0)
                      rw [List.length_replicate] at hk
                      have hn := app_new (ys := xs.take (e.den env).toNat) (r := List.replicate cp 0) (y := x.den env) (d := w.drawn + 1) (k := k3) (elem := ty) (e' := mkBin .add .i64 e (.lit 1)) (o := o) (hc.letGo n1) hK hpre (by rw [hlen]; exact hwrap) (by simpa [hlen] using hk)
                      rw [hlen, List.length_replicate] at hn
                      exact hn
                 · exact hs.elim
               · exact hs.elim
             · exact hs.elim
           · exact hs.elim
         · exact hs.elim
       · exact hs.elim
     · exact hs.elim
   · exact hs.elim
 · have := appM_sound (Q := Q) hc hK hpre hop hcal (by rw [hargs, htypes]; exact hs)
   unfold Oper.wp at this
   exact this
theorem zeroT_info {P : Program} {t : TypeId} {zs : List SV} {inf : TypeInfo} (h : zeroT P t = some zs) (hi : P.info? t = some inf) : ∃ z, inf.zero = some z ∧ z.cells.size = zs.length := by
 unfold zeroT at h
 split at h
 · rename_i z hz
   rw [hi] at hz
   simp only at h
   split at h
   · injection h with h
     subst h
     exact ⟨z, hz, by simp⟩
   · cases h
 · cases h
theorem apps_one {i : Option Nat} {e : Nat} {k : Tree} {env : List (EV U)} (h : (Tree.apps i (.lit e) [.lit 0] k).sat X R env) (n : Nat) :
 k.sat X R (env ++ [.l ((match i with | none => [] | some i => gL env i).take e ++ [0] ++ List.replicate n 0), .i ((e + 1 + n : Nat) : Int)]) := by
 have := h (List.replicate n 0)
 simpa [Ex.den] using this
theorem appC_sound (ho : ObjsOk X.objs) {o : Oper} {st : St} {K : St → Tree} {a : Act} {as : List Act} {pre : List (EV U) × List Value} {N : Act → World → Prop} {Q : Exit → Act → World → Prop} {c : Call}
 (hc : Conc X.objs w0 F env ρ st a as w) (hK : Goes X R w0 F pre as K N) (hpre : Pfx pre env ρ) (hop : o.op = .call c) (hcal : c.callee = .builtin .append)
 (hs : (appC X o st K (c.args.toList.map (evalO st.tm)) c.argTypes.toList).sat X R env) : o.wp X.P a w N Q := by
 unfold Oper.wp
 generalize hargs : c.args.toList.map (evalO st.tm) = args at hs
 generalize htypes : c.argTypes.toList = types at hs
 unfold appC at hs
 split at hs
 · rename_i s n2 ce2 t t2
   split at hs
   · rename_i htt
     subst htt
     split at hs
     · rename_i elem vs ty2 hu hn2
       split at hs
       · rename_i zs inf hzt hinf
         split at hs
         · rename_i hcond
           simp only [Bool.and_eq_true, decide_eq_true_eq] at hcond
           obtain ⟨⟨⟨⟨hzl, hvl⟩, hpos⟩, hbytes⟩, hok⟩ := hcond
           obtain ⟨z, hz, hzc⟩ := zeroT_info hzt hinf
           rw [hzl] at hzc
           obtain ⟨x1, x2, hx⟩ : ∃ x1 x2, c.args.toList = [x1, x2] := by
            have := congrArg List.length hargs
            simp only [List.length_map, List.length_cons, List.length_nil] at this
            match hl : c.args.toList, this with
            | [x1, x2], _ => exact ⟨x1, x2, rfl⟩
           rw [hx] at hargs
           simp only [List.map_cons, List.map_nil, List.cons.injEq, and_true] at hargs
           obtain ⟨g1, g2⟩ := hargs
           have hr1 := evalO_rel hc.tm.1 x1
           rw [g1] at hr1
           have hr2 := evalO_rel hc.tm.1 x2
           rw [g2] at hr2
           obtain ⟨ev2, hst2, _⟩ := den_slice (hr2.den (by simp))
           have harr : c.args.map a.eval = #[a.eval x1, a.eval x2] := by apply Array.toList_inj.1; simp [hx]
           have hty : c.argTypes = #[t2, t2] := by apply Array.toList_inj.1; rw [htypes]
           have hrun0 : ∀ r w', (Builtin.append_ #[t2, t2] o.type #[a.eval x1, a.eval x2]).run X.P w = .ok r w' → (execOp a.eval o).run X.P w = .ok (.value r) w' := by
            intro r w' h
            simp only [execOp, hop, resolve, hcal, Sem.run_bind, Sem.run_pure, Result.andThen_ok, invoke, builtin, harr, hty, h]
           obtain ⟨S, hS⟩ := hc.sat.own
           obtain ⟨b2, cs, p1, p2, p3, p4⟩ := hS.holds n2 _ hn2
           rw [p1] at ev2
           have ev3 : a.eval x2 = .slice (some ⟨b2, 0, none⟩) 1 (ce2.den env).toNat := ev2
           have hcl : cs.length = inf.size := by have := p2.len; omega
           have hcell : ∀ j v, cs[j]? = some v → w.cell? ((⟨b2, 0, none⟩ : Addr).add j) = some v := by
            intro j v hj
            rw [Addr.add_lit]
            simp [World.cell?, p3, hj]
           have hone : ∀ u ∈ cs, u.oneCell' = true := by
            intro u hu
            obtain ⟨j, hj⟩ := List.mem_iff_getElem?.1 hu
            have hlt := (List.getElem?_eq_some_iff.1 hj).1
            have hlt2 : j < vs.length := by have := p2.len; omega
            obtain ⟨c', hc1, hd1⟩ := p2.get (List.getElem?_eq_getElem hlt2)
            rw [hj] at hc1
            injection hc1 with hc1
            subst hc1
            exact (cellOk_spec (hc.sat.reads ho) (List.all_eq_true.1 hok _ (List.getElem_mem hlt2)) (.inr hd1)).2.1
           have hzz : ∀ n, (Builtin.zeroCells z.cells n).toList.length = n * inf.size := fun n => by
            have := size_zeroCells z.cells n
            rw [hzc] at this
            simpa using this
           split at hs
           ·
            have ev1 : a.eval x1 = .slice none 0 0 := (hr1.den (by simp)).now.symm
            have happ := run_append_nil (P := X.P) (w := w) t2 o.type elem inf z hu hinf hz ⟨b2, 0, none⟩ 1 (ce2.den env).toNat cs (by omega) hcell (by omega) (by omega) (by omega)
            rw [hrun0 _ _ (by rw [ev1, ev3]; exact happ)]
            have hge := grownCap_ge w 1 0 elem
            generalize hcap : grownCap w 1 0 elem - 1 = cp at *
            have hcap2 : grownCap w 1 0 elem = 1 + cp := by omega
            rw [hcap2]
            have hk := apps_one (e := 0) hs cp
            simp only [List.take_zero, List.nil_append, Nat.zero_add] at hk
            have hc2 := (hc.drewn (w.drawn + 1)).ext [EV.l ([0] ++ List.replicate cp 0), EV.i ((1 + cp : Nat) : Int)]
            have hc3 := hc2.allocKc (vs := vs) (cs := cs) (r := (Builtin.zeroCells z.cells cp).toList) (ty := elem) (sz := inf.size) (i := st.ne) (l := [0] ++ List.replicate cp 0) (by have := p2.ext [EV.l ([0] ++ List.replicate cp 0), EV.i ((1 + cp : Nat) : Int)] []; rw [List.append_nil] at this; exact this) (by rw [← hc.ne]; simp) (by rw [hzz, hcl]; simp only [List.length_append, List.length_replicate, List.length_singleton]; rw [Nat.add_mul, Nat.one_mul])
            have hcells : (cs ++ (Builtin.zeroCells z.cells cp).toList).toArray = cs.toArray ++ Builtin.zeroCells z.cells cp := by simp
            rw [hcells] at hc3
            refine hK _ _ _ _ _ ((hpre.env _).rho _) (hc3.put o.dst (.inr ?_)) hk
            have hd := slice_den (env := env ++ [EV.l ([0] ++ List.replicate cp 0), EV.i ((1 + cp : Nat) : Int)]) (ρ := ρ ++ [Value.pointer (some ⟨w.heap.size, 0, none⟩)]) (n := st.hp.length) (l := .lit 1) (c := .var (st.ne + 1)) (by simp [hc.sat.len]) (fun _ => rfl) (fun xs' => by rw [← hc.ne]; simp [Ex.den, gI, List.getElem?_append_right])
            have hv0 : (Ex.var (st.ne + 1)).den (env ++ [EV.l ([0] ++ List.replicate cp 0), EV.i ((1 + cp : Nat) : Int)]) = ((1 + cp : Nat) : Int) := by rw [← hc.ne]; simp [Ex.den, gI, List.getElem?_append_right]
            rw [← hc.sat.len, hv_len, hv0, Int.toNat_natCast] at hd
            show Den _ _ (SV.slice st.hp.length (.lit 1) (.var (st.ne + 1))) _
            rw [← hc.sat.len]
            exact hd
           · rename_i n1 e ce
             split at hs
             · rename_i us ty sz i hn1
               split at hs
               · rename_i hcond2
                 simp only [Bool.and_eq_true, decide_eq_true_eq] at hcond2
                 obtain ⟨⟨⟨rfl, rfl⟩, hul⟩, hsmall⟩ := hcond2
                 obtain ⟨hns, hs⟩ := needs_sat hs
                 have b1 := leE_spec (env := env) (a := .lit e) (b := ce) (fun c hc => hns c (by simp only [List.mem_append]; exact .inl hc))
                 have b3 := leE_spec (env := env) (a := ce) (b := .len i) (fun c hc => hns c (by simp only [List.mem_append]; exact .inr (.inl hc)))
                 have b4 := leE_spec (env := env) (a := .len i) (b := ce) (fun c hc => hns c (by simp only [List.mem_append]; exact .inr (.inr hc)))
                 simp only [Ex.den] at b1 b3 b4
                 obtain ⟨ev1, hst1, hst3⟩ := den_slice (hr1.den (by simp))
                 obtain ⟨b1', cs1, r1, q1, q2, ⟨l, q0, q5⟩, q3, q4⟩ := hS.holds n1 _ hn1
                 have hxs : gL env i = l := by simp [gL, q0]
                 rw [hxs] at b3 b4
                 have hul1 : cs1.length = e * inf.size := by have := q2.len; omega
                 have hen : ((Ex.lit (Int.ofNat e)).den env).toNat = e := rfl
                 rw [q1, hen] at ev1
                 have hce : (ce.den env).toNat = l.length := by omega
                 rw [hce] at ev1
                 have hel : e ≤ l.length := by omega
                 have hdl : DenL env ρ (us ++ vs) (cs1 ++ cs) := q2.append p2
                 by_cases hroom : e + 1 ≤ l.length
                 · have hr1l : inf.size ≤ r1.length := by
                    have : (e + 1) * inf.size ≤ l.length * inf.size := Nat.mul_le_mul_right _ hroom
                    rw [Nat.add_mul] at this
                    omega
                   have happ := run_append_room (P := X.P) (w := w) t2 o.type ty inf hu hinf b1' e l.length _ q3 ⟨b2, 0, none⟩ 1 (ce2.den env).toNat cs (by omega) hcell hone hroom (by simp; omega)
                   rw [hrun0 _ _ (by rw [ev1, ev3]; exact happ)]
                   have hcells : ((cs1 ++ r1).toArray.toList.take (e * inf.size) ++ cs ++ (cs1 ++ r1).toArray.toList.drop (e * inf.size + cs.length)) = (cs1 ++ cs) ++ r1.drop inf.size := by
                    have h1 : (cs1 ++ r1).take (e * inf.size) = cs1 := by rw [← hul1]; exact List.take_left
                    have h2 : (cs1 ++ r1).drop (e * inf.size + cs.length) = r1.drop inf.size := by
                     rw [← List.drop_drop, ← hul1, List.drop_left, hcl]
                    simp only [List.toList_toArray]
                    rw [h1, h2]
                   rw [hcells]
                   have hk := hs (l.drop (e + 1))
                   simp only [Ex.den, List.map_cons, List.map_nil, List.length_singleton, hxs] at hk
                   have hen2 : (Int.ofNat e).toNat = e := rfl
                   have hen3 : ((e : Int)).toNat = e := by omega
                   rw [hen3] at hk
                   have hcl2 : e + 1 + (l.drop (e + 1)).length = l.length := by rw [List.length_drop]; omega
                   rw [hcl2] at hk
                   have hll : (l.take e ++ [0] ++ l.drop (e + 1)).length = l.length := by rw [List.length_append, List.length_append, List.length_take, List.length_drop, List.length_singleton]; omega
                   generalize hL : l.take e ++ [0] ++ l.drop (e + 1) = l' at *
                   have hc1 := hc.ext [EV.l l', EV.i ((l.length : Nat) : Int)]
                   have hc2 := hc1.setKc (n := n1) (i' := st.ne) (vs := us ++ vs) (cs := cs1 ++ cs) (r := r1.drop inf.size) (l := l') (b := b1') hn1 q1 (by have := hdl.ext [EV.l l', EV.i ((l.length : Nat) : Int)] []; rw [List.append_nil] at this; exact this) (by rw [← hc.ne]; simp) (by
                    rw [hll, List.length_append, List.length_drop, ← q5]; omega)
                   have hnlt := (List.getElem?_eq_some_iff.1 hn1).1
                   have hc3 := hc2.rename (n := n1) (e0 := .kc (us ++ vs) ty inf.size st.ne) (by simp [hnlt])
                   simp only [List.set_set, List.length_set] at hc3
                   refine hK _ _ _ _ _ ((hpre.env _).rho _) (hc3.put o.dst (.inr ?_)) hk
                   have hv1 : ∀ xs' : List (EV U), (Ex.var (st.ne + 1)).den ((env ++ [EV.l l', EV.i ((l.length : Nat) : Int)]) ++ xs') = ((l.length : Nat) : Int) := by
                    intro xs'
                    rw [← hc.ne, List.append_assoc]
                    simp only [Ex.den, gI]
                    rw [List.getElem?_append_right (by omega), Nat.add_sub_cancel_left]
                    rfl
                   have hv0 := hv1 []
                   rw [List.append_nil] at hv0
                   have hd := slice_den (env := env ++ [EV.l l', EV.i ((l.length : Nat) : Int)]) (ρ := ρ ++ [hv ρ n1]) (n := st.hp.length) (l := .lit (e + 1 : Nat)) (c := .var (st.ne + 1)) (by simp [hc.sat.len]) (fun _ => rfl) (fun xs' => by rw [hv1 xs', hv0])
                   rw [← hc.sat.len, hv_len, hv0, Int.toNat_natCast, q1] at hd
                   show Den _ _ (SV.slice st.hp.length (.lit (e + 1 : Nat)) (.var (st.ne + 1))) _
                   rw [← hc.sat.len, q1]
                   exact hd
                 · have hcell1 : ∀ j v, cs1[j]? = some v → w.cell? ((⟨b1', 0, none⟩ : Addr).add j) = some v := by
                    intro j v hj
                    rw [Addr.add_lit]
                    have h1 : (cs1 ++ r1)[j]? = some v := by rw [List.getElem?_append_left (List.getElem?_eq_some_iff.1 hj).1]; exact hj
                    simp [World.cell?, q3, h1]
                   have happ := run_append_grow (P := X.P) (w := w) t2 o.type ty inf z hu hinf hz ⟨b1', 0, none⟩ e l.length cs1 hul1 hcell1 ⟨b2, 0, none⟩ 1 (ce2.den env).toNat cs (by omega) hcell (by omega) (by omega)
                    (growslice_fits (by omega) (by
                      have : (e + 1) * inf.bytes ≤ 1001 * 4096 := Nat.mul_le_mul (by omega) hbytes
                      omega))
                   rw [hrun0 _ _ (by rw [ev1, ev3]; exact happ)]
                   have hge := grownCap_ge w (e + 1) l.length ty
                   generalize hcap : grownCap w (e + 1) l.length ty - (e + 1) = cp at *
                   have hcap2 : grownCap w (e + 1) l.length ty = e + 1 + cp := by omega
                   rw [hcap2]
                   have hk := apps_one hs cp
                   simp only [hxs] at hk
                   have hll : (l.take e ++ [0] ++ List.replicate cp 0).length = e + 1 + cp := by rw [List.length_append, List.length_append, List.length_take, List.length_replicate, List.length_singleton]; omega
                   generalize hL : l.take e ++ [0] ++ List.replicate cp 0 = l' at *
                   have hc1 := ((hc.letGo n1).drewn (w.drawn + 1)).ext [EV.l l', EV.i ((e + 1 + cp : Nat) : Int)]
                   have hc2 := hc1.allocKc (vs := us ++ vs) (cs := cs1 ++ cs) (r := (Builtin.zeroCells z.cells cp).toList) (ty := ty) (sz := inf.size) (i := st.ne) (l := l') (by have := hdl.ext [EV.l l', EV.i ((e + 1 + cp : Nat) : Int)] []; rw [List.append_nil] at this; exact this) (by rw [← hc.ne]; simp) (by
                    rw [hzz, hll, List.length_append, hcl, hul1, Nat.add_mul, Nat.add_mul]; omega)
                   have hcells : (cs1 ++ cs ++ (Builtin.zeroCells z.cells cp).toList).toArray = cs1.toArray ++ cs.toArray ++ Builtin.zeroCells z.cells cp := by simp
                   rw [hcells] at hc2
                   refine hK _ _ _ _ _ ((hpre.env _).rho _) (hc2.put o.dst (.inr ?_)) hk
                   have hv1 : ∀ xs' : List (EV U), (Ex.var (st.ne + 1)).den ((env ++ [EV.l l', EV.i ((e + 1 + cp : Nat) : Int)]) ++ xs') = ((e + 1 + cp : Nat) : Int) := by
                    intro xs'
                    rw [← hc.ne, List.append_assoc]
                    simp only [Ex.den, gI]
                    rw [List.getElem?_append_right (by omega), Nat.add_sub_cancel_left]
                    rfl
                   have hv0 := hv1 []
                   rw [List.append_nil] at hv0
                   have hd := slice_den (env := env ++ [EV.l l', EV.i ((e + 1 + cp : Nat) : Int)]) (ρ := ρ ++ [Value.pointer (some ⟨w.heap.size, 0, none⟩)]) (n := st.hp.length) (l := .lit (e + 1 : Nat)) (c := .var (st.ne + 1)) (by simp [hc.sat.len]) (fun _ => rfl) (fun xs' => by rw [hv1 xs', hv0])
                   rw [← hc.sat.len, hv_len, hv0, Int.toNat_natCast] at hd
                   show Den _ _ (SV.slice st.hp.length (.lit (e + 1 : Nat)) (.var (st.ne + 1))) _
                   rw [← hc.sat.len]
                   exact hd
               · exact hs.elim
             · exact hs.elim
           · exact hs.elim
         · exact hs.elim
       · exact hs.elim
     · exact hs.elim
   · exact hs.elim
 · exact hs.elim
theorem splitV_sound {k : IntKind} {e : Ex} {n : Int} {K : SV → Tree} (he : DenE env e n) : ∀ (m j : Nat), (splitV k e K j m).sat X R env → ∃ x : Int, n = x ∧ (K (.int k (.lit x))).sat X R env
 | 0, j, h => absurd h.1 (by simp [Bx.den])
 | m + 1, j, h => by
   simp only [splitV, Tree.sat, Bx.den, Ex.den, cmpDen, he.now] at h
   by_cases hj : n = j
   · exact ⟨j, hj, h.1 (by simpa using hj)⟩
   · exact splitV_sound he m (j + 1) (h.2 (by simpa using hj))
theorem retK_sound {g : FuncId} {v : SV} {c : Value} {K : SV → Tree} (hr : Rel env ρ v c) (h : (retK X g v K).sat X R env) : ∃ v', Rel env ρ v' c ∧ (K v').sat X R env := by
 unfold retK at h
 split at h
 · exact ⟨_, hr, h⟩
 · rename_i k e _
   split at h
   · obtain ⟨rfl, he⟩ := den_int (hr.den (by simp))
     obtain ⟨x, hx, hk⟩ := splitV_sound he _ _ h
     exact ⟨.int k (.lit x), .inr (int_den (fun xs => by rw [hx]; rfl)), hk⟩
   · exact ⟨_, hr, h⟩
 · exact ⟨_, hr, h⟩
theorem execE_sound (ho : ObjsOk X.objs) {inl : FuncId → List SV → St → (SV → St → Tree) → Tree} {base : List (EV U) × List Value} (hinl : InlOk X R w0 F base inl) {o : Oper} {st : St} {K : St → Tree} {a : Act} {as : List Act} {pre : List (EV U) × List Value} (hbase : Pfx base pre.1 pre.2) {N : Act → World → Prop} {Q : Exit → Act → World → Prop}
 (hc : Conc X.objs w0 F env ρ st a as w) (hK : Goes X R w0 F pre as K N) (hpre : Pfx pre env ρ) (hs : (execE X inl o st K).sat X R env) : o.wp X.P a w N Q := by
 have hr := hc.sat.reads ho
 have skip : ∀ {st' : St} {w' : World}, Conc X.objs w0 F env ρ st' a as w' → (K (st'.put o.dst .junk)).sat X R env → N (a.put o.dst undef) w' := fun h1 h2 => hK _ _ _ _ _ hpre (h1.put o.dst (.inl rfl)) h2
 unfold execE at hs
 dsimp only at hs
 unfold Oper.wp
 split at hs
 ·
  rename_i t ad v hop
  have had := evalO_rel hc.tm.1 ad
  have hv0 := evalO_rel hc.tm.1 v
  split at hs
  · rename_i n off hvv
    rw [hvv] at had
    have hca := den_ptr (had.den (by simp))
    split at hs
    · rename_i vs ty hn
      split at hs
      · rename_i hcond
        simp only [Bool.and_eq_true, decide_eq_true_eq] at hcond
        obtain ⟨hsz, hall⟩ := hcond
        split at hs
        · rename_i vs' hsp
          obtain ⟨_, b, cs, hb, hd, hheap⟩ := hr n _ hn
          obtain ⟨hfl, hone⟩ := flat_spec hr hall hv0
          obtain ⟨hle, hd'⟩ := splice_spec hsp hd hfl
          have hlen := hfl.len
          have hst := run_storeCells_at X.P b off _ (a.eval v).cells.toList 0 cs.toArray w hheap (by simpa using hle) hone
          rw [hb, addrOf, add0] at hca
          have hrun : (execOp a.eval o).run X.P w = .ok .skip (w.setRow b (cs.take off ++ (a.eval v).cells.toList ++ cs.drop (off + (a.eval v).cells.toList.length)).toArray) := by
           simp only [execOp, hop, Instr.storeAt, hca, Instr.sureAddr, Sem.run_bind, Sem.run_pure, Result.andThen_ok, storeVar, sizeT_run hsz]
           have : ¬ (a.eval v).cells.size ≠ (evalO st.tm v).flat.length := by rw [hlen]; simp
           simp only [this, if_false, hst, Result.andThen_ok, Nat.add_zero]
          rw [hrun]
          exact skip (hc.setCells hn hb hd') hs
        · exact hs.elim
      · exact hs.elim
    · rename_i k ty i k' j hn hrv
      split at hs
      · rename_i m hm
        split at hs
        · rename_i hk
          subst hk
          obtain ⟨h1, h2, h3⟩ := hs
          have h1 := eqLit h1
          have h2 := eqLit h2
          rw [hrv] at hv0
          obtain ⟨_, b, xs, hb, hi, hheap⟩ := hr.row hn (by simp only [Ex.den] at h1; omega)
          have hd := hv0.den (by simp)
          have hcv := hd.now.symm
          simp only [SV.den] at hcv
          have hj : ∃ ys, env[j]? = some (.l ys) := by
           simp only [Ex.den, gL] at h2
           split at h2
           · exact ⟨_, by assumption⟩
           · simp at h2; omega
          obtain ⟨ys, hj⟩ := hj
          rw [gL_get hj] at hcv
          simp only [Ex.den, gL_get hi, gL_get hj] at h1 h2
          rw [hb, addrOf, add0] at hca
          have e2 : xs.length = ys.length := by omega
          have hst := run_storeCells_at X.P b 0 ty (ys.map (Value.int k)) 0 (xs.map (Value.int k)).toArray w hheap (by simp; omega) (by simp; intro x _; rfl)
          have hset : ((xs.map (Value.int k)).toArray.toList.take (0 + 0) ++ ys.map (Value.int k) ++ (xs.map (Value.int k)).toArray.toList.drop (0 + 0 + (ys.map (Value.int k)).length)) = ys.map (Value.int k) := by
           simp [← e2]
          rw [hset] at hst
          have hrun : (execOp a.eval o).run X.P w = .ok .skip (w.setRow b (ys.map (Value.int k)).toArray) := by
           simp only [execOp, hop, Instr.storeAt, hca, Instr.sureAddr, Sem.run_bind, Sem.run_pure, Result.andThen_ok, storeVar, sizeT_run hm, hcv, Value.cells]
           have e1 : ¬ (ys.map (Value.int k)).toArray.size ≠ m + 1 := by simp; omega
           simp only [e1, if_false, hst, Result.andThen_ok]
          rw [hrun]
          exact skip (hc.setRow' hn hb hj) h3
        · exact hs.elim
      · exact hs.elim
    · rename_i k ty len xs k' x hn hvx
      split at hs
      · rename_i hcond
        simp only [Bool.and_eq_true, decide_eq_true_eq] at hcond
        obtain ⟨⟨rfl, hlt⟩, hsz⟩ := hcond
        obtain ⟨_, b, hb, hheap⟩ := hr n _ hn
        rw [hvx] at hv0
        obtain ⟨hcv, _⟩ := den_int (hv0.den (by simp))
        simp only [Ex.den] at hcv
        rw [hb, addrOf, add0] at hca
        have hll : (spL len xs).length = len := by simp [spL]
        have hst := run_storeCells_at X.P b off ty [Value.int k x] 0 ((spL len xs).map (Value.int k)).toArray w hheap (by simp [hll]; omega) (by simp; rfl)
        have hset : (((spL len xs).map (Value.int k)).take (off + 0) ++ [Value.int k x] ++ ((spL len xs).map (Value.int k)).drop (off + 0 + [Value.int k x].length)) = (spL len (spSet xs off x)).map (Value.int k) := by
         rw [spL_set len xs x hlt, List.map_set, List.set_eq_take_append_cons_drop, if_pos (by simp [hll]; exact hlt)]
         simp
        have hrun : (execOp a.eval o).run X.P w = .ok .skip (w.setRow b ((spL len (spSet xs off x)).map (Value.int k)).toArray) := by
         simp only [execOp, hop, Instr.storeAt, hca, Instr.sureAddr, Sem.run_bind, Sem.run_pure, Result.andThen_ok, storeVar, sizeT_run hsz, hcv, Value.cells]
         rw [← hset]
         simp at hst ⊢
         simp [hst]
        rw [hrun]
        exact skip (hc.setSp hn hb) hs
      · exact hs.elim
    · exact hs.elim
  · rename_i n e hvv
    rw [hvv] at had
    have hca := (had.den (by simp)).now.symm
    simp only [SV.den] at hca
    split at hs
    · rename_i k ty i k' x hn hvx
      split at hs
      · rename_i hk
        obtain ⟨rfl, hsz⟩ := hk
        obtain ⟨hns, hs⟩ := needs_sat hs
        have b1 := leE_spec (env := env) (fun c hc => hns c (by simp only [List.mem_append]; exact .inl hc))
        have b2 := ltE_spec (env := env) (fun c hc => hns c (by simp only [List.mem_append]; exact .inr hc))
        simp only [Ex.den] at b1 b2
        obtain ⟨_, b, xs, hb, hi, hheap⟩ := hr.row hn (by omega)
        simp only [gL_get hi] at b2
        rw [hvx] at hv0
        obtain ⟨hcv, _⟩ := den_int (hv0.den (by simp))
        rw [hb, addrOf, add0] at hca
        simp only [Nat.mul_one, Nat.add_zero] at hca
        have hlt : (e.den env).toNat < xs.length := by omega
        have hst := run_storeCells_at X.P b (e.den env).toNat ty [Value.int k (x.den env)] 0 (xs.map (Value.int k)).toArray w hheap (by simp; omega) (by simp; rfl)
        have hset : ((xs.map (Value.int k)).take ((e.den env).toNat + 0) ++ [Value.int k (x.den env)] ++ (xs.map (Value.int k)).drop ((e.den env).toNat + 0 + [Value.int k (x.den env)].length)) = (xs.set (e.den env).toNat (x.den env)).map (Value.int k) := by
         rw [List.map_set, List.set_eq_take_append_cons_drop, if_pos (by simpa using hlt)]
         simp
        have hrun : (execOp a.eval o).run X.P w = .ok .skip (w.setRow b ((xs.set (e.den env).toNat (x.den env)).map (Value.int k)).toArray) := by
         simp only [execOp, hop, Instr.storeAt, hca, Instr.sureAddr, Sem.run_bind, Sem.run_pure, Result.andThen_ok, storeVar, sizeT_run hsz, hcv, Value.cells]
         rw [← hset]
         simp at hst ⊢
         simp [hst]
        rw [hrun]
        simp only [Tree.sat] at hs
        rw [gL_get hi] at hs
        have hc2 := hc.ext [EV.l (xs.set (e.den env).toNat (x.den env))]
        have hc3 := hc2.setRow' (n := n) (i := i) (j := st.ne) (k := k) (ty := ty) (xs := xs.set (e.den env).toNat (x.den env)) hn hb (by rw [← hc.ne]; exact last_get _)
        exact hK _ _ _ _ _ (hpre.env _) (hc3.put o.dst (v := .junk) (c := undef) (.inl rfl)) hs
      · exact hs.elim
    · rename_i ty i x hn hvx
      split at hs
      · rename_i hsz
        obtain ⟨hns, hs⟩ := needs_sat hs
        have b1 := leE_spec (env := env) (fun c hc => hns c (by simp only [List.mem_append]; exact .inl hc))
        have b2 := ltE_spec (env := env) (fun c hc => hns c (by simp only [List.mem_append]; exact .inr hc))
        simp only [Ex.den] at b1 b2
        obtain ⟨_, b, xs, hb, hi, hheap⟩ := hr n _ hn
        simp only [gL_get hi] at b2
        rw [hvx] at hv0
        obtain ⟨hcv, _⟩ := den_bool (hv0.den (by simp))
        simp only [Bx.den] at hcv
        rw [hb, addrOf, add0] at hca
        simp only [Nat.mul_one, Nat.add_zero] at hca
        have hlt : (e.den env).toNat < xs.length := by omega
        have hbx : rbV ((bitE x).den env) = .bool x := by cases x <;> rfl
        generalize bitE x = y at hs hbx
        have hst := run_storeCells_at X.P b (e.den env).toNat ty [rbV (y.den env)] 0 (xs.map rbV).toArray w hheap (by simp; omega) (by simp; rfl)
        have hset : ((xs.map rbV).take ((e.den env).toNat + 0) ++ [rbV (y.den env)] ++ (xs.map rbV).drop ((e.den env).toNat + 0 + [rbV (y.den env)].length)) = (xs.set (e.den env).toNat (y.den env)).map rbV := by
         rw [List.map_set, List.set_eq_take_append_cons_drop, if_pos (by simpa using hlt)]
         simp
        have hrun : (execOp a.eval o).run X.P w = .ok .skip (w.setRow b ((xs.set (e.den env).toNat (y.den env)).map rbV).toArray) := by
         simp only [execOp, hop, Instr.storeAt, hca, Instr.sureAddr, Sem.run_bind, Sem.run_pure, Result.andThen_ok, storeVar, sizeT_run hsz, hcv, Value.cells]
         rw [← hbx, ← hset]
         simp at hst ⊢
         simp [hst]
        rw [hrun]
        simp only [Tree.sat] at hs
        rw [gL_get hi] at hs
        have hc2 := hc.ext [EV.l (xs.set (e.den env).toNat (y.den env))]
        have hc3 := hc2.setRb (n := n) (i := i) (j := st.ne) (ty := ty) (xs := xs.set (e.den env).toNat (y.den env)) hn hb (by rw [← hc.ne]; exact last_get _)
        exact hK _ _ _ _ _ (hpre.env _) (hc3.put o.dst (v := .junk) (c := undef) (.inl rfl)) hs
      · exact hs.elim
    · exact hs.elim
  · exact hs.elim
 ·
  rename_i t hop
  split at hs
  · rename_i k len hz
    obtain ⟨z, hz1, hz2⟩ := zeroRow_spec hz
    have hrun : (execOp a.eval o).run X.P w = .ok (.value (.pointer (some ⟨w.heap.size, 0, none⟩))) (w.alloc (.cells ((List.replicate len (0 : Int)).map (Value.int k)).toArray t)) := by
     simp only [execOp, hop, Instr.alloc, Sem.run_bind, hz1, Result.andThen_ok, newVar, newRow, run_newObj, Sem.run_pure, hz2, List.map_replicate]
     rfl
    rw [hrun]
    split at hs
    · have hc3 := hc.allocSp k t len []
      rw [spL_nil] at hc3
      exact hK _ _ _ _ _ (hpre.rho _) (hc3.put o.dst (.inr (newptr_den hc.sat.len))) hs
    simp only [Tree.sat, Ex.den, Int.toNat_natCast] at hs
    have hc2 := hc.ext [EV.l (List.replicate len (0 : Int))]
    have hc3 := hc2.allocRow k t (i := st.ne) (xs := List.replicate len (0 : Int)) (by rw [← hc.ne]; exact last_get _)
    exact hK _ _ _ _ _ ((hpre.env _).rho _) (hc3.put o.dst (.inr (newptr_den hc.sat.len))) hs
  · split at hs
    · rename_i zs hz
      obtain ⟨z, hz1, hz2⟩ := zeroT_spec (env := env) (ρ := ρ) hz
      have hrun : (execOp a.eval o).run X.P w = .ok (.value (.pointer (some ⟨w.heap.size, 0, none⟩))) (w.alloc (.cells z.cells.toList.toArray t)) := by
       simp only [execOp, hop, Instr.alloc, Sem.run_bind, hz1, Result.andThen_ok, newVar, newRow, run_newObj, Sem.run_pure]
       rfl
      rw [hrun]
      exact hK _ _ _ _ _ (hpre.rho _) ((hc.alloc t hz2).put o.dst (.inr (newptr_den hc.sat.len))) hs
    · exact hs.elim
 ·
  rename_i t x hop
  split at hs
  · rename_i hall
    obtain ⟨hfl, _⟩ := flat_spec hr hall (evalO_rel hc.tm.1 x)
    have hrun : (execOp a.eval o).run X.P w = .ok (.value (.pointer (some ⟨w.heap.size, 0, none⟩))) (w.alloc (.cells (a.eval x).cells.toList.toArray t)) := by
     simp only [execOp, hop, Instr.box, Sem.run_bind, Result.andThen_ok, newVar, newRow, run_newObj, Sem.run_pure]
     rfl
    rw [hrun]
    exact hK _ _ _ _ _ (hpre.rho _) ((hc.alloc t hfl).put o.dst (.inr (newptr_den hc.sat.len))) hs
  · exact hs.elim
 ·
  rename_i t len parts hop
  split at hs
  · rename_i elem hu
    split at hs
    · rename_i s z hsz hz
      split at hs
      · rename_i hcond
        obtain ⟨hl, hs0, hzl⟩ := hcond
        split at hs
        · rename_i l hf
          obtain ⟨zv, hz1, hz2⟩ := zeroT_spec (env := env) (ρ := ρ) hz
          have hzs : zv.cells.size = s := by have := hz2.len; simp at this; omega
          have hzz := flatten_den (fun _ => rfl) hz2 len
          have hparts : ∀ (j : Nat) p q, (parts.toList.map fun (i, x) => (i, evalO st.tm x))[j]? = some p → (parts.toList.map fun (i, x) => (i, a.eval x))[j]? = some q → p.1 = q.1 ∧ Rel env ρ p.2 q.2 := by
           intro j p q hp1 hq1
           simp only [List.getElem?_map, Option.map_eq_some_iff] at hp1 hq1
           obtain ⟨u, hu, rfl⟩ := hp1
           obtain ⟨u', hu', rfl⟩ := hq1
           rw [hu] at hu'; injection hu' with hu'; subst hu'
           exact ⟨rfl, evalO_rel hc.tm.1 _⟩
          obtain ⟨cs, e0, e1, _⟩ := fillS_spec (pl := fun i => some (i * s, s)) (pl' := fun i => some (i * s, s)) hr (fun _ _ h => h) _ (parts.toList.map fun (i, x) => (i, a.eval x)) _ l _ (by simp) hparts hf hzz
          rw [← zeros_array zv.cells s hzs hs0 len] at e0
          have hrun : (execOp a.eval o).run X.P w = .ok (.value (.slice (some ⟨w.heap.size, 0, none⟩) len len)) (w.alloc (.cells cs.toArray elem)) := by
           simp only [execOp, hop, Instr.buildSlice, Sem.run_bind, run_underlying hu, Result.andThen_ok, sizeT_run hsz]
           have h1 : ¬ len * s > 2 ^ 24 := by omega
           have r0 : Array.range 0 = #[] := rfl
           rw [if_neg h1]
           by_cases h0 : len * s = 0
           · have hlen0 : len = 0 := by
              rcases Nat.mul_eq_zero.1 h0 with h | h
              · exact h
              · omega
             subst hlen0
             simp only [Nat.zero_mul, show Array.range 0 = #[] from rfl, Array.map_empty] at e0
             have e0' : Instr.fill (fun i => some (i * s, s)) #[] (parts.map fun x => (x.1, a.eval x.2)).toList = some cs.toArray := by rw [Array.toList_map]; exact e0
             simp only [h0, if_true, Sem.run_pure, Result.andThen_ok, r0, Array.map_empty, e0', newRow, Sem.run_bind, run_newObj]
             rfl
           · have e0' : Instr.fill (fun i => some (i * s, s)) ((Array.range (len * s)).map fun j => zv.cells[j % zv.cells.size]!) (parts.map fun x => (x.1, a.eval x.2)).toList = some cs.toArray := by rw [Array.toList_map]; exact e0
             simp only [h0, if_false, Sem.run_bind, hz1, Sem.run_pure, Result.andThen_ok, e0', newRow, run_newObj]
             rfl
          rw [hrun]
          refine hK _ _ _ _ _ (hpre.rho _) ((hc.alloc elem e1).put o.dst (.inr ?_)) hs
          have := slice_den (env := env) (ρ := ρ ++ [Value.pointer (some ⟨w.heap.size, 0, none⟩)]) (n := st.hp.length) (l := .lit len) (c := .lit len) (by simp [hc.sat.len]) (fun _ => rfl) (fun _ => rfl)
          rw [← hc.sat.len, hv_len] at this
          rw [← hc.sat.len]
          simpa [baseOf, Ex.den] using this
        · exact hs.elim
      · exact hs.elim
    · exact hs.elim
  · exact hs.elim
 ·
  rename_i t l c hop
  have hlr := evalO_rel hc.tm.1 l
  have hcr := evalO_rel hc.tm.1 c
  split at hs
  · rename_i elem k1 n k2 m hu hl1 hc1
    split at hs
    · rename_i s z i hsz hz hi
      split at hs
      · rename_i hcond
        obtain ⟨hnm, hn0, hn1, hs0, hzl, hby⟩ := hcond
        subst hnm
        rw [hl1] at hlr
        rw [hc1] at hcr
        obtain ⟨el, _⟩ := den_int (hlr.den (by simp))
        obtain ⟨ec, _⟩ := den_int (hcr.den (by simp))
        simp only [Ex.den] at el ec
        obtain ⟨zv, hz1, hz2⟩ := zeroT_spec (env := env) (ρ := ρ) hz
        have hzs : zv.cells.size = s := by have := hz2.len; simp at this; omega
        have hzz := flatten_den (fun _ => rfl) hz2 n.toNat
        have hwrap : IntKind.i64.wrap n = n := wrap_small n hn0 (by omega)
        have hrun : (execOp a.eval o).run X.P w = .ok (.value (.slice (some ⟨w.heap.size, 0, none⟩) n.toNat n.toNat)) (w.alloc (.cells ((List.replicate n.toNat zv.cells.toList).flatten).toArray elem)) := by
         have hti : (typeInfo elem).run X.P w = .ok i w := by simp [typeInfo, hi]
         have hbig : ¬ ((i.bytes : Int) * n > 2 ^ 48) := by
          have : (i.bytes : Int) * n ≤ 4096 * 64 := Int.mul_le_mul (by omega) (by omega) hn0 (by omega)
          omega
         have hneg : ¬ n < 0 := by omega
         simp only [execOp, hop, Instr.makeSlice, Sem.run_bind, run_underlying hu, Result.andThen_ok, el, ec, asInt, asIntOf, Sem.run_pure, hti, hwrap]
         simp only [hneg, hbig, decide_false, Bool.false_or, Bool.or_false, Int.lt_irrefl, gt_iff_lt, or_self, if_false, Bool.false_eq_true, Sem.run_bind, run_askRoom, Result.andThen_ok, sizeT_run hsz]
         have hzl : n.toNat * s = 0 → n.toNat = 0 := fun h => by
          rcases Nat.mul_eq_zero.1 h with h | h
          · exact h
          · omega
         by_cases h0 : n.toNat * s = 0
         · have hn' := hzl h0
           rw [if_pos h0]
           simp only [hn', Nat.zero_mul, show Array.range 0 = #[] from rfl, Array.map_empty, List.replicate_zero, List.flatten_nil, Sem.run_bind, Sem.run_pure, Result.andThen_ok, newRow, run_newObj]
           rfl
         · rw [if_neg h0]
           have hz := zeros_array zv.cells s hzs hs0 n.toNat
           simp only [Sem.run_bind, hz1, Sem.run_pure, Result.andThen_ok, newRow, run_newObj, hz]
           rfl
        rw [hrun]
        refine hK _ _ _ _ _ (hpre.rho _) ((hc.alloc elem hzz).put o.dst (.inr ?_)) hs
        have := slice_den (env := env) (ρ := ρ ++ [Value.pointer (some ⟨w.heap.size, 0, none⟩)]) (n := st.hp.length) (l := .lit n) (c := .lit n) (by simp [hc.sat.len]) (fun _ => rfl) (fun _ => rfl)
        rw [← hc.sat.len, hv_len] at this
        rw [← hc.sat.len]
        simpa [baseOf, Ex.den] using this
      · exact hs.elim
    · exact hs.elim
  · rename_i elem k1 e k2 e' _ hu hl1 hc1
    split at hs
    · rename_i k i hue hi
      split at hs
      · rename_i k' hz
        split at hs
        · rename_i hcond
          simp only [Bool.and_eq_true, decide_eq_true_eq] at hcond
          obtain ⟨⟨⟨hee, hkk⟩, hsize⟩, hby⟩ := hcond
          subst hkk
          have hee := Ex.beq_eq hee
          subst hee
          obtain ⟨hns, hs⟩ := needs_sat hs
          have b1 := leE_spec (env := env) (fun c hc => hns c (by simp only [List.mem_append]; exact .inl hc))
          have b2 := leE_spec (env := env) (fun c hc => hns c (by simp only [List.mem_append]; exact .inr hc))
          simp only [Ex.den] at b1 b2
          rw [hl1] at hlr
          rw [hc1] at hcr
          obtain ⟨el, hes⟩ := den_int (hlr.den (by simp))
          obtain ⟨ec, _⟩ := den_int (hcr.den (by simp))
          generalize hn : e.den env = n at el ec b1 b2 hes
          have hsz : sizeT X.P elem = some 1 := by simp [sizeT, hi, hsize]
          have hz1 : ∀ w, (zeroValue elem).run X.P w = .ok (.int k 0) w := fun w => by simp [zeroValue, typeInfo, hi, hz]
          have hwrap : IntKind.i64.wrap n = n := wrap_small n b1 (by omega)
          have hrun : (execOp a.eval o).run X.P w = .ok (.value (.slice (some ⟨w.heap.size, 0, none⟩) n.toNat n.toNat)) (w.alloc (.cells ((List.replicate n.toNat (0 : Int)).map (Value.int k)).toArray elem)) := by
           have hti : (typeInfo elem).run X.P w = .ok i w := by simp [typeInfo, hi]
           have hbig : ¬ ((i.bytes : Int) * n > 2 ^ 48) := by
            have : (i.bytes : Int) * n ≤ 8 * 1000000 := Int.mul_le_mul (by omega) (by omega) b1 (by omega)
            omega
           have hneg : ¬ n < 0 := by omega
           simp only [execOp, hop, Instr.makeSlice, Sem.run_bind, run_underlying hu, Result.andThen_ok, el, ec, asInt, asIntOf, Sem.run_pure, hti, hwrap]
           simp only [hneg, hbig, decide_false, Bool.false_or, Bool.or_false, Int.lt_irrefl, gt_iff_lt, or_self, if_false, Bool.false_eq_true, Sem.run_bind, run_askRoom, Result.andThen_ok, sizeT_run hsz, Nat.mul_one]
           by_cases h0 : n.toNat = 0
           · rw [if_pos h0]
             simp only [h0, show Array.range 0 = #[] from rfl, Array.map_empty, List.replicate_zero, List.map_nil, Sem.run_bind, Sem.run_pure, Result.andThen_ok, newRow, run_newObj]
             rfl
           · rw [if_neg h0]
             have hz := zeros_array #[Value.int k 0] 1 rfl (by omega) n.toNat
             have hfl : (List.replicate n.toNat (#[Value.int k 0] : Array Value).toList).flatten = (List.replicate n.toNat (0 : Int)).map (Value.int k) := by
              simp [List.map_replicate]
             rw [hfl, Nat.mul_one] at hz
             simp only [Sem.run_bind, hz1, Sem.run_pure, Result.andThen_ok, newRow, run_newObj, Value.cells, hz]
             rfl
          rw [hrun]
          simp only [Tree.sat, hn, Ex.den] at hs
          have hc2 := hc.ext [EV.l (List.replicate n.toNat (0 : Int))]
          have hc3 := hc2.allocRow k elem (i := st.ne) (xs := List.replicate n.toNat (0 : Int)) (by rw [← hc.ne]; exact last_get _)
          refine hK _ _ _ _ _ ((hpre.env _).rho _) (hc3.put o.dst (.inr ?_)) hs
          have hes' : ∀ xs, e.den (env ++ [EV.l (List.replicate n.toNat (0 : Int))] ++ xs) = n := fun xs => by rw [List.append_assoc]; exact hes _
          have := slice_den (env := env ++ [EV.l (List.replicate n.toNat (0 : Int))]) (ρ := ρ ++ [Value.pointer (some ⟨w.heap.size, 0, none⟩)]) (n := st.hp.length) (l := e) (c := e) (by simp [hc.sat.len]) (DenE.stab hes') (DenE.stab hes')
          rw [← hc.sat.len, hv_len] at this
          have h00 : e.den (env ++ [EV.l (List.replicate n.toNat (0 : Int))]) = n := hes _
          rw [h00] at this
          show Den _ _ (SV.slice st.hp.length e e) _
          rw [← hc.sat.len]
          simpa [baseOf] using this
        · exact hs.elim
      · exact hs.elim
    · rename_i i hi _
      split at hs
      · rename_i hz
        split at hs
        · rename_i hcond
          simp only [Bool.and_eq_true, decide_eq_true_eq] at hcond
          obtain ⟨⟨hee, hsize⟩, hby⟩ := hcond
          have hee := Ex.beq_eq hee
          subst hee
          obtain ⟨hns, hs⟩ := needs_sat hs
          have b1 := leE_spec (env := env) (fun c hc => hns c (by simp only [List.mem_append]; exact .inl hc))
          have b2 := leE_spec (env := env) (fun c hc => hns c (by simp only [List.mem_append]; exact .inr hc))
          simp only [Ex.den] at b1 b2
          rw [hl1] at hlr
          rw [hc1] at hcr
          obtain ⟨el, hes⟩ := den_int (hlr.den (by simp))
          obtain ⟨ec, _⟩ := den_int (hcr.den (by simp))
          generalize hn : e.den env = n at el ec b1 b2 hes
          have hsz : sizeT X.P elem = some 1 := by simp [sizeT, hi, hsize]
          have hz1 : ∀ w, (zeroValue elem).run X.P w = .ok (.bool false) w := fun w => by simp [zeroValue, typeInfo, hi, hz]
          have hwrap : IntKind.i64.wrap n = n := wrap_small n b1 (by omega)
          have hrun : (execOp a.eval o).run X.P w = .ok (.value (.slice (some ⟨w.heap.size, 0, none⟩) n.toNat n.toNat)) (w.alloc (.cells ((List.replicate n.toNat (0 : Int)).map rbV).toArray elem)) := by
           have hti : (typeInfo elem).run X.P w = .ok i w := by simp [typeInfo, hi]
           have hbig : ¬ ((i.bytes : Int) * n > 2 ^ 48) := by
            have : (i.bytes : Int) * n ≤ 8 * 1000000 := Int.mul_le_mul (by omega) (by omega) b1 (by omega)
            omega
           have hneg : ¬ n < 0 := by omega
           simp only [execOp, hop, Instr.makeSlice, Sem.run_bind, run_underlying hu, Result.andThen_ok, el, ec, asInt, asIntOf, Sem.run_pure, hti, hwrap]
           simp only [hneg, hbig, decide_false, Bool.false_or, Bool.or_false, Int.lt_irrefl, gt_iff_lt, or_self, if_false, Bool.false_eq_true, Sem.run_bind, run_askRoom, Result.andThen_ok, sizeT_run hsz, Nat.mul_one]
           by_cases h0 : n.toNat = 0
           · rw [if_pos h0]
             simp only [h0, show Array.range 0 = #[] from rfl, Array.map_empty, List.replicate_zero, List.map_nil, Sem.run_bind, Sem.run_pure, Result.andThen_ok, newRow, run_newObj]
             rfl
           · rw [if_neg h0]
             have hz := zeros_array #[Value.bool false] 1 rfl (by omega) n.toNat
             have hfl : (List.replicate n.toNat (#[Value.bool false] : Array Value).toList).flatten = (List.replicate n.toNat (0 : Int)).map rbV := by
              simp [List.map_replicate, rbV]
             rw [hfl, Nat.mul_one] at hz
             simp only [Sem.run_bind, hz1, Sem.run_pure, Result.andThen_ok, newRow, run_newObj, Value.cells, hz]
             rfl
          rw [hrun]
          simp only [Tree.sat, hn, Ex.den] at hs
          have hc2 := hc.ext [EV.l (List.replicate n.toNat (0 : Int))]
          have hc3 := hc2.allocRb elem (i := st.ne) (xs := List.replicate n.toNat (0 : Int)) (by rw [← hc.ne]; exact last_get _)
          refine hK _ _ _ _ _ ((hpre.env _).rho _) (hc3.put o.dst (.inr ?_)) hs
          have hes' : ∀ xs, e.den (env ++ [EV.l (List.replicate n.toNat (0 : Int))] ++ xs) = n := fun xs => by rw [List.append_assoc]; exact hes _
          have := slice_den (env := env ++ [EV.l (List.replicate n.toNat (0 : Int))]) (ρ := ρ ++ [Value.pointer (some ⟨w.heap.size, 0, none⟩)]) (n := st.hp.length) (l := e) (c := e) (by simp [hc.sat.len]) (DenE.stab hes') (DenE.stab hes')
          rw [← hc.sat.len, hv_len] at this
          have h00 : e.den (env ++ [EV.l (List.replicate n.toNat (0 : Int))]) = n := hes _
          rw [h00] at this
          show Den _ _ (SV.slice st.hp.length e e) _
          rw [← hc.sat.len]
          simpa [baseOf] using this
        · exact hs.elim
      · exact hs.elim
    · exact hs.elim
  · exact hs.elim
 ·
  rename_i t r hop
  split at hs
  · rename_i kt et hu
    have hrun : (execOp a.eval o).run X.P w = .ok (.value (.map (some w.heap.size))) (w.alloc (.map (mpE []).toArray ([] : List Int).length)) := by
     simp only [execOp, hop, Instr.makeMap, Option.map_none, Sem.run_bind, Sem.run_pure, Result.andThen_ok, run_newObj]
     rfl
    rw [hrun]
    have hk : (K ({ st with hp := st.hp ++ [HE.mp st.ne], ne := st.ne + 1 }.put o.dst (.mapv st.hp.length))).sat X R (env ++ [.l []]) := hs
    have hc2 := hc.ext [EV.l []]
    have hc3 := hc2.allocMp (i := st.ne) (xs := []) (by rw [← hc.ne]; exact last_get _)
    refine hK _ _ _ _ _ ((hpre.env _).rho _) (hc3.put o.dst (v := .mapv st.hp.length) (.inr ⟨fun xs ys => ?_, trivial⟩)) hk
    simp only [SV.den]
    rw [← hc.sat.len]
    have : hv (ρ ++ [Value.pointer (some ⟨w.heap.size, 0, none⟩)] ++ ys) ρ.length = Value.pointer (some ⟨w.heap.size, 0, none⟩) := by simp [hv]
    rw [this]; rfl
  · exact hs.elim
 ·
  rename_i t m x v hop
  split at hs
  · rename_i kt et n e hu hm hx
    split at hs
    · rename_i i hk hn hv'
      have hmr := evalO_rel hc.tm.1 m
      rw [hm] at hmr
      have hxr := evalO_rel hc.tm.1 x
      rw [hx] at hxr
      have hvr := evalO_rel hc.tm.1 v
      rw [hv'] at hvr
      have em : a.eval m = .map (some (addrOf (hv ρ n)).block) := (hmr.den (by simp)).now.symm
      obtain ⟨ei, e1⟩ := den_int (hxr.den (by simp))
      have ev : a.eval v = .agg #[] := (hvr.den (by simp)).now.symm
      obtain ⟨hmem, hs⟩ := hs
      obtain ⟨S, hS⟩ := hc.sat.own
      obtain ⟨b, xs, q1, q2, q3, q4⟩ := hS.holds n _ hn
      have hxs : gL env i = xs := by simp [gL, q2]
      simp only [Bx.den, hxs, Bool.not_eq_true', decide_eq_false_iff_not] at hmem
      have hb : (addrOf (hv ρ n)).block = b := by rw [q1]; rfl
      have hup := run_update_set (P := X.P) (t := t) (kt := kt) (et := et) (ks := xs) (k := e.den env) (r := b) (w := w) hu hk hmem q3
      have hrun : (execOp a.eval o).run X.P w = .ok .skip { w with heap := w.heap.setIfInBounds b (.map (mpE (xs ++ [e.den env])).toArray (xs ++ [e.den env]).length) } := by
       simp only [execOp, hop, em, ei, ev, hb, Sem.run_bind, hup, Result.andThen_ok, Sem.run_pure]
      rw [hrun]
      have hk2 : (K ({ st with hp := st.hp.set n (.mp st.ne), ne := st.ne + 1 }.put o.dst .junk)).sat X R (env ++ [.l (xs ++ [e.den env])]) := by rw [← hxs]; exact hs
      have hc2 := hc.ext [EV.l (xs ++ [e.den env])]
      have hc3 := hc2.setMp (n := n) (i := i) (j := st.ne) (xs := xs ++ [e.den env]) (b := b) hn q1 (by rw [← hc.ne]; exact last_get _)
      exact hK _ _ _ _ _ (hpre.env _) (hc3.put o.dst (.inl rfl)) hk2
    · exact hs.elim
  · exact hs.elim
 ·
  rename_i c hop
  split at hs
  · rename_i f hcal
    split at hs
    · rename_i g first captured hf
      have hfr := evalO_rel hc.tm.1 f
      rw [hf] at hfr
      obtain ⟨fs, cs, e, hfd, hcd⟩ := den_func (hfr.den (by simp))
      have hargs : ArgsRel env ρ (first ++ c.args.toList.map (evalO st.tm) ++ captured) (fs ++ c.args.toList.map a.eval ++ cs) :=
       ((ArgsRel.of_den hfd).append (ArgsRel.of_ops hc.tm.1 _)).append (ArgsRel.of_den hcd)
      obtain ⟨⟨fn, body, hfn, hbody, hname⟩, hcalls⟩ := hinl pre g _ st _ env ρ a as w _ (fun v w' => N (a.put o.dst v) w') hbase hpre hc hargs (fun v st' env' ρ' c' w' hp hcc hrel hsat => by
       obtain ⟨v', hrel', hsat'⟩ := retK_sound hrel hsat
       exact hK _ _ _ _ _ hp (hcc.put o.dst hrel') hsat') hs
      have hrun : (execOp a.eval o).run X.P w = .ok (.enter g (fs ++ c.args.toList.map a.eval ++ cs).toArray) w := by
       have hee := Go.MuLone.run_callFunc_enter hfn hname hbody (fs ++ c.args.toList.map a.eval ++ cs).toArray w
       have harr : (fs.toArray ++ c.args.map a.eval ++ cs.toArray) = (fs ++ c.args.toList.map a.eval ++ cs).toArray := by apply Array.toList_inj.1; simp
       simp only [execOp, hop, resolve, hcal, e, Deferred.ofValue, Sem.run_bind, Sem.run_pure, Result.andThen_ok, invoke]
       rw [harr, hee]
      rw [hrun]
      show Calls X.P g _ w _
      exact Calls.mono hcalls fun e' w' ⟨c', he, hn⟩ => by subst he; exact hn
    · exact absurd hs.1 (by simp [Bx.den])
    · exact hs.elim
  ·
   rename_i hcal
   split at hs
   · rename_i n1 n2 e ce t t2 hargs htypes
     split at hs
     · rename_i htt
       subst htt
       split at hs
       · rename_i elem vs1 ty1 k ty i hu hn1 hn2
         split at hs
         · rename_i k' inf hue hinf
           split at hs
           · rename_i k'' hz
             split at hs
             · rename_i hcond
               simp only [Bool.and_eq_true, decide_eq_true_eq] at hcond
               obtain ⟨⟨⟨rfl, rfl⟩, hsize⟩, hbytes⟩ := hcond
               obtain ⟨hns, hs⟩ := needs_sat hs
               have b1 := leE_spec (env := env) (a := .lit 0) (b := e) (fun c hc => hns c (by simp only [List.mem_append]; exact .inl (.inl hc)))
               have b2 := leE_spec (env := env) (a := e) (b := .len i) (fun c hc => hns c (by simp only [List.mem_append]; exact .inl (.inr hc)))
               have b3 := leE_spec (env := env) (a := e) (b := .lit 1000000) (fun c hc => hns c (by simp only [List.mem_append]; exact .inr hc))
               simp only [Ex.den] at b1 b2 b3
               obtain ⟨x1, x2, hx⟩ : ∃ x1 x2, c.args.toList = [x1, x2] := by
                have := congrArg List.length hargs
                simp only [List.length_map, List.length_cons, List.length_nil] at this
                match hl : c.args.toList, this with
                | [x1, x2], _ => exact ⟨x1, x2, rfl⟩
               rw [hx] at hargs
               simp only [List.map_cons, List.map_nil, List.cons.injEq, and_true] at hargs
               obtain ⟨g1, g2⟩ := hargs
               have hr1 := evalO_rel hc.tm.1 x1
               rw [g1] at hr1
               have hr2 := evalO_rel hc.tm.1 x2
               rw [g2] at hr2
               obtain ⟨ev1, _, _⟩ := den_slice (hr1.den (by simp))
               obtain ⟨ev2, hst, _⟩ := den_slice (hr2.den (by simp))
               simp only [Ex.den, Int.toNat_zero] at ev1
               have harr : c.args.map a.eval = #[a.eval x1, a.eval x2] := by apply Array.toList_inj.1; simp [hx]
               have hty : c.argTypes = #[t2, t2] := by apply Array.toList_inj.1; rw [htypes]
               obtain ⟨S, hS⟩ := hc.sat.own
               obtain ⟨bb1, cs1, p1, p2, p3, p4⟩ := hS.holds n1 _ hn1
               have hrow := hS.holds n2 _ hn2
               have hrun0 : ∀ r w', (Builtin.append_ #[t2, t2] o.type #[a.eval x1, a.eval x2]).run X.P w = .ok r w' → (execOp a.eval o).run X.P w = .ok (.value r) w' := by
                intro r w' h
                simp only [execOp, hop, resolve, hcal, Sem.run_bind, Sem.run_pure, Result.andThen_ok, invoke, builtin, harr, hty, h]
               obtain ⟨hs0, hs1⟩ := hs
               rw [p1] at ev1
               by_cases h0 : e.den env = 0
               · have hk := hs0 (by simp [Bx.den, cmpDen, Ex.den, h0])
                 rw [h0] at ev2
                 rw [hrun0 _ _ (by rw [ev1, ev2]; exact run_append_zero t2 o.type elem inf hu hinf _ _ _ w)]
                 refine hK _ _ _ _ _ hpre (hc.put o.dst (.inr ?_)) hk
                 have := hr1.den (by simp)
                 rw [ev1] at this
                 exact this
               · rcases hrow with ⟨_, q2⟩ | ⟨b2', xs, q1, q2, q3, q4⟩
                 · simp [gL, q2] at b2; omega
                 have hxs : gL env i = xs := by simp [gL, q2]
                 rw [hxs] at b2
                 rw [q1] at ev2
                 have hN : 0 < (e.den env).toNat := by omega
                 have hcell : ∀ j v, ((xs.take (e.den env).toNat).map (Value.int k''))[j]? = some v → w.cell? ((⟨b2', 0, none⟩ : Addr).add j) = some v := by
                  intro j v hj
                  rw [Addr.add_lit]
                  simp only [List.getElem?_map, Option.map_eq_some_iff] at hj
                  obtain ⟨x, hx1, rfl⟩ := hj
                  rw [List.getElem?_take] at hx1
                  split at hx1
                  · simp [World.cell?, q3, hx1]
                  · cases hx1
                 have hgrow := run_append_grow (P := X.P) (w := w) t2 o.type elem inf (.int k'' 0) hu hinf hz ⟨bb1, 0, none⟩ 0 0 [] (by simp) (by simp) ⟨b2', 0, none⟩ (e.den env).toNat (ce.den env).toNat ((xs.take (e.den env).toNat).map (Value.int k''))
                  (by simp [hsize]; omega) hcell (by omega) (by omega) (by
                    rw [Nat.zero_add, nextslicecap_zero hN]
                    have : (e.den env).toNat * inf.bytes ≤ 1000000 * 8 := Nat.mul_le_mul (by omega) hbytes
                    omega)
                 have hk := hs1 (by simp [Bx.den, cmpDen, Ex.den, h0]) (grownCap w (0 + (e.den env).toNat) 0 elem - (0 + (e.den env).toNat))
                 rw [hxs] at hk
                 rw [hrun0 _ _ (by rw [ev1, ev2]; exact hgrow)]
                 have hge := grownCap_ge w (0 + (e.den env).toNat) 0 elem
                 generalize hcap : grownCap w (0 + (e.den env).toNat) 0 elem - (0 + (e.den env).toNat) = cp at hk ⊢
                 have hcap2 : grownCap w (0 + (e.den env).toNat) 0 elem = (e.den env).toNat + cp := by omega
                 rw [hcap2]
                 have hcells : (([] : List Value).toArray ++ ((xs.take (e.den env).toNat).map (Value.int k'')).toArray ++ Builtin.zeroCells (Value.int k'' 0).cells cp) = ((xs.take (e.den env).toNat ++ List.replicate cp 0).map (Value.int k'')).toArray := by
                  have hzc : Builtin.zeroCells (Value.int k'' 0).cells cp = ((List.replicate cp (0 : Int)).map (Value.int k'')).toArray := by
                   apply Array.ext
                   · simp [Builtin.zeroCells, Value.cells]
                   · intro i h1 h2
                     simp [Builtin.zeroCells, Value.cells, Nat.mod_one]
                  rw [hzc]
                  simp
                 rw [hcells]
                 have hc2 := (hc.drewn (w.drawn + 1)).ext [EV.l (xs.take (e.den env).toNat ++ List.replicate cp 0), EV.i (((e.den env).toNat + cp : Nat) : Int)]
                 have hc3 := hc2.allocRow k'' elem (i := st.ne) (xs := xs.take (e.den env).toNat ++ List.replicate cp 0) (by rw [← hc.ne]; simp)
                 refine hK _ _ _ _ _ ((hpre.env _).rho _) (hc3.put o.dst (.inr ?_)) hk
                 have hv1 : ∀ xs' : List (EV U), (Ex.var (st.ne + 1)).den ((env ++ [EV.l (xs.take (e.den env).toNat ++ List.replicate cp 0), EV.i (((e.den env).toNat + cp : Nat) : Int)]) ++ xs') = (((e.den env).toNat + cp : Nat) : Int) := by
                  intro xs'
                  rw [← hc.ne, List.append_assoc]
                  simp only [Ex.den, gI]
                  rw [List.getElem?_append_right (by omega), Nat.add_sub_cancel_left]
                  rfl
                 have hv0 := hv1 []
                 rw [List.append_nil] at hv0
                 have hd := slice_den (env := env ++ [EV.l (xs.take (e.den env).toNat ++ List.replicate cp 0), EV.i (((e.den env).toNat + cp : Nat) : Int)]) (ρ := ρ ++ [Value.pointer (some ⟨w.heap.size, 0, none⟩)]) (n := st.hp.length) (l := e) (c := .var (st.ne + 1)) (by simp [hc.sat.len]) (EStab.ext hst _) (fun xs' => by rw [hv1 xs', hv0])
                 rw [← hc.sat.len, hv_len, hst, hv0, Int.toNat_natCast] at hd
                 rw [Nat.zero_add]
                 show Den _ _ (SV.slice st.hp.length e (.var (st.ne + 1))) _
                 rw [← hc.sat.len]
                 exact hd
             · exact hs.elim
           · exact hs.elim
         · exact hs.elim
       · exact hs.elim
     · exact hs.elim
   · split at hs
     rotate_left
     · have := appC_sound (Q := Q) ho hc hK hpre hop hcal hs
       unfold Oper.wp at this
       exact this
     obtain ⟨st1, o1, htm, hc1, hs⟩ := appPre_sound hc hs
     rw [← htm] at hs
     split at hs
     · rename_i t ht
       have := appK_sound (Q := Q) hc1 hK (hpre.env o1) hop hcal ht hs
       unfold Oper.wp at this
       exact this
     · have := appS_sound (Q := Q) hc1 hK (hpre.env o1) hop hcal hs
       unfold Oper.wp at this
       exact this
  ·
   rename_i r name hcal
   split at hs
   · rename_i t v hr
     split at hs
     · rename_i g hm
       have hrr := evalO_rel hc.tm.1 r
       rw [hr] at hrr
       have hrd := hrr.den (by simp)
       have hval : a.eval r = .iface t (v.den env ρ) := by
        have h0 := hrd.1 [] []
        simpa [SV.den, SV.denL] using h0.symm
       have hvd : Den env ρ v (v.den env ρ) := by
        refine ⟨fun xs ys => ?_, hrd.2.1⟩
        have h1 := hrd.1 xs ys
        rw [hval] at h1
        simp only [SV.den, SV.denL, List.headD_cons, Value.iface.injEq, true_and] at h1
        exact h1
       have hargs : ArgsRel env ρ (v :: c.args.toList.map (evalO st.tm)) (v.den env ρ :: c.args.toList.map a.eval) := ((ArgsRel.of_den (DenL.one hvd)).append (ArgsRel.of_ops hc.tm.1 _))
       obtain ⟨⟨fn, body, hfn, hbody, hname⟩, hcalls⟩ := hinl pre g _ st _ env ρ a as w _ (fun v w' => N (a.put o.dst v) w') hbase hpre hc hargs (fun v st' env' ρ' c' w' hp hcc hrel hsat => hK _ _ _ _ _ hp (hcc.put o.dst hrel) hsat) hs
       have hrun : (execOp a.eval o).run X.P w = .ok (.enter g (v.den env ρ :: c.args.toList.map a.eval).toArray) w := by
        have hee := Go.MuLone.run_callFunc_enter hfn hname hbody (v.den env ρ :: c.args.toList.map a.eval).toArray w
        have h1 : (#[Value.iface t (v.den env ρ)] ++ c.args.map a.eval)[0]? = some (Value.iface t (v.den env ρ)) := by rw [← Array.getElem?_toList]; simp
        have h2 : (#[v.den env ρ] ++ (#[Value.iface t (v.den env ρ)] ++ c.args.map a.eval).extract 1 (#[Value.iface t (v.den env ρ)] ++ c.args.map a.eval).size) = (v.den env ρ :: c.args.toList.map a.eval).toArray := by
         rw [ext_one]; apply Array.toList_inj.1; simp
        simp only [execOp, hop, resolve, hcal, hval, Sem.run_bind, Sem.run_pure, Result.andThen_ok, invoke, h1, callMethod, run_program, methodS_run hm]
        rw [h2, hee]
       rw [hrun]
       show Calls X.P g _ w _
       exact Calls.mono hcalls fun e' w' ⟨c', he, hn⟩ => by subst he; exact hn
     · exact hs.elim
   · exact hs.elim
  · exact hs.elim
 · exact hs.elim
end
section
variable {U : Type} [Nil U]
theorem app_get {env : List (EV U)} {i : Nat} (h : i < env.length) (xs : List (EV U)) : (env ++ xs)[i]? = env[i]? := List.getElem?_append_left h
theorem Ex.scoped_den {n : Nat} : ∀ {e : Ex}, e.inScope n = true → ∀ {env : List (EV U)} (xs : List (EV U)), n ≤ env.length → e.den (env ++ xs) = e.den env := by
 intro e
 induction e with
 | lit _ => intro _ env xs _; rfl
 | var i => intro h env xs hl; simp [Ex.inScope] at h; simp only [Ex.den, gI, app_get (show i < env.length by omega)]
 | bin op k a b ih1 ih2 => intro h env xs hl; simp [Ex.inScope] at h; simp only [Ex.den, ih1 h.1 xs hl, ih2 h.2 xs hl]
 | conv k a ih => intro h env xs hl; simp only [Ex.inScope] at h; simp only [Ex.den, ih h xs hl]
 | len i => intro h env xs hl; simp [Ex.inScope] at h; simp only [Ex.den, gL, app_get (show i < env.length by omega)]
 | nth i e ih => intro h env xs hl; simp [Ex.inScope] at h; simp only [Ex.den, gL, app_get (show i < env.length by omega), ih h.2 xs hl]
 | fld i e c ih => intro h env xs hl; simp [Ex.inScope] at h; simp only [Ex.den, gF, app_get (show i < env.length by omega), ih h.2 xs hl]
 | nrow i => intro h env xs hl; simp [Ex.inScope] at h; simp only [Ex.den, gN, app_get (show i < env.length by omega)]
theorem Bx.scoped_den {n : Nat} : ∀ {e : Bx}, e.inScope n = true → ∀ {env : List (EV U)} (xs : List (EV U)), n ≤ env.length → e.den (env ++ xs) = e.den env := by
 intro e
 induction e with
 | lit _ => intro _ env xs _; rfl
 | var i => intro h env xs hl; simp [Bx.inScope] at h; simp only [Bx.den, gB, app_get (show i < env.length by omega)]
 | cmp op a b => intro h env xs hl; simp [Bx.inScope] at h; simp only [Bx.den, Ex.scoped_den h.1 xs hl, Ex.scoped_den h.2 xs hl]
 | beq a b ih1 ih2 => intro h env xs hl; simp [Bx.inScope] at h; simp only [Bx.den, ih1 h.1 xs hl, ih2 h.2 xs hl]
 | not a ih => intro h env xs hl; simp only [Bx.inScope] at h; simp only [Bx.den, ih h xs hl]
 | and a b ih1 ih2 => intro h env xs hl; simp [Bx.inScope] at h; simp only [Bx.den, ih1 h.1 xs hl, ih2 h.2 xs hl]
 | isnil i => intro h env xs hl; simp [Bx.inScope] at h; simp only [Bx.den, gNil, app_get (show i < env.length by omega)]
 | fld i e c => intro h env xs hl; simp [Bx.inScope] at h; simp only [Bx.den, gF, app_get (show i < env.length by omega), Ex.scoped_den h.2 xs hl]
 | mem i e =>
   intro h env xs hl
   simp [Bx.inScope] at h
   have hg : gL (env ++ xs) i = gL env i := by simp only [gL, app_get (show i < env.length by omega)]
   simp only [Bx.den, hg, Ex.scoped_den h.2 xs hl]
theorem Bnd.scoped_den {n : Nat} {b : Bnd} (h : b.inScope n = true) {env : List (EV U)} (xs : List (EV U)) (hl : n ≤ env.length) : b.den (env ++ xs) = b.den env := by
 cases b with
 | ex e => simp only [Bnd.den, Ex.scoped_den h xs hl]
 | bx e => simp only [Bnd.den, Bx.scoped_den h xs hl]
 | var i => simp [Bnd.inScope] at h; simp [Bnd.den, List.getD, app_get (show i < env.length by omega)]
theorem bnds_den {n : Nat} {β : List Bnd} (h : β.all (Bnd.inScope n) = true) {env : List (EV U)} (xs : List (EV U)) (hl : n ≤ env.length) : β.map (Bnd.den (env ++ xs)) = β.map (Bnd.den env) :=
 List.map_congr_left fun b hb => Bnd.scoped_den (List.all_eq_true.1 h b hb) xs hl
theorem Ex.subst_scoped {β : List Bnd} : ∀ {e e' : Ex}, e.subst β = some e' → e.inScope β.length = true := by
 intro e
 induction e with
 | lit _ => intro _ _; rfl
 | var i => intro e' h; simp only [Ex.subst] at h; split at h <;> simp at h <;> (rename_i hb; simp [Ex.inScope, (List.getElem?_eq_some_iff.1 hb).1])
 | bin op k a b ih1 ih2 => intro e' h; simp only [Ex.subst, Option.bind_eq_some_iff, Option.map_eq_some_iff] at h; obtain ⟨x, hx, y, hy, _⟩ := h; simp [Ex.inScope, ih1 hx, ih2 hy]
 | conv k a ih => intro e' h; simp only [Ex.subst, Option.map_eq_some_iff] at h; obtain ⟨x, hx, _⟩ := h; simp [Ex.inScope, ih hx]
 | len i => intro e' h; simp only [Ex.subst] at h; split at h <;> simp at h; rename_i hb; simp [Ex.inScope, (List.getElem?_eq_some_iff.1 hb).1]
 | nth i e ih => intro e' h; simp only [Ex.subst] at h; split at h <;> simp at h; rename_i hb; obtain ⟨x, hx, _⟩ := h; simp [Ex.inScope, (List.getElem?_eq_some_iff.1 hb).1, ih hx]
 | fld i e c ih => intro e' h; simp only [Ex.subst] at h; split at h <;> simp at h; rename_i hb; obtain ⟨x, hx, _⟩ := h; simp [Ex.inScope, (List.getElem?_eq_some_iff.1 hb).1, ih hx]
 | nrow i => intro e' h; simp only [Ex.subst] at h; split at h <;> simp at h; rename_i hb; simp [Ex.inScope, (List.getElem?_eq_some_iff.1 hb).1]
theorem Bx.subst_scoped {β : List Bnd} : ∀ {e e' : Bx}, e.subst β = some e' → e.inScope β.length = true := by
 intro e
 induction e with
 | lit _ => intro _ _; rfl
 | var i => intro e' h; simp only [Bx.subst] at h; split at h <;> simp at h <;> (rename_i hb; simp [Bx.inScope, (List.getElem?_eq_some_iff.1 hb).1])
 | cmp op a b => intro e' h; simp only [Bx.subst, Option.bind_eq_some_iff, Option.map_eq_some_iff] at h; obtain ⟨x, hx, y, hy, _⟩ := h; simp [Bx.inScope, Ex.subst_scoped hx, Ex.subst_scoped hy]
 | beq a b ih1 ih2 => intro e' h; simp only [Bx.subst, Option.bind_eq_some_iff, Option.map_eq_some_iff] at h; obtain ⟨x, hx, y, hy, _⟩ := h; simp [Bx.inScope, ih1 hx, ih2 hy]
 | not a ih => intro e' h; simp only [Bx.subst, Option.map_eq_some_iff] at h; obtain ⟨x, hx, _⟩ := h; simp [Bx.inScope, ih hx]
 | and a b ih1 ih2 => intro e' h; simp only [Bx.subst, Option.bind_eq_some_iff, Option.map_eq_some_iff] at h; obtain ⟨x, hx, y, hy, _⟩ := h; simp [Bx.inScope, ih1 hx, ih2 hy]
 | isnil i => intro e' h; simp only [Bx.subst] at h; split at h <;> simp at h; rename_i hb; simp [Bx.inScope, (List.getElem?_eq_some_iff.1 hb).1]
 | fld i e c => intro e' h; simp only [Bx.subst] at h; split at h <;> simp at h; rename_i hb; obtain ⟨x, hx, _⟩ := h; simp [Bx.inScope, (List.getElem?_eq_some_iff.1 hb).1, Ex.subst_scoped hx]
 | mem i e => intro e' h; simp only [Bx.subst] at h; split at h <;> simp at h; rename_i hb; obtain ⟨x, hx, _⟩ := h; simp [Bx.inScope, (List.getElem?_eq_some_iff.1 hb).1, Ex.subst_scoped hx]
theorem hv_lt {σ : List Nat} {n m : Nat} (h : σ[n]? = some m) (ρ : List Value) (hl : σ.length ≤ ρ.length) (ys : List Value) : hv (ρ ++ ys) n = hv ρ n :=
 hv_app (by have := (List.getElem?_eq_some_iff.1 h).1; omega) ys
mutual
theorem SV.subst_closed {β : List Bnd} {σ : List Nat} {env : List (EV U)} {ρ : List Value} (hb : β.length ≤ env.length) (hs : σ.length ≤ ρ.length) :
 ∀ {v v' : SV}, v.subst β σ = some v' → (∀ xs ys, v.den (env ++ xs) (ρ ++ ys) = v.den env ρ) ∧ v.stab env
 | .int k e, v', h => by
   simp only [SV.subst, Option.map_eq_some_iff] at h
   obtain ⟨x, hx, _⟩ := h
   exact ⟨fun xs ys => by simp only [SV.den, Ex.scoped_den (Ex.subst_scoped hx) xs hb], trivial⟩
 | .bool b, v', h => by
   simp only [SV.subst, Option.map_eq_some_iff] at h
   obtain ⟨x, hx, _⟩ := h
   exact ⟨fun xs ys => by simp only [SV.den, Bx.scoped_den (Bx.subst_scoped hx) xs hb], trivial⟩
 | .nilp, v', h => ⟨fun _ _ => rfl, trivial⟩
 | .ptr n off, v', h => by
   simp only [SV.subst, Option.map_eq_some_iff] at h
   obtain ⟨x, hx, _⟩ := h
   exact ⟨fun xs ys => by simp only [SV.den, hv_lt hx ρ hs], trivial⟩
 | .ptrx n e sz off, v', h => by
   simp only [SV.subst, Option.bind_eq_some_iff, Option.map_eq_some_iff] at h
   obtain ⟨x, hx, y, hy, _⟩ := h
   exact ⟨fun xs ys => by simp only [SV.den, hv_lt hx ρ hs, Ex.scoped_den (Ex.subst_scoped hy) xs hb], fun xs => Ex.scoped_den (Ex.subst_scoped hy) xs hb⟩
 | .hnd n, v', h => by
   simp only [SV.subst, Option.map_eq_some_iff] at h
   obtain ⟨x, hx, _⟩ := h
   exact ⟨fun xs ys => by simp only [SV.den, hv_lt hx ρ hs], trivial⟩
 | .nils, v', h => ⟨fun _ _ => rfl, trivial⟩
 | .slice n l c, v', h => by
   simp only [SV.subst, Option.bind_eq_some_iff, Option.map_eq_some_iff] at h
   obtain ⟨x, hx, y, hy, z, hz, _⟩ := h
   exact ⟨fun xs ys => by simp only [SV.den, hv_lt hx ρ hs, Ex.scoped_den (Ex.subst_scoped hy) xs hb, Ex.scoped_den (Ex.subst_scoped hz) xs hb], fun xs => Ex.scoped_den (Ex.subst_scoped hy) xs hb, fun xs => Ex.scoped_den (Ex.subst_scoped hz) xs hb⟩
 | .slicx n o l c, v', h => by
   simp only [SV.subst, Option.bind_eq_some_iff, Option.map_eq_some_iff] at h
   obtain ⟨x, hx, y, hy, z, hz, _⟩ := h
   exact ⟨fun xs ys => by simp only [SV.den, hv_lt hx ρ hs, Ex.scoped_den (Ex.subst_scoped hy) xs hb, Ex.scoped_den (Ex.subst_scoped hz) xs hb], fun xs => Ex.scoped_den (Ex.subst_scoped hy) xs hb, fun xs => Ex.scoped_den (Ex.subst_scoped hz) xs hb⟩
 | .func fn a b, v', h => by
   simp only [SV.subst, Option.bind_eq_some_iff, Option.map_eq_some_iff] at h
   obtain ⟨x, hx, y, hy, _⟩ := h
   have h1 := SV.substL_closed hb hs hx
   have h2 := SV.substL_closed hb hs hy
   exact ⟨fun xs ys => by simp only [SV.den, h1.1 xs ys, h2.1 xs ys], h1.2, h2.2⟩
 | .nilf, v', h => ⟨fun _ _ => rfl, trivial⟩
 | .agg l, v', h => by
   simp only [SV.subst, Option.map_eq_some_iff] at h
   obtain ⟨x, hx, _⟩ := h
   have h1 := SV.substL_closed hb hs hx
   exact ⟨fun xs ys => by simp only [SV.den, h1.1 xs ys], h1.2⟩
 | .tuple l, v', h => by
   simp only [SV.subst, Option.map_eq_some_iff] at h
   obtain ⟨x, hx, _⟩ := h
   have h1 := SV.substL_closed hb hs hx
   exact ⟨fun xs ys => by simp only [SV.den, h1.1 xs ys], h1.2⟩
 | .iface t l, v', h => by
   simp only [SV.subst, Option.map_eq_some_iff] at h
   obtain ⟨x, hx, _⟩ := h
   have h1 := SV.substL_closed hb hs hx
   exact ⟨fun xs ys => by simp only [SV.den, h1.1 xs ys], h1.2⟩
 | .rowv k i, v', h => by
   simp only [SV.subst] at h
   split at h <;> simp at h
   rename_i hbi
   have : i < env.length := by have := (List.getElem?_eq_some_iff.1 hbi).1; omega
   exact ⟨fun xs ys => by simp only [SV.den, gL, app_get this], trivial⟩
 | .yld n, v', h => by
   simp only [SV.subst, Option.map_eq_some_iff] at h
   obtain ⟨x, hx, _⟩ := h
   exact ⟨fun xs ys => by simp only [SV.den, hv_lt hx ρ hs], trivial⟩
 | .mapv n, v', h => by
   simp only [SV.subst, Option.map_eq_some_iff] at h
   obtain ⟨x, hx, _⟩ := h
   exact ⟨fun xs ys => by simp only [SV.den, hv_lt hx ρ hs], trivial⟩
 | .str s, v', h => ⟨fun _ _ => rfl, trivial⟩
 | .junk, v', h => ⟨fun _ _ => rfl, trivial⟩
theorem SV.substL_closed {β : List Bnd} {σ : List Nat} {env : List (EV U)} {ρ : List Value} (hb : β.length ≤ env.length) (hs : σ.length ≤ ρ.length) :
 ∀ {l l' : List SV}, SV.substL β σ l = some l' → (∀ xs ys, SV.denL (env ++ xs) (ρ ++ ys) l = SV.denL env ρ l) ∧ SV.stabL env l
 | [], l', h => ⟨fun _ _ => rfl, trivial⟩
 | v :: l, l', h => by
   simp only [SV.substL, Option.bind_eq_some_iff, Option.map_eq_some_iff] at h
   obtain ⟨x, hx, y, hy, _⟩ := h
   have h1 := SV.subst_closed hb hs hx
   have h2 := SV.substL_closed hb hs hy
   exact ⟨fun xs ys => by simp only [SV.denL, h1.1 xs ys, h2.1 xs ys], h1.2, h2.2⟩
end
theorem EStab.of_subst {β : List Bnd} {n : Nat} (hs : β.all (Bnd.inScope n) = true) {env : List (EV U)} (hl : n ≤ env.length) {e e' : Ex} (h : e.subst β = some e') : EStab env e' :=
 fun xs => by rw [Ex.subst_den _ h, Ex.subst_den _ h, bnds_den hs xs hl]
mutual
theorem SV.stab_of_subst {β : List Bnd} {σ : List Nat} {n : Nat} (hs : β.all (Bnd.inScope n) = true) {env : List (EV U)} (hl : n ≤ env.length) : ∀ {v v' : SV}, v.subst β σ = some v' → v'.stab env
 | .int k e, v', h => by simp only [SV.subst, Option.map_eq_some_iff] at h; obtain ⟨x, hx, rfl⟩ := h; trivial
 | .bool b, v', h => by simp only [SV.subst, Option.map_eq_some_iff] at h; obtain ⟨x, hx, rfl⟩ := h; trivial
 | .nilp, v', h => by simp [SV.subst] at h; subst h; trivial
 | .ptr n off, v', h => by simp only [SV.subst, Option.map_eq_some_iff] at h; obtain ⟨x, hx, rfl⟩ := h; trivial
 | .ptrx n e sz off, v', h => by
   simp only [SV.subst, Option.bind_eq_some_iff, Option.map_eq_some_iff] at h
   obtain ⟨x, hx, y, hy, rfl⟩ := h
   exact EStab.of_subst hs hl hy
 | .hnd n, v', h => by simp only [SV.subst, Option.map_eq_some_iff] at h; obtain ⟨x, hx, rfl⟩ := h; trivial
 | .nils, v', h => by simp [SV.subst] at h; subst h; trivial
 | .slice n l c, v', h => by
   simp only [SV.subst, Option.bind_eq_some_iff, Option.map_eq_some_iff] at h
   obtain ⟨x, hx, y, hy, z, hz, rfl⟩ := h
   exact ⟨EStab.of_subst hs hl hy, EStab.of_subst hs hl hz⟩
 | .slicx n o l c, v', h => by
   simp only [SV.subst, Option.bind_eq_some_iff, Option.map_eq_some_iff] at h
   obtain ⟨x, hx, y, hy, z, hz, rfl⟩ := h
   exact ⟨EStab.of_subst hs hl hy, EStab.of_subst hs hl hz⟩
 | .func fn a b, v', h => by
   simp only [SV.subst, Option.bind_eq_some_iff, Option.map_eq_some_iff] at h
   obtain ⟨x, hx, y, hy, rfl⟩ := h
   exact ⟨SV.stabL_of_subst hs hl hx, SV.stabL_of_subst hs hl hy⟩
 | .nilf, v', h => by simp [SV.subst] at h; subst h; trivial
 | .agg l, v', h => by simp only [SV.subst, Option.map_eq_some_iff] at h; obtain ⟨x, hx, rfl⟩ := h; exact SV.stabL_of_subst hs hl hx
 | .tuple l, v', h => by simp only [SV.subst, Option.map_eq_some_iff] at h; obtain ⟨x, hx, rfl⟩ := h; exact SV.stabL_of_subst hs hl hx
 | .iface t l, v', h => by simp only [SV.subst, Option.map_eq_some_iff] at h; obtain ⟨x, hx, rfl⟩ := h; exact SV.stabL_of_subst hs hl hx
 | .rowv k i, v', h => by simp only [SV.subst] at h; split at h <;> simp at h; subst h; trivial
 | .yld n, v', h => by simp only [SV.subst, Option.map_eq_some_iff] at h; obtain ⟨x, hx, rfl⟩ := h; trivial
 | .mapv n, v', h => by simp only [SV.subst, Option.map_eq_some_iff] at h; obtain ⟨x, hx, rfl⟩ := h; trivial
 | .str s, v', h => by simp only [SV.subst, Option.some.injEq] at h; subst h; trivial
 | .junk, v', h => by simp [SV.subst] at h; subst h; trivial
theorem SV.stabL_of_subst {β : List Bnd} {σ : List Nat} {n : Nat} (hs : β.all (Bnd.inScope n) = true) {env : List (EV U)} (hl : n ≤ env.length) : ∀ {l l' : List SV}, SV.substL β σ l = some l' → SV.stabL env l'
 | [], l', h => by simp [SV.substL] at h; subst h; trivial
 | v :: l, l', h => by
   simp only [SV.substL, Option.bind_eq_some_iff, Option.map_eq_some_iff] at h
   obtain ⟨x, hx, y, hy, rfl⟩ := h
   exact ⟨SV.stab_of_subst hs hl hx, SV.stabL_of_subst hs hl hy⟩
end
theorem names_den {σ : List Nat} {ρ : List Value} (h : σ.all (· < ρ.length) = true) (ys : List Value) : σ.map (hv (ρ ++ ys)) = σ.map (hv ρ) :=
 List.map_congr_left fun n hn => hv_app (by simpa using List.all_eq_true.1 h n hn) ys
theorem subst_Den {β : List Bnd} {σ : List Nat} {env : List (EV U)} {ρ : List Value} (hs : β.all (Bnd.inScope env.length) = true) (hn : σ.all (· < ρ.length) = true) {v v' : SV} (h : v.subst β σ = some v') :
 Den env ρ v' (v.den (β.map (Bnd.den env)) (σ.map (hv ρ))) :=
 ⟨fun xs ys => by rw [SV.subst_den _ _ h, bnds_den hs xs (Nat.le_refl _), names_den hn ys], SV.stab_of_subst hs (Nat.le_refl _) h⟩
theorem subst_DenL {β : List Bnd} {σ : List Nat} {env : List (EV U)} {ρ : List Value} (hs : β.all (Bnd.inScope env.length) = true) (hn : σ.all (· < ρ.length) = true) {l l' : List SV} (h : SV.substL β σ l = some l') :
 DenL env ρ l' (SV.denL (β.map (Bnd.den env)) (σ.map (hv ρ)) l) :=
 ⟨fun xs ys => by rw [← denL_map, SV.substL_den _ _ h, bnds_den hs xs (Nat.le_refl _), names_den hn ys], SV.stabL_of_subst hs (Nat.le_refl _) h⟩
theorem form_DenL {β : List Bnd} {σ : List Nat} {env : List (EV U)} {ρ : List Value} {l l' : List SV} {cs : List Value} (h : SV.substL β σ l = some l') (hd : DenL env ρ l' cs) :
 DenL (β.map (Bnd.den env)) (σ.map (hv ρ)) l cs := by
 have h1 := SV.substL_closed (env := β.map (Bnd.den env)) (ρ := σ.map (hv ρ)) (by simp) (by simp) h
 refine ⟨fun xs ys => ?_, h1.2⟩
 have h2 := SV.substL_den env ρ h
 have h3 := hd.1 [] []
 rw [← denL_map, h1.1 xs ys, ← h2, denL_map]
 simpa using h3
theorem bnd_u {env : List (EV U)} {j : Nat} {s : U} (h : (Bnd.var j).den env = .u s) : env[j]? = some (.u s) := by
 simp only [Bnd.den, List.getD] at h
 cases hj : env[j]? with
 | none => simp [hj] at h
 | some x => simp [hj] at h; rw [h]
theorem bnd_l {env : List (EV U)} {j : Nat} {s : List Int} (h : (Bnd.var j).den env = .l s) : env[j]? = some (.l s) := by
 simp only [Bnd.den, List.getD] at h
 cases hj : env[j]? with
 | none => simp [hj] at h
 | some x => simp [hj] at h; rw [h]
theorem bnd_r {env : List (EV U)} {j : Nat} {s : Loop} (h : (Bnd.var j).den env = .r s) : env[j]? = some (.r s) := by
 simp only [Bnd.den, List.getD] at h
 cases hj : env[j]? with
 | none => simp [hj] at h
 | some x => simp [hj] at h; rw [h]
theorem bnd_var {env : List (EV U)} {j : Nat} {x : EV U} (h : env[j]? = some x) : (Bnd.var j).den env = x := by simp [Bnd.den, List.getD, h]
variable {objs : List (ObjT U)} {w0 : World} {F : Nat → Prop} {w : World}
theorem Holds.form {β : List Bnd} {σ : List Nat} {env : List (EV U)} {ρ : List Value} {t h : HE} {v : Value} {S F' : Nat → Prop} (hf : Fr w0 F w) (hF : ∀ x, F' x → F x ∨ w0.heap.size ≤ x) (hs : t.subst β σ = some h)
 (hh : Holds objs w0 F env ρ h v w S) : Holds objs w F' (β.map (Bnd.den env)) (σ.map (hv ρ)) t v w S := by
 cases t with
 | cells vs ty =>
   simp only [HE.subst, Option.map_eq_some_iff] at hs
   obtain ⟨l, hl, rfl⟩ := hs
   obtain ⟨b, cs, e1, e2, e3, e4⟩ := hh
   exact ⟨b, cs, e1, form_DenL hl e2, e3, e4⟩
 | abs i =>
   simp only [HE.subst] at hs
   split at hs <;> simp at hs
   subst hs
   rename_i j hb
   obtain ⟨s, e1, e2⟩ := hh
   exact ⟨s, by rw [bnd_get env hb, bnd_var e1], e2⟩
 | row k ty i =>
   simp only [HE.subst] at hs
   split at hs <;> simp at hs
   subst hs
   rename_i j hb
   rcases hh with ⟨e1, e2⟩ | ⟨b, xs, e1, e2, e3, e4⟩
   · exact .inl ⟨e1, by rw [bnd_get env hb, bnd_var e2]⟩
   · exact .inr ⟨b, xs, e1, by rw [bnd_get env hb, bnd_var e2], e3, e4⟩
 | ro ks i =>
   simp only [HE.subst] at hs
   split at hs <;> simp at hs
   subst hs
   rename_i j hb
   rcases hh with ⟨e1, g, e2⟩ | ⟨a, g, n, e1, e2, e3, e4, e5⟩
   · exact .inl ⟨e1, g, by rw [bnd_get env hb, bnd_var e2]⟩
   refine .inr ⟨a, g, n, e1, by rw [bnd_get env hb, bnd_var e2], Nat.lt_of_lt_of_le e3 hf.size, fun h => ?_, fun j hj c k hk => ?_⟩
   · rcases hF _ h with h | h
     · exact e4 h
     · omega
   · rw [← e5 j hj c k hk]
     have hb : (a.add (j * ks.length + c)).block = a.block := by unfold Addr.add; split <;> rfl
     exact World.cell?_of_block (w := w0) (by rw [hb]; exact hf.block _ e3 e4)
 | sys i j =>
   simp only [HE.subst] at hs
   split at hs <;> simp at hs
   subst hs
   rename_i j' hb
   obtain ⟨b, L, e1, e2, e3⟩ := hh
   exact ⟨b, L, e1, by rw [bnd_get env hb, bnd_var e2], e3⟩
 | gone => trivial
 | sp k ty len xs => simp only [HE.subst, Option.some.injEq] at hs; subst hs; exact hh
 | mp i =>
   simp only [HE.subst] at hs
   split at hs <;> simp at hs
   subst hs
   rename_i j' hb
   obtain ⟨b, L, e1, e2, e3⟩ := hh
   exact ⟨b, L, e1, by rw [bnd_get env hb, bnd_var e2], e3⟩
 | kn k ty xs i =>
   simp only [HE.subst] at hs
   split at hs <;> simp at hs
   subst hs
   rename_i j' hb
   obtain ⟨b, L, e1, e2, e3⟩ := hh
   exact ⟨b, L, e1, by rw [bnd_get env hb, bnd_var e2], e3⟩
 | kc vs ty sz i =>
   simp only [HE.subst] at hs
   split at hs
   · rename_i j' hb
     simp only [Option.map_eq_some_iff] at hs
     obtain ⟨l, hl, rfl⟩ := hs
     obtain ⟨b, cs, r, e1, e2, ⟨l', e0, e5⟩, e3⟩ := hh
     exact ⟨b, cs, r, e1, form_DenL hl e2, ⟨l', by rw [bnd_get env hb, bnd_var e0], e5⟩, e3⟩
   · cases hs
 | rb ty i =>
   simp only [HE.subst] at hs
   split at hs <;> simp at hs
   subst hs
   rename_i j' hb
   obtain ⟨b, L, e1, e2, e3⟩ := hh
   exact ⟨b, L, e1, by rw [bnd_get env hb, bnd_var e2], e3⟩
theorem Holds.unform {β : List Bnd} {σ : List Nat} {env : List (EV U)} {ρ : List Value} {t h : HE} {v : Value} {S F' : Nat → Prop} {w1 : World} (hb : β.all (Bnd.inScope env.length) = true) (hn : σ.all (· < ρ.length) = true) (hs : t.subst β σ = some h)
 (hro : ∀ ks i, t ≠ .ro ks i) (hh : Holds objs w1 F' (β.map (Bnd.den env)) (σ.map (hv ρ)) t v w S) : Holds objs w0 F env ρ h v w S := by
 cases t with
 | cells vs ty =>
   simp only [HE.subst, Option.map_eq_some_iff] at hs
   obtain ⟨l, hl, rfl⟩ := hs
   obtain ⟨b, cs, e1, e2, e3, e4⟩ := hh
   refine ⟨b, cs, e1, ?_, e3, e4⟩
   have h1 := subst_DenL hb hn hl
   have h2 := e2.1 [] []
   simp only [List.append_nil] at h2
   rw [denL_map, h2] at h1
   exact h1
 | abs i =>
   simp only [HE.subst] at hs
   split at hs <;> simp at hs
   subst hs
   rename_i j hbj
   obtain ⟨s, e1, e2⟩ := hh
   rw [bnd_get env hbj] at e1
   injection e1 with e1
   exact ⟨s, bnd_u e1, e2⟩
 | row k ty i =>
   simp only [HE.subst] at hs
   split at hs <;> simp at hs
   subst hs
   rename_i j hbj
   rcases hh with ⟨e1, e2⟩ | ⟨b, xs, e1, e2, e3, e4⟩
   · rw [bnd_get env hbj] at e2
     injection e2 with e2
     exact .inl ⟨e1, bnd_l e2⟩
   · rw [bnd_get env hbj] at e2
     injection e2 with e2
     exact .inr ⟨b, xs, e1, bnd_l e2, e3, e4⟩
 | ro ks i => exact absurd rfl (hro ks i)
 | sys i j =>
   simp only [HE.subst] at hs
   split at hs <;> simp at hs
   subst hs
   rename_i j' hbj
   obtain ⟨b, L, e1, e2, e3⟩ := hh
   rw [bnd_get env hbj] at e2
   injection e2 with e2
   exact ⟨b, L, e1, bnd_r e2, e3⟩
 | gone => simp only [HE.subst, Option.some.injEq] at hs; subst hs; trivial
 | sp k ty len xs => simp only [HE.subst, Option.some.injEq] at hs; subst hs; exact hh
 | mp i =>
   simp only [HE.subst] at hs
   split at hs <;> simp at hs
   subst hs
   rename_i j' hbj
   obtain ⟨b, L, e1, e2, e3⟩ := hh
   rw [bnd_get env hbj] at e2
   injection e2 with e2
   exact ⟨b, L, e1, bnd_l e2, e3⟩
 | kn k ty xs i =>
   simp only [HE.subst] at hs
   split at hs <;> simp at hs
   subst hs
   rename_i j' hbj
   obtain ⟨b, L, e1, e2, e3⟩ := hh
   rw [bnd_get env hbj] at e2
   injection e2 with e2
   exact ⟨b, L, e1, bnd_l e2, e3⟩
 | kc vs ty sz i =>
   simp only [HE.subst] at hs
   split at hs
   · rename_i j' hbj
     simp only [Option.map_eq_some_iff] at hs
     obtain ⟨l, hl, rfl⟩ := hs
     obtain ⟨b, cs, r, e1, e2, ⟨l', e0, e5⟩, e3⟩ := hh
     rw [bnd_get env hbj] at e0
     injection e0 with e0
     refine ⟨b, cs, r, e1, ?_, ⟨l', bnd_l e0, e5⟩, e3⟩
     have h1 := subst_DenL hb hn hl
     have h2 := e2.1 [] []
     simp only [List.append_nil] at h2
     rw [denL_map, h2] at h1
     exact h1
   · cases hs
 | rb ty i =>
   simp only [HE.subst] at hs
   split at hs <;> simp at hs
   subst hs
   rename_i j' hbj
   obtain ⟨b, L, e1, e2, e3⟩ := hh
   rw [bnd_get env hbj] at e2
   injection e2 with e2
   exact ⟨b, L, e1, bnd_l e2, e3⟩
end
end Go.Proofs.Ytbmbiiiacajolaa
