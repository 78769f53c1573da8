/- The symbolic executor: blocks and who owns them; what stays. No program is named here. -/
import Derived.Test.YtjohihkbampbgaaSh
namespace Go.Proofs.Ytjohihkbampbgaa
set_option linter.unusedVariables false
set_option linter.unusedSimpArgs false
set_option linter.unusedSectionVars false
open Go

section
variable {U : Type} [Nil U]

def CellsAt (env : List (EV U)) (ρ : List Value) (vs : List SV) (ty : TypeId) (v : Value) (w : World) (S : Nat → Prop) : Prop :=
  ∃ b cs, v = .pointer (some ⟨b, 0, none⟩) ∧ DenL env ρ vs cs ∧ w.heap[b]? = some (.cells cs.toArray ty (0, 0)) ∧ S b
def RowAt (env : List (EV U)) (k : IntKind) (ty : TypeId) (i : Nat) (v : Value) (w : World) (S : Nat → Prop) : Prop :=
  (v = .pointer none ∧ env[i]? = some (.l [])) ∨ ∃ b xs, v = .pointer (some ⟨b, 0, none⟩) ∧ env[i]? = some (.l xs) ∧ w.heap[b]? = some (.cells (xs.map (Value.int k)).toArray ty (0, 0)) ∧ S b

/-- blocks that objects may have -/
def plainH : HE → Bool
  | .ro .. | .sys .. => false
  | _ => true
/-- an object at a value, on blocks of its own -/
inductive Rep (objs : List (ObjT U)) (w : World) : U → Value → (Nat → Prop) → Prop
  | mk (t : Nat) (T : ObjT U) (ps : List (EV U)) (ρ : List Value) (Sf : Nat → Nat → Prop) (S : Nat → Prop) (v : Value)
      (ht : objs[t]? = some T) (hn : ps.length = T.nv) (hok : T.ok ps) (hl : ρ.length = T.hp.length)
      (hcell : ∀ (n : Nat) vs ty, T.hp[n]? = some (.cells vs ty) → CellsAt ps ρ vs ty (hv ρ n) w (Sf n))
      (hrow : ∀ (n : Nat) k ty i, T.hp[n]? = some (.row k ty i) → RowAt ps k ty i (hv ρ n) w (Sf n))
      (habs : ∀ (n i : Nat) s, T.hp[n]? = some (.abs i) → ps[i]? = some (.u s) → Rep objs w s (hv ρ n) (Sf n))
      (habs' : ∀ (n i : Nat), T.hp[n]? = some (HE.abs i) → ∃ s, ps[i]? = some (EV.u s))
      (hro : ∀ (n : Nat) h, T.hp[n]? = some h → plainH h = true)
      (disj : ∀ n m x, Sf n x → Sf m x → n = m) (sub : ∀ n x, Sf n x → S x) (inn : ∀ n x, Sf n x → n < T.hp.length)
      (hv' : v = if T.isNil then .pointer none else hv ρ 0) : Rep objs w (T.obj ps) v S

def RoAt (w0 : World) (F : Nat → Prop) (env : List (EV U)) (ks : List (Option IntKind)) (i : Nat) (v : Value) : Prop :=
  (v = .pointer none ∧ ∃ g, env[i]? = some (.f g 0)) ∨ ∃ a g n, v = .pointer (some a) ∧ env[i]? = some (.f g n) ∧ a.block < w0.heap.size ∧ ¬ F a.block ∧
    ∀ j, j < n → ∀ c k, ks[c]? = some k → w0.cell? (a.add (j * ks.length + c)) = some (roVal k (g j c))
def Holds (objs : List (ObjT U)) (w0 : World) (F : Nat → Prop) (env : List (EV U)) (ρ : List Value) (h : HE) (v : Value) (w : World) (S : Nat → Prop) : Prop :=
  match h with
  | .cells vs ty => CellsAt env ρ vs ty v w S
  | .abs i => ∃ s, env[i]? = some (.u s) ∧ Rep objs w s v S
  | .row k ty i => RowAt env k ty i v w S
  | .ro ks i => RoAt w0 F env ks i v
  | .sys i j => ∃ b L, v = .pointer (some ⟨b, 0, none⟩) ∧ env[i]? = some (.r L) ∧ w.heap[b]? = some (objOf L j) ∧ S b
  | .gone => True

structure Fr (w0 : World) (F : Nat → Prop) (w : World) : Prop where
  os : w.os = w0.os
  tape : w.tape = w0.tape
  output : w.output = w0.output
  size : w0.heap.size ≤ w.heap.size
  block : ∀ x, x < w0.heap.size → ¬ F x → w.heap[x]? = w0.heap[x]?

structure Own (objs : List (ObjT U)) (w0 : World) (F : Nat → Prop) (env : List (EV U)) (ρ : List Value) (hp : List HE) (w : World) (S : Nat → Nat → Prop) : Prop where
  holds : ∀ n h, hp[n]? = some h → Holds objs w0 F env ρ h (hv ρ n) w (S n)
  disj : ∀ n m x, S n x → S m x → n = m
  dom : ∀ n x, S n x → n < hp.length ∧ x < w.heap.size ∧ (F x ∨ w0.heap.size ≤ x)
structure Sat (objs : List (ObjT U)) (w0 : World) (F : Nat → Prop) (env : List (EV U)) (ρ : List Value) (hp : List HE) (w : World) : Prop where
  len : ρ.length = hp.length
  own : ∃ S, Own objs w0 F env ρ hp w S
  frame : Fr w0 F w

/-- a mark among the calls that wait -/
def markOf (ρ : List Value) (n : Nat) : Deferred := { target := .collected (addrOf (hv ρ n)).block, args := #[] }
def TmOk (env : List (EV U)) (ρ : List Value) (tm : Tm) (a : Act) : Prop := TmRel env ρ tm a.tmps ∧ a.defers = tm.mks.map (markOf ρ) ∧ ∀ n ∈ tm.mks, n < ρ.length
inductive Stk (env : List (EV U)) (ρ : List Value) : List Tm → List Act → Prop
  | nil : Stk env ρ [] []
  | cons {tm : Tm} {a : Act} {l : List Tm} {as : List Act} (h : TmOk env ρ tm a) (t : Stk env ρ l as) : Stk env ρ (tm :: l) (a :: as)
def PcOk (env : List (EV U)) (pc : List (Bx × Bool)) : Prop := ∀ p ∈ pc, DenB env p.1 p.2
structure Conc (objs : List (ObjT U)) (w0 : World) (F : Nat → Prop) (env : List (EV U)) (ρ : List Value) (st : St) (a : Act) (as : List Act) (w : World) : Prop where
  ne : env.length = st.ne
  pc : PcOk env st.pc
  tm : TmOk env ρ st.tm a
  stk : Stk env ρ st.stk as
  sat : Sat objs w0 F env ρ st.hp w

/-- what must hold of the forms -/
structure ObjsOk (objs : List (ObjT U)) : Prop where
  nil : ∀ (t : Nat) (T : ObjT U), objs[t]? = some T → ∀ ps, T.ok ps → Nil.isNil (T.obj ps) = T.isNil
  nilhp : ∀ (t : Nat) (T : ObjT U), objs[t]? = some T → T.isNil = true → T.hp = []
  noro : ∀ (t : Nat) (T : ObjT U), objs[t]? = some T → ∀ (n : Nat) h, T.hp[n]? = some h → plainH h = true
  root : ∀ (t : Nat) (T : ObjT U), objs[t]? = some T → T.isNil = false → ∃ vs ty, T.hp[0]? = some (.cells vs ty)

variable {objs : List (ObjT U)} {w0 : World} {F : Nat → Prop} {env : List (EV U)} {ρ : List Value} {hp : List HE} {w w' : World} {P : Program}

/-! ### more numbers, more names, other worlds -/
theorem EStab.ext {e : Ex} (h : EStab env e) (o : List (EV U)) : EStab (env ++ o) e := fun xs => by rw [List.append_assoc, h, h]
mutual
theorem SV.stab_ext (o : List (EV U)) : ∀ {v : SV}, v.stab env → v.stab (env ++ o)
  | .ptrx _ _ _ _, h => by exact EStab.ext h o
  | .slice _ _ _, h => by exact ⟨EStab.ext h.1 o, EStab.ext h.2 o⟩
  | .func _ _ _, h => by exact ⟨SV.stabL_ext o h.1, SV.stabL_ext o h.2⟩
  | .agg _, h => by simp only [SV.stab] at h ⊢; exact SV.stabL_ext o h
  | .tuple _, h => by simp only [SV.stab] at h ⊢; exact SV.stabL_ext o h
  | .int _ _, _ => trivial
  | .bool _, _ => trivial
  | .nilp, _ => trivial
  | .ptr _ _, _ => trivial
  | .hnd _, _ => trivial
  | .nils, _ => trivial
  | .nilf, _ => trivial
  | .rowv _ _, _ => trivial
  | .yld _, _ => trivial
  | .junk, _ => trivial
theorem SV.stabL_ext (o : List (EV U)) : ∀ {l : List SV}, SV.stabL env l → SV.stabL (env ++ o) l
  | [], _ => trivial
  | _ :: _, h => ⟨SV.stab_ext o h.1, SV.stabL_ext o h.2⟩
end
theorem Den.ext {v : SV} {c : Value} (h : Den env ρ v c) (o : List (EV U)) (r : List Value) : Den (env ++ o) (ρ ++ r) v c :=
  ⟨fun xs ys => by rw [List.append_assoc, List.append_assoc]; exact h.1 _ _, SV.stab_ext o h.2⟩
theorem DenL.ext {l : List SV} {cs : List Value} (h : DenL env ρ l cs) (o : List (EV U)) (r : List Value) : DenL (env ++ o) (ρ ++ r) l cs :=
  ⟨fun xs ys => by rw [List.append_assoc, List.append_assoc]; exact h.1 _ _, SV.stabL_ext o h.2⟩
theorem DenB.ext {b : Bx} {c : Bool} (h : DenB env b c) (o : List (EV U)) : DenB (env ++ o) b c := fun xs => by rw [List.append_assoc]; exact h _
theorem Rel.ext {v : SV} {c : Value} (h : Rel env ρ v c) (o : List (EV U)) (r : List Value) : Rel (env ++ o) (ρ ++ r) v c := h.imp id fun h => h.ext o r
theorem mark_app {n : Nat} (h : n < ρ.length) (r : List Value) : markOf (ρ ++ r) n = markOf ρ n := by unfold markOf; rw [hv_app h]
theorem TmOk.ext {tm : Tm} {a : Act} (h : TmOk env ρ tm a) (o : List (EV U)) (r : List Value) : TmOk (env ++ o) (ρ ++ r) tm a :=
  ⟨⟨h.1.1, fun i => (h.1.2 i).ext o r⟩, by rw [h.2.1]; exact List.map_congr_left fun n hn => (mark_app (h.2.2 n hn) r).symm, fun n hn => by rw [List.length_append]; exact Nat.lt_of_lt_of_le (h.2.2 n hn) (Nat.le_add_right _ _)⟩
theorem Stk.ext {l : List Tm} {as : List Act} (h : Stk env ρ l as) (o : List (EV U)) (r : List Value) : Stk (env ++ o) (ρ ++ r) l as := by
  induction h with
  | nil => exact .nil
  | cons h _ ih => exact .cons (h.ext o r) ih
theorem get_ext {i : Nat} {x : EV U} (h : env[i]? = some x) (o : List (EV U)) : (env ++ o)[i]? = some x := by
  rw [List.getElem?_append_left (List.getElem?_eq_some_iff.1 h).1, h]

/-- an object stays, where its blocks stay -/
theorem Rep.stay {s : U} {v : Value} {S : Nat → Prop} (h : Rep objs w s v S) (hk : ∀ x, S x → w'.heap[x]? = w.heap[x]?) : Rep objs w' s v S := by
  induction h with
  | mk t T ps ρ Sf S v ht hn hok hl hcell hrow habs habs' hro disj sub inn hv' ih =>
    refine .mk t T ps ρ Sf S v ht hn hok hl (fun n vs ty h => ?_) (fun n k ty i h => ?_) (fun n i s h hs => ih n i s h hs fun x hx => hk x (sub n x hx)) habs' hro disj sub inn hv'
    · obtain ⟨b, cs, e1, e2, e3, e4⟩ := hcell n vs ty h
      exact ⟨b, cs, e1, e2, by rw [hk b (sub n b e4)]; exact e3, e4⟩
    · rcases hrow n k ty i h with h | ⟨b, cs, e1, e2, e3, e4⟩
      · exact .inl h
      · exact .inr ⟨b, cs, e1, e2, by rw [hk b (sub n b e4)]; exact e3, e4⟩
theorem Holds.stay {h : HE} {v : Value} {S : Nat → Prop} (hh : Holds objs w0 F env ρ h v w S) (hk : ∀ x, S x → w'.heap[x]? = w.heap[x]?) : Holds objs w0 F env ρ h v w' S := by
  cases h with
  | cells vs ty => obtain ⟨b, cs, e1, e2, e3, e4⟩ := hh; exact ⟨b, cs, e1, e2, by rw [hk b e4]; exact e3, e4⟩
  | row k ty i =>
    rcases hh with h | ⟨b, cs, e1, e2, e3, e4⟩
    · exact .inl h
    · exact .inr ⟨b, cs, e1, e2, by rw [hk b e4]; exact e3, e4⟩
  | abs i => obtain ⟨s, e1, e2⟩ := hh; exact ⟨s, e1, e2.stay hk⟩
  | ro ks i => exact hh
  | sys i j => obtain ⟨b, L, e1, e2, e3, e4⟩ := hh; exact ⟨b, L, e1, e2, by rw [hk b e4]; exact e3, e4⟩
  | gone => trivial
theorem Holds.ext {h : HE} {v : Value} {S : Nat → Prop} (hh : Holds objs w0 F env ρ h v w S) (o : List (EV U)) (r : List Value) : Holds objs w0 F (env ++ o) (ρ ++ r) h v w S := by
  cases h with
  | cells vs ty => obtain ⟨b, cs, e1, e2, e3, e4⟩ := hh; exact ⟨b, cs, e1, e2.ext o r, e3, e4⟩
  | row k ty i =>
    rcases hh with ⟨e1, e2⟩ | ⟨b, cs, e1, e2, e3, e4⟩
    · exact .inl ⟨e1, get_ext e2 o⟩
    · exact .inr ⟨b, cs, e1, get_ext e2 o, e3, e4⟩
  | abs i => obtain ⟨s, e1, e2⟩ := hh; exact ⟨s, get_ext e1 o, e2⟩
  | ro ks i =>
    rcases hh with ⟨e1, g, e2⟩ | ⟨a, g, n, e1, e2, e3⟩
    · exact .inl ⟨e1, g, get_ext e2 o⟩
    · exact .inr ⟨a, g, n, e1, get_ext e2 o, e3⟩
  | sys i j => obtain ⟨b, L, e1, e2, e3⟩ := hh; exact ⟨b, L, e1, get_ext e2 o, e3⟩
  | gone => trivial
theorem Rep.isPtr (ho : ObjsOk objs) {s : U} {v : Value} {S : Nat → Prop} (h : Rep objs w s v S) : (Nil.isNil s = true → v = .pointer none) ∧ (Nil.isNil s = false → ∃ a, v = .pointer (some a)) := by
  cases h with
  | mk t T ps ρ Sf S v ht hn hok hl hcell hrow habs habs' hro disj sub inn hv' =>
    rw [ho.nil t T ht ps hok]
    refine ⟨fun h => by rw [hv', if_pos h], fun h => ?_⟩
    rw [hv', if_neg (by simp [h])]
    obtain ⟨vs, ty, h0⟩ := ho.root t T ht h
    obtain ⟨b, cs, e1, _⟩ := hcell 0 vs ty h0
    exact ⟨_, e1⟩
theorem Sat.reads (ho : ObjsOk objs) (h : Sat objs w0 F env ρ hp w) : Reads env ρ hp w := by
  intro n e hn
  obtain ⟨S, hS⟩ := h.own
  refine ⟨by rw [h.len]; exact (List.getElem?_eq_some_iff.1 hn).1, ?_⟩
  have hh := hS.holds n e hn
  cases e with
  | cells vs ty => obtain ⟨b, cs, e1, e2, e3, e4⟩ := hh; exact ⟨b, cs, e1, e2, e3⟩
  | row k ty i =>
    rcases hh with h | ⟨b, cs, e1, e2, e3, e4⟩
    · exact .inl h
    · exact .inr ⟨b, cs, e1, e2, e3⟩
  | abs i => obtain ⟨s, e1, e2⟩ := hh; exact ⟨s, e1, e2.isPtr ho⟩
  | ro ks i =>
    rcases hh with h | ⟨a, g, m, e1, e2, e3, e4, e5⟩
    · exact .inl h
    exact .inr ⟨a, g, m, e1, e2, fun j hj c k hk => by
      rw [← e5 j hj c k hk]
      have hb : (a.add (j * ks.length + c)).block = a.block := by unfold Addr.add; split <;> rfl
      exact World.cell?_of_block (w := w0) (by rw [hb]; exact h.frame.block _ e3 e4)⟩
  | sys i j => trivial
  | gone => trivial

theorem PcOk.ext {pc : List (Bx × Bool)} (h : PcOk env pc) (o : List (EV U)) : PcOk (env ++ o) pc := fun p hp => (h p hp).ext o
theorem Conc.ext {st : St} {a : Act} {as : List Act} (h : Conc objs w0 F env ρ st a as w) (o : List (EV U)) : Conc objs w0 F (env ++ o) ρ { st with ne := st.ne + o.length } a as w := by
  obtain ⟨S, hS⟩ := h.sat.own
  refine ⟨by simp [h.ne], h.pc.ext o, by simpa using h.tm.ext o [], by simpa using h.stk.ext o [], h.sat.len, ⟨S, fun n e hn => by simpa using (hS.holds n e hn).ext o [], hS.disj, hS.dom⟩, h.sat.frame⟩

/-- a world whose blocks are the same -/
theorem Fr.same (h : Fr w0 F w) (ho : w'.os = w.os) (ht : w'.tape = w.tape) (hu : w'.output = w.output) (hh : w'.heap = w.heap) : Fr w0 F w' :=
  ⟨ho.trans h.os, ht.trans h.tape, hu.trans h.output, by rw [hh]; exact h.size, by rw [hh]; exact h.block⟩
theorem Conc.drewn {st : St} {a : Act} {as : List Act} (h : Conc objs w0 F env ρ st a as w) (n : Nat) : Conc objs w0 F env ρ st a as { w with drawn := n } := by
  obtain ⟨S, hS⟩ := h.sat.own
  exact ⟨h.ne, h.pc, h.tm, h.stk, h.sat.len, ⟨S, fun n e hn => (hS.holds n e hn).stay fun _ _ => rfl, hS.disj, hS.dom⟩, h.sat.frame.same rfl rfl rfl rfl⟩

theorem blt_true {a b : Nat} (h : Nat.blt a b = true) : a < b := Nat.le_of_ble_eq_true h
theorem blt_false {a b : Nat} (h : Nat.blt a b = false) : b ≤ a := by
  rcases Nat.lt_or_ge a b with h' | h'
  · have : Nat.blt a b = true := Nat.ble_eq_true_of_le h'
    rw [h] at this; cases this
  · exact h'
theorem Tm.set_mks (m : Tm) (i : Nat) (v : SV) : (m.set i v).mks = m.mks := by unfold Tm.set; split <;> rfl
theorem Tm.set_len (m : Tm) (i : Nat) (v : SV) : (m.set i v).len = m.len := by unfold Tm.set; split <;> rfl
theorem TmRel.set {tm : Tm} {tmps : Array Value} (h : TmRel env ρ tm tmps) (d : Nat) {v : SV} {c : Value} (hr : Rel env ρ v c) : TmRel env ρ (tm.set d v) (tmps.setIfInBounds d c) := by
  refine ⟨by rw [Tm.set_len]; simp [h.1], fun i => ?_⟩
  unfold Tm.set
  split
  · rename_i hb
    have hlt := blt_true hb
    have hlt2 : d < tmps.size := by rw [← h.1]; exact hlt
    by_cases hi : d = i
    · subst hi
      rcases (Tr.get_set tm.t d d v).1 rfl with e | e
      · simp only [Tm.getD, e]
        simpa [hlt2] using hr
      · simp only [Tm.getD, e]; exact .inl rfl
    · simp only [Tm.getD, (Tr.get_set tm.t d i v).2 hi]
      have := h.2 i
      simpa [Tm.getD, Array.getElem?_setIfInBounds_ne hi] using this
  · rename_i hb
    have hge : ¬ d < tmps.size := by have := blt_false hb; rw [← h.1]; omega
    have := h.2 i
    rwa [Array.setIfInBounds_eq_of_size_le (by omega)]
theorem TmOk.put {tm : Tm} {a : Act} (h : TmOk env ρ tm a) (d : Option Tmp) {v : SV} {c : Value} (hr : Rel env ρ v c) :
    TmOk env ρ (match d with | some d => tm.set d v | none => tm) (a.put d c) := by
  cases d with
  | none => exact h
  | some d => exact ⟨h.1.set d hr, by rw [Tm.set_mks]; exact h.2.1, by rw [Tm.set_mks]; exact h.2.2⟩
theorem Conc.put {st : St} {a : Act} {as : List Act} (h : Conc objs w0 F env ρ st a as w) (d : Option Tmp) {v : SV} {c : Value} (hr : Rel env ρ v c) : Conc objs w0 F env ρ (st.put d v) (a.put d c) as w := by
  have := h.tm.put d hr
  cases d with
  | none => exact h
  | some d => exact ⟨h.ne, h.pc, this, h.stk, h.sat⟩
end
end Go.Proofs.Ytjohihkbampbgaa
