/- The symbolic executor: what a tree of ways says; operations that change blocks. No program is named here. -/
import Derived.Test.YtjohihkbampbgaaSi
namespace Go.Proofs.Ytjohihkbampbgaa
set_option linter.unusedVariables false
set_option linter.unusedSimpArgs false
set_option linter.unusedSectionVars false
open Go

section
variable {U : Type} [Nil U]

def Tree.sat (X : Cx U) (R : List (EV U) → List (EV U) → Prop) : Tree → List (EV U) → Prop
  | .ret β, env => R env (β.map (Bnd.den env))
  | .br c t f, env => (c.den env = true → t.sat X R env) ∧ (c.den env = false → f.sat X R env)
  | .need c k, env => c.den env = true ∧ k.sat X R env
  | .call ci β k, env =>
    match X.cts[ci]? with
    | some c => c.pre (β.map (Bnd.den env)) ∧ k.sat X R (env ++ c.out (β.map (Bnd.den env)))
    | none => False
  | .ext d k, env =>
    match d with
    | .setl i e x => k.sat X R (env ++ [.l ((gL env i).set (e.den env).toNat (x.den env))])
    | .repl n x => k.sat X R (env ++ [.l (List.replicate (n.den env).toNat (x.den env))])
    | .mk t ps =>
      match X.objs[t]? with
      | some T => T.ok (ps.map (Bnd.den env)) ∧ k.sat X R (env ++ [.u (T.obj (ps.map (Bnd.den env)))])
      | none => False
    | .lst xs => k.sat X R (env ++ [.l (xs.map (Ex.den env))])
  | .and a b, env => a.sat X R env ∧ b.sat X R env
  | .ok, _ => True
  | .opn i t k, env =>
    match X.objs[t]? with
    | some T => ∀ ps, ps.length = T.nv → T.ok ps → env[i]? = some (.u (T.obj ps)) → k.sat X R (env ++ ps)
    | none => False
  | .nomore i ts, env => ∀ t T ps, X.objs[t]? = some T → t ∉ ts → ps.length = T.nv → T.ok ps → env[i]? ≠ some (.u (T.obj ps))
  | .loop id ne β k, env =>
    match X.loops[id]? with
    | some s => s.inv (env.take ne ++ β.map (Bnd.den env)) ∧ ∀ fr, fr.length = s.nv → s.inv (env.take ne ++ fr) → k.sat X R (env.take ne ++ fr)
    | none => False
  | .back id ne β, env =>
    match X.loops[id]? with
    | some s => s.inv (env.take ne ++ β.map (Bnd.den env)) ∧ s.mu (env.take ne ++ β.map (Bnd.den env)) < s.mu (env.take (ne + s.nv))
    | none => False
  | .viol _, _ => False
  | .rng k, env => ∀ L, k.sat X R (env ++ [.r L])
  | .grow i e k, env => ∀ c : Nat, k.sat X R (env ++ [.l ((gL env i).take (e.den env).toNat ++ List.replicate c 0), .i (((e.den env).toNat + c : Nat) : Int)])
  | .fail _, _ => False

def Callable (P : Program) (g : FuncId) : Prop := ∃ fn c, P.funcs[g]? = some fn ∧ fn.body = some c ∧ (fn.name == "runtime.NumGoroutine") = false
def ArgsRel (env : List (EV U)) (ρ : List Value) (args : List SV) (vals : List Value) : Prop := args.length = vals.length ∧ ∀ i, Rel env ρ (args.getD i .junk) (vals.getD i undef)

/-- numbers and names go on from these -/
def Pfx (pr : List (EV U) × List Value) (env : List (EV U)) (ρ : List Value) : Prop := pr.1 <+: env ∧ pr.2 <+: ρ
theorem Pfx.env {pr : List (EV U) × List Value} {env : List (EV U)} {ρ : List Value} (h : Pfx pr env ρ) (o : List (EV U)) : Pfx pr (env ++ o) ρ := ⟨h.1.trans (List.prefix_append _ _), h.2⟩
theorem Pfx.rho {pr : List (EV U) × List Value} {env : List (EV U)} {ρ : List Value} (h : Pfx pr env ρ) (r : List Value) : Pfx pr env (ρ ++ r) := ⟨h.1, h.2.trans (List.prefix_append _ _)⟩

/-- calls are carried out as told -/
theorem Pfx.trans {b p : List (EV U) × List Value} {env : List (EV U)} {ρ : List Value} (h : Pfx b p.1 p.2) (h' : Pfx p env ρ) : Pfx b env ρ := ⟨h.1.trans h'.1, h.2.trans h'.2⟩
def InlOk (X : Cx U) (R : List (EV U) → List (EV U) → Prop) (w0 : World) (F : Nat → Prop) (base : List (EV U) × List Value) (inl : FuncId → List SV → St → (SV → St → Tree) → Tree) : Prop :=
  ∀ (pre : List (EV U) × List Value) g args st K env ρ a as w vals (N : Value → World → Prop), Pfx base pre.1 pre.2 → Pfx pre env ρ → Conc X.objs w0 F env ρ st a as w → ArgsRel env ρ args vals →
    (∀ v st' env' ρ' c w', Pfx pre env' ρ' → Conc X.objs w0 F env' ρ' st' a as w' → Rel env' ρ' v c → (K v st').sat X R env' → N c w') → (inl g args st K).sat X R env →
    Callable X.P g ∧ Calls X.P g vals.toArray w fun e w' => ∃ c, e = .returned c ∧ N c w'

variable {X : Cx U} {R : List (EV U) → List (EV U) → Prop} {w0 : World} {F : Nat → Prop} {env : List (EV U)} {ρ : List Value} {hp : List HE} {w w' : World}

theorem needs_sat {ns : List Bx} {k : Tree} (h : (needs ns k).sat X R env) : (∀ b ∈ ns, b.den env = true) ∧ k.sat X R env := by
  induction ns with
  | nil => exact ⟨by simp, h⟩
  | cons b ns ih =>
    obtain ⟨h1, h2⟩ := h
    obtain ⟨h3, h4⟩ := ih h2
    refine ⟨fun c hc => ?_, h4⟩
    rcases List.mem_cons.1 hc with rfl | hc
    · exact h1
    · exact h3 c hc

variable {objs : List (ObjT U)}
theorem Own.update {S : Nat → Nat → Prop} (hS : Own objs w0 F env ρ hp w S) (n : Nat) (h' : HE) (hn : n < hp.length) (hblk : ∀ x, ¬ S n x → w'.heap[x]? = w.heap[x]?) (hsize : w'.heap.size = w.heap.size)
    (hh : Holds objs w0 F env ρ h' (hv ρ n) w' (S n)) : Own objs w0 F env ρ (hp.set n h') w' S := by
  refine ⟨fun m e hm => ?_, hS.disj, fun m x hx => by rw [List.length_set, hsize]; exact hS.dom m x hx⟩
  by_cases hmn : n = m
  · subst hmn
    simp only [List.getElem?_set_self hn, Option.some.injEq] at hm
    subst hm
    exact hh
  · rw [List.getElem?_set_ne hmn] at hm
    exact (hS.holds m e hm).stay fun x hx => hblk x fun hx' => hmn (hS.disj n m x hx' hx)
theorem Fr.update {S : Nat → Nat → Prop} (hS : Own objs w0 F env ρ hp w S) (hf : Fr w0 F w) (n : Nat) (hblk : ∀ x, ¬ S n x → w'.heap[x]? = w.heap[x]?) (hsize : w'.heap.size = w.heap.size)
    (ho : w'.os = w.os) (ht : w'.tape = w.tape) (hu : w'.output = w.output) : Fr w0 F w' :=
  ⟨ho.trans hf.os, ht.trans hf.tape, hu.trans hf.output, by rw [hsize]; exact hf.size, fun x hx hF => by
    rw [hblk x fun hx' => ?_]
    · exact hf.block x hx hF
    · rcases (hS.dom n x hx').2.2 with h | h
      · exact hF h
      · omega⟩
theorem hv_len (ρ : List Value) (v : Value) : hv (ρ ++ [v]) ρ.length = v := by simp [hv]
theorem Own.push {S : Nat → Nat → Prop} (hS : Own objs w0 F env ρ hp w S) (hl : ρ.length = hp.length) (hf : Fr w0 F w) (o : Obj) (h' : HE) (v : Value)
    (hh : Holds objs w0 F env (ρ ++ [v]) h' v (w.alloc o) (· = w.heap.size)) : Own objs w0 F env (ρ ++ [v]) (hp ++ [h']) (w.alloc o) (fun m x => if m = hp.length then x = w.heap.size else S m x) := by
  have old : ∀ m x, S m x → x < w.heap.size := fun m x hx => (hS.dom m x hx).2.1
  refine ⟨fun m e hm => ?_, fun n m x h1 h2 => ?_, fun m x hx => ?_⟩
  · by_cases hmn : m = hp.length
    · subst hmn
      simp at hm
      subst hm
      simp only [if_true]
      rw [← hl, hv_len]
      exact hh
    · have hlt : m < hp.length := by
        have := (List.getElem?_eq_some_iff.1 hm).1
        simp at this; omega
      rw [List.getElem?_append_left hlt] at hm
      have h1 := (hS.holds m e hm).ext [] [v]
      rw [List.append_nil] at h1
      rw [hv_app (by omega)]
      have h2 := h1.stay (w' := w.alloc o) fun x hx => Go.RowKit.Below.heap_alloc w o x (old m x hx)
      have hfun : (fun x => if m = hp.length then x = w.heap.size else S m x) = S m := by funext x; rw [if_neg hmn]
      rw [hfun]
      exact h2
  · skip
    by_cases hn : n = hp.length
    · rw [if_pos hn] at h1
      by_cases hm : m = hp.length
      · rw [hn, hm]
      · rw [if_neg hm] at h2; have := old m x h2; omega
    · rw [if_neg hn] at h1
      by_cases hm : m = hp.length
      · rw [if_pos hm] at h2; have := old n x h1; omega
      · rw [if_neg hm] at h2; exact hS.disj n m x h1 h2
  · simp only [List.length_append, List.length_singleton, World.size_alloc]
    by_cases hm : m = hp.length
    · rw [if_pos hm] at hx
      exact ⟨by omega, by omega, .inr (by have := hf.size; omega)⟩
    · rw [if_neg hm] at hx
      obtain ⟨h1, h2, h3⟩ := hS.dom m x hx
      exact ⟨by omega, by omega, h3⟩
theorem Fr.alloc (hf : Fr w0 F w) (o : Obj) : Fr w0 F (w.alloc o) :=
  ⟨hf.os, hf.tape, hf.output, by have := hf.size; simp; omega, fun x hx hF => by rw [Go.RowKit.Below.heap_alloc w o x (by have := hf.size; omega)]; exact hf.block x hx hF⟩

/-- a new block of cells -/
theorem Conc.alloc {st : St} {a : Act} {as : List Act} (h : Conc objs w0 F env ρ st a as w) {vs : List SV} {cs : List Value} (ty : TypeId) (hd : DenL env ρ vs cs) :
    Conc objs w0 F env (ρ ++ [.pointer (some ⟨w.heap.size, 0, none⟩)]) { st with hp := st.hp ++ [HE.cells vs ty] } a as (w.alloc (.cells cs.toArray ty)) := by
  obtain ⟨S, hS⟩ := h.sat.own
  refine ⟨h.ne, h.pc, by simpa using h.tm.ext [] [_], by simpa using h.stk.ext [] [_], by simp [h.sat.len], ⟨_, hS.push h.sat.len h.sat.frame _ (.cells vs ty) _ ⟨_, cs, rfl, by simpa using hd.ext [] [_], heap_alloc_new w _, rfl⟩⟩, h.sat.frame.alloc _⟩
theorem Conc.allocRow {st : St} {a : Act} {as : List Act} (h : Conc objs w0 F env ρ st a as w) (k : IntKind) (ty : TypeId) {i : Nat} {xs : List Int} (hi : env[i]? = some (.l xs)) :
    Conc objs w0 F env (ρ ++ [.pointer (some ⟨w.heap.size, 0, none⟩)]) { st with hp := st.hp ++ [HE.row k ty i] } a as (w.alloc (.cells (xs.map (Value.int k)).toArray ty)) := by
  obtain ⟨S, hS⟩ := h.sat.own
  refine ⟨h.ne, h.pc, by simpa using h.tm.ext [] [_], by simpa using h.stk.ext [] [_], by simp [h.sat.len], ⟨_, hS.push h.sat.len h.sat.frame _ (.row k ty i) _ (.inr ⟨_, xs, rfl, hi, heap_alloc_new w _, rfl⟩)⟩, h.sat.frame.alloc _⟩
theorem newptr_den {w : World} {st : St} (h : ρ.length = st.hp.length) : Den env (ρ ++ [Value.pointer (some ⟨w.heap.size, 0, none⟩)]) (.ptr st.hp.length 0) (.pointer (some ⟨w.heap.size, 0, none⟩)) := by
  have := ptr_den (env := env) (ρ := ρ ++ [Value.pointer (some ⟨w.heap.size, 0, none⟩)]) (n := st.hp.length) 0 (by simp [h])
  rw [← h, hv_len] at this
  rw [← h]
  simpa [addrOf, Addr.add] using this

/-- the cells of a block turn -/
theorem Conc.setCells {st : St} {a : Act} {as : List Act} (h : Conc objs w0 F env ρ st a as w) {n : Nat} {vs vs' : List SV} {ty : TypeId} {cs' : List Value} {b : Nat} (hn : st.hp[n]? = some (.cells vs ty))
    (hb : hv ρ n = .pointer (some ⟨b, 0, none⟩)) (hd : DenL env ρ vs' cs') : Conc objs w0 F env ρ { st with hp := st.hp.set n (.cells vs' ty) } a as (w.setRow b cs'.toArray) := by
  obtain ⟨S, hS⟩ := h.sat.own
  obtain ⟨b', cs, e1, e2, e3, e4⟩ := hS.holds n _ hn
  rw [hb] at e1; injection e1 with e1; injection e1 with e1; injection e1 with e1; subst e1
  have hblk : ∀ x, ¬ S n x → (w.setRow b cs'.toArray).heap[x]? = w.heap[x]? := fun x hx => setRow_other w b x _ (fun e => hx (e ▸ e4))
  refine ⟨h.ne, h.pc, h.tm, h.stk, by simp [h.sat.len], ⟨S, hS.update n _ (List.getElem?_eq_some_iff.1 hn).1 hblk (size_setRow w b _) ⟨b, cs', hb, hd, setRow_heap w b cs.toArray _ ty _ e3, e4⟩⟩, Fr.update hS h.sat.frame n hblk (size_setRow w b _) rfl rfl rfl⟩
theorem Conc.setRow' {st : St} {a : Act} {as : List Act} (h : Conc objs w0 F env ρ st a as w) {n i j : Nat} {k : IntKind} {ty : TypeId} {xs : List Int} {b : Nat} (hn : st.hp[n]? = some (.row k ty i))
    (hb : hv ρ n = .pointer (some ⟨b, 0, none⟩)) (hj : env[j]? = some (.l xs)) : Conc objs w0 F env ρ { st with hp := st.hp.set n (.row k ty j) } a as (w.setRow b (xs.map (Value.int k)).toArray) := by
  obtain ⟨S, hS⟩ := h.sat.own
  rcases hS.holds n _ hn with ⟨e1, _⟩ | ⟨b', cs, e1, e2, e3, e4⟩
  · rw [hb] at e1; cases e1
  rw [hb] at e1; injection e1 with e1; injection e1 with e1; injection e1 with e1; subst e1
  have hblk : ∀ x, ¬ S n x → (w.setRow b (xs.map (Value.int k)).toArray).heap[x]? = w.heap[x]? := fun x hx => setRow_other w b x _ (fun e => hx (e ▸ e4))
  refine ⟨h.ne, h.pc, h.tm, h.stk, by simp [h.sat.len], ⟨S, hS.update n _ (List.getElem?_eq_some_iff.1 hn).1 hblk (size_setRow w b _) (.inr ⟨b, xs, hb, hj, setRow_heap w b _ _ ty _ e3, e4⟩)⟩, Fr.update hS h.sat.frame n hblk (size_setRow w b _) rfl rfl rfl⟩
end
end Go.Proofs.Ytjohihkbampbgaa
