/- The symbolic executor: operations that change nothing yield what their values denote. No program is named here. -/
import Derived.Test.YtjohihkbampbgaaSd
namespace Go.Proofs.Ytjohihkbampbgaa
set_option linter.unusedVariables false
set_option linter.unusedSimpArgs false
set_option linter.unusedSectionVars false
open Go

section
variable {U : Type} [Nil U]

def EStab (env : List (EV U)) (e : Ex) : Prop := ∀ xs, e.den (env ++ xs) = e.den env
mutual
def SV.stab (env : List (EV U)) : SV → Prop
  | .ptrx _ e _ _ => EStab env e
  | .slice _ l c => EStab env l ∧ EStab env c
  | .func _ a b => SV.stabL env a ∧ SV.stabL env b
  | .agg l => SV.stabL env l
  | .tuple l => SV.stabL env l
  | _ => True
def SV.stabL (env : List (EV U)) : List SV → Prop
  | [] => True
  | v :: l => v.stab env ∧ SV.stabL env l
end
def Den (env : List (EV U)) (ρ : List Value) (v : SV) (c : Value) : Prop := (∀ xs ys, v.den (env ++ xs) (ρ ++ ys) = c) ∧ v.stab env
def DenL (env : List (EV U)) (ρ : List Value) (vs : List SV) (cs : List Value) : Prop := (∀ xs ys, vs.map (SV.den (env ++ xs) (ρ ++ ys)) = cs) ∧ SV.stabL env vs
def DenE (env : List (EV U)) (e : Ex) (n : Int) : Prop := ∀ xs, e.den (env ++ xs) = n
def DenB (env : List (EV U)) (e : Bx) (n : Bool) : Prop := ∀ xs, e.den (env ++ xs) = n
def Rel (env : List (EV U)) (ρ : List Value) (v : SV) (c : Value) : Prop := v = .junk ∨ Den env ρ v c
def TmRel (env : List (EV U)) (ρ : List Value) (tm : Tm) (tmps : Array Value) : Prop :=
  tm.len = tmps.size ∧ ∀ i, Rel env ρ (tm.getD i .junk) (tmps.getD i undef)

def roVal : Option IntKind → Int → Value
  | some k, n => .int k n
  | none, n => .bool (n != 0)

def ReadH (env : List (EV U)) (ρ : List Value) (h : HE) (v : Value) (w : World) : Prop :=
  match h with
  | .cells vs ty => ∃ b cs, v = .pointer (some ⟨b, 0, none⟩) ∧ DenL env ρ vs cs ∧ w.heap[b]? = some (.cells cs.toArray ty (0, 0))
  | .row k ty i => (v = .pointer none ∧ env[i]? = some (.l [])) ∨ ∃ b xs, v = .pointer (some ⟨b, 0, none⟩) ∧ env[i]? = some (.l xs) ∧ w.heap[b]? = some (.cells (xs.map (Value.int k)).toArray ty (0, 0))
  | .ro ks i => (v = .pointer none ∧ ∃ g, env[i]? = some (.f g 0)) ∨ ∃ a g n, v = .pointer (some a) ∧ env[i]? = some (.f g n) ∧ ∀ j, j < n → ∀ c k, ks[c]? = some k → w.cell? (a.add (j * ks.length + c)) = some (roVal k (g j c))
  | .abs i => ∃ s, env[i]? = some (.u s) ∧ (Nil.isNil s = true → v = .pointer none) ∧ (Nil.isNil s = false → ∃ a, v = .pointer (some a))
  | .sys _ _ => True
  | .gone => True
def Reads (env : List (EV U)) (ρ : List Value) (hp : List HE) (w : World) : Prop :=
  ∀ n h, hp[n]? = some h → n < ρ.length ∧ ReadH env ρ h (hv ρ n) w

variable {env : List (EV U)} {ρ : List Value} {P : Program} {hp : List HE} {W : World → Prop} {w1 : World}
/-- a row that is not empty has its block -/
theorem Reads.row {n i : Nat} {k : IntKind} {ty : TypeId} (hr : Reads env ρ hp w1) (hn : hp[n]? = some (.row k ty i)) (hpos : 0 < (gL env i).length) :
    n < ρ.length ∧ ∃ b xs, hv ρ n = .pointer (some ⟨b, 0, none⟩) ∧ env[i]? = some (.l xs) ∧ w1.heap[b]? = some (.cells (xs.map (Value.int k)).toArray ty (0, 0)) := by
  obtain ⟨h1, h2⟩ := hr n _ hn
  rcases h2 with ⟨_, h3⟩ | h2
  · simp [gL, h3] at hpos
  · exact ⟨h1, h2⟩
theorem Reads.ro {n i : Nat} {ks : List (Option IntKind)} (hr : Reads env ρ hp w1) (hn : hp[n]? = some (.ro ks i)) (hpos : 0 < gN env i) :
    n < ρ.length ∧ ∃ a g m, hv ρ n = .pointer (some a) ∧ env[i]? = some (.f g m) ∧ ∀ j, j < m → ∀ c k, ks[c]? = some k → w1.cell? (a.add (j * ks.length + c)) = some (roVal k (g j c)) := by
  obtain ⟨h1, h2⟩ := hr n _ hn
  rcases h2 with ⟨_, g, h3⟩ | h2
  · simp [gN, h3] at hpos
  · exact ⟨h1, h2⟩
theorem Reads.baseC {hp : List HE} (hr : Reads env ρ hp w1) {n : Nat} {vs : List SV} {ty : TypeId} (hn : hp[n]? = some (.cells vs ty)) : baseOf (hv ρ n) = some (addrOf (hv ρ n)) := by
  obtain ⟨_, b, cs, e, _⟩ := hr n _ hn
  rw [e]; rfl
theorem Reads.lst {n i : Nat} {k : IntKind} {ty : TypeId} (hr : Reads env ρ hp w1) (hn : hp[n]? = some (.row k ty i)) : ∃ xs, env[i]? = some (.l xs) := by
  obtain ⟨h1, h2⟩ := hr n _ hn
  rcases h2 with ⟨_, h3⟩ | ⟨_, xs, _, h3, _⟩
  · exact ⟨_, h3⟩
  · exact ⟨_, h3⟩
theorem Reads.fn {n i : Nat} {ks : List (Option IntKind)} (hr : Reads env ρ hp w1) (hn : hp[n]? = some (.ro ks i)) : ∃ g m, env[i]? = some (.f g m) := by
  obtain ⟨h1, h2⟩ := hr n _ hn
  rcases h2 with ⟨_, g, h3⟩ | ⟨_, g, m, _, h3, _⟩
  · exact ⟨_, _, h3⟩
  · exact ⟨_, _, h3⟩

theorem stabL_mem {vs : List SV} : SV.stabL env vs ↔ ∀ v ∈ vs, v.stab env := by
  induction vs with
  | nil => simp [SV.stabL]
  | cons v l ih => simp [SV.stabL, ih]
theorem Den.now {v : SV} {c : Value} (h : Den env ρ v c) : v.den env ρ = c := by simpa using h.1 [] []
theorem DenE.now {e : Ex} {n : Int} (h : DenE env e n) : e.den env = n := by simpa using h []
theorem DenB.now {e : Bx} {n : Bool} (h : DenB env e n) : e.den env = n := by simpa using h []
theorem EStab.denE {e : Ex} (h : EStab env e) : DenE env e (e.den env) := h
theorem DenE.stab {e : Ex} {n : Int} (h : DenE env e n) : EStab env e := fun xs => by rw [h xs, h.now]
theorem den_int {k : IntKind} {e : Ex} {c : Value} (h : Den env ρ (.int k e) c) : c = .int k (e.den env) ∧ DenE env e (e.den env) := by
  refine ⟨h.now.symm, fun xs => ?_⟩
  have h1 := h.1 xs []
  rw [← h.now] at h1
  simp only [SV.den] at h1
  injection h1
theorem int_den {k : IntKind} {e : Ex} {n : Int} (h : DenE env e n) : Den env ρ (.int k e) (.int k n) := ⟨fun xs ys => by simp [SV.den, h xs], trivial⟩
theorem den_bool {e : Bx} {c : Value} (h : Den env ρ (.bool e) c) : c = .bool (e.den env) ∧ DenB env e (e.den env) := by
  refine ⟨h.now.symm, fun xs => ?_⟩
  have h1 := h.1 xs []
  rw [← h.now] at h1
  simp only [SV.den] at h1
  injection h1
theorem bool_den {e : Bx} {n : Bool} (h : DenB env e n) : Den env ρ (.bool e) (.bool n) := ⟨fun xs ys => by simp [SV.den, h xs], trivial⟩
theorem den_agg {l : List SV} {c : Value} (h : Den env ρ (.agg l) c) : ∃ cs : List Value, c = .agg cs.toArray ∧ DenL env ρ l cs := by
  refine ⟨l.map (SV.den env ρ), by rw [← h.now]; simp [SV.den, denL_map], fun xs ys => ?_, h.2⟩
  have h1 := h.1 xs ys
  rw [← h.now] at h1
  simp only [SV.den, denL_map] at h1
  injection h1 with h1
  injection h1
theorem agg_den {l : List SV} {cs : List Value} (h : DenL env ρ l cs) : Den env ρ (.agg l) (.agg cs.toArray) := ⟨fun xs ys => by simp only [SV.den, denL_map, h.1 xs ys], h.2⟩
theorem den_tuple {l : List SV} {c : Value} (h : Den env ρ (.tuple l) c) : ∃ cs : List Value, c = .tuple cs.toArray ∧ DenL env ρ l cs := by
  refine ⟨l.map (SV.den env ρ), by rw [← h.now]; simp [SV.den, denL_map], fun xs ys => ?_, h.2⟩
  have h1 := h.1 xs ys
  rw [← h.now] at h1
  simp only [SV.den, denL_map] at h1
  injection h1 with h1
  injection h1
theorem tuple_den {l : List SV} {cs : List Value} (h : DenL env ρ l cs) : Den env ρ (.tuple l) (.tuple cs.toArray) := ⟨fun xs ys => by simp only [SV.den, denL_map, h.1 xs ys], h.2⟩
theorem den_func {fn : Fn} {x y : List SV} {c : Value} (h : Den env ρ (.func fn x y) c) : ∃ xs ys : List Value, c = .func fn xs.toArray ys.toArray ∧ DenL env ρ x xs ∧ DenL env ρ y ys := by
  refine ⟨x.map (SV.den env ρ), y.map (SV.den env ρ), by rw [← h.now]; simp [SV.den, denL_map], ⟨fun xs ys => ?_, h.2.1⟩, fun xs ys => ?_, h.2.2⟩ <;>
    (have h1 := h.1 xs ys; rw [← h.now] at h1; simp only [SV.den, denL_map] at h1; injection h1 with h0 h1 h2)
  · injection h1
  · injection h2
theorem func_den {fn : Fn} {x y : List SV} {xs ys : List Value} (h : DenL env ρ x xs) (h' : DenL env ρ y ys) : Den env ρ (.func fn x y) (.func fn xs.toArray ys.toArray) :=
  ⟨fun us vs => by simp only [SV.den, denL_map, h.1 us vs, h'.1 us vs], h.2, h'.2⟩
theorem DenL.len {vs : List SV} {cs : List Value} (h : DenL env ρ vs cs) : vs.length = cs.length := by rw [← h.1 [] []]; simp
theorem DenL.get {vs : List SV} {cs : List Value} (h : DenL env ρ vs cs) {i : Nat} {v : SV} (hi : vs[i]? = some v) : ∃ c, cs[i]? = some c ∧ Den env ρ v c := by
  have h0 := h.1 [] []
  refine ⟨v.den (env ++ []) (ρ ++ []), by rw [← h0]; simp [hi], fun xs ys => ?_, stabL_mem.1 h.2 v (List.mem_of_getElem? hi)⟩
  have h1 := h.1 xs ys
  have h2 : (vs.map (SV.den (env ++ xs) (ρ ++ ys)))[i]? = (vs.map (SV.den (env ++ []) (ρ ++ [])))[i]? := by rw [h1, h0]
  simpa [hi] using h2
theorem DenL.drop {vs : List SV} {cs : List Value} (h : DenL env ρ vs cs) (k : Nat) : DenL env ρ (vs.drop k) (cs.drop k) :=
  ⟨fun xs ys => by rw [List.map_drop, h.1 xs ys], stabL_mem.2 fun v hv => stabL_mem.1 h.2 v (List.mem_of_mem_drop hv)⟩
theorem DenL.take {vs : List SV} {cs : List Value} (h : DenL env ρ vs cs) (k : Nat) : DenL env ρ (vs.take k) (cs.take k) :=
  ⟨fun xs ys => by rw [List.map_take, h.1 xs ys], stabL_mem.2 fun v hv => stabL_mem.1 h.2 v (List.mem_of_mem_take hv)⟩
theorem DenL.append {vs us : List SV} {cs ds : List Value} (h : DenL env ρ vs cs) (h' : DenL env ρ us ds) : DenL env ρ (vs ++ us) (cs ++ ds) :=
  ⟨fun xs ys => by rw [List.map_append, h.1 xs ys, h'.1 xs ys], stabL_mem.2 fun v hv => (List.mem_append.1 hv).elim (stabL_mem.1 h.2 v) (stabL_mem.1 h'.2 v)⟩
theorem DenL.nil : DenL env ρ [] [] := ⟨fun _ _ => rfl, trivial⟩
theorem DenL.cons {v : SV} {c : Value} {vs : List SV} {cs : List Value} (h : Den env ρ v c) (h' : DenL env ρ vs cs) : DenL env ρ (v :: vs) (c :: cs) :=
  ⟨fun xs ys => by rw [List.map_cons, h.1 xs ys, h'.1 xs ys], h.2, h'.2⟩
theorem DenL.uncons {v : SV} {vs : List SV} {cs : List Value} (h : DenL env ρ (v :: vs) cs) : ∃ c ds, cs = c :: ds ∧ Den env ρ v c ∧ DenL env ρ vs ds := by
  have h0 := h.1 [] []
  refine ⟨_, _, h0.symm, ⟨fun xs ys => ?_, h.2.1⟩, fun xs ys => ?_, h.2.2⟩ <;>
    (have h1 := h.1 xs ys; rw [← h0] at h1; simp only [List.map_cons] at h1; injection h1 with h1 h2)
theorem DenL.one {v : SV} {c : Value} (h : Den env ρ v c) : DenL env ρ [v] [c] := DenL.cons h DenL.nil

theorem Rel.den {v : SV} {c : Value} (h : Rel env ρ v c) (hj : v ≠ .junk) : Den env ρ v c := h.resolve_left hj
theorem hv_app {n : Nat} (h : n < ρ.length) (ys : List Value) : hv (ρ ++ ys) n = hv ρ n := by simp [hv, List.getElem?_append_left h]
theorem add0 (b n : Nat) : (⟨b, 0, none⟩ : Addr).add n = ⟨b, n, none⟩ := by unfold Addr.add; split <;> simp_all
theorem addr_add_add (a : Addr) (m n : Nat) : (a.add m).add n = a.add (m + n) := by
  unfold Addr.add
  by_cases hm : m = 0
  · subst hm; simp
  · by_cases hn : n = 0
    · subst hn; simp
    · have : ¬ (m + n = 0) := by omega
      simp [hm, hn, this, Nat.add_assoc]
theorem den_ptr {n off : Nat} {c : Value} (h : Den env ρ (.ptr n off) c) : c = .pointer (some ((addrOf (hv ρ n)).add off)) := h.now.symm
theorem ptr_den {n : Nat} (off : Nat) (hn : n < ρ.length) : Den env ρ (.ptr n off) (.pointer (some ((addrOf (hv ρ n)).add off))) := ⟨fun xs ys => by simp [SV.den, hv_app hn], trivial⟩
theorem ptrx_den {n : Nat} {e : Ex} {m : Int} (sz off : Nat) (hn : n < ρ.length) (he : DenE env e m) : Den env ρ (.ptrx n e sz off) (.pointer (some ((addrOf (hv ρ n)).add (m.toNat * sz + off)))) := ⟨fun xs ys => by simp [SV.den, hv_app hn, he xs], he.stab⟩
theorem den_hnd {n : Nat} {c : Value} (h : Den env ρ (.hnd n) c) : c = hv ρ n := h.now.symm
theorem hnd_den {n : Nat} (hn : n < ρ.length) : Den env ρ (.hnd n) (hv ρ n) := ⟨fun xs ys => by simp [SV.den, hv_app hn], trivial⟩

theorem ofAtom_rel (v : Value) : Rel env ρ (ofAtom v) v := by
  unfold ofAtom
  split <;> first | exact .inl rfl | exact .inr ⟨fun _ _ => rfl, trivial⟩
theorem evalO_rel {tm : Tm} {a : Act} (h : TmRel env ρ tm a.tmps) (x : Operand) : Rel env ρ (evalO tm x) (a.eval x) := by
  cases x with
  | tmp t => exact h.2 t
  | const v => exact ofAtom_rel v
  | global g => exact .inl rfl
  | func f => exact .inr ⟨fun _ _ => rfl, trivial, trivial⟩

theorem isAggT_true {t : TypeId} (h : isAggT P t = true) (w : World) : (isAgg t).run P w = .ok true w := by
  unfold isAggT at h
  unfold isAgg
  rw [Sem.run_bind]
  split at h <;> simp at h <;> (rename_i d hd; rw [run_underlying hd w]; rfl)
theorem plainT_false {t : TypeId} (h : plainT P t = true) (w : World) : (isAgg t).run P w = .ok false w := by
  unfold plainT at h
  unfold isAgg
  rw [Sem.run_bind]
  cases hd : P.underlying t with
  | none => simp [hd] at h
  | some d => rw [run_underlying hd w]; cases d <;> simp_all
theorem sizeT_run {t : TypeId} {k : Nat} (h : sizeT P t = some k) (w : World) : (sizeOf t).run P w = .ok k w := by
  unfold sizeT at h
  cases hi : P.info? t with
  | none => simp [hi] at h
  | some i => simp [hi] at h; simp [sizeOf, typeInfo, hi, h]

theorem loadVar_agg {t : TypeId} {k : Nat} {a : Addr} {cs : List Value} (h : isAggT P t = true) (hs : sizeT P t = some k) (hk : cs.length = k) (w : World)
    (hc : ∀ j v, cs[j]? = some v → w.cell? (a.add j) = some v) : (loadVar t a).run P w = .ok (.agg cs.toArray) w := by
  have hl := run_loadCells_list (P := P) w a cs hc
  rw [hk] at hl
  simp [loadVar, isAggT_true h, sizeT_run hs, hl]
theorem loadVar_plain {t : TypeId} {a : Addr} {v : Value} (h : plainT P t = true) (w : World) (hc : w.cell? a = some v) : (loadVar t a).run P w = .ok v w := by
  simp [loadVar, plainT_false h, run_load, hc]

theorem leE_spec {a b : Ex} (h : ∀ c ∈ leE a b, c.den env = true) : a.den env ≤ b.den env := by
  unfold leE at h
  have key : (mkCmp .leq a b).den env = true := by
    split at h
    · rename_i hc; rw [hc]; rfl
    · exact h _ (by simp)
  rw [den_mkCmp] at key
  simpa [cmpDen] using key
theorem ltE_spec {a b : Ex} (h : ∀ c ∈ ltE a b, c.den env = true) : a.den env < b.den env := by
  unfold ltE at h
  have key : (mkCmp .lss a b).den env = true := by
    split at h
    · rename_i hc; rw [hc]; rfl
    · exact h _ (by simp)
  rw [den_mkCmp] at key
  simpa [cmpDen] using key

theorem roFields_spec {ks : List (Option IntKind)} {i : Nat} {e : Ex} {g : Nat → Nat → Int} {n : Nat} {m : Int} (hi : env[i]? = some (.f g n)) (he : DenE env e m) :
    ∀ (k c : Nat) (l : List SV), roFields ks i e c k = some l → ∃ cs : List Value, DenL env ρ l cs ∧ cs.length = k ∧ ∀ j, j < k → ∃ q, ks[c + j]? = some q ∧ cs[j]? = some (roVal q (g m.toNat (c + j))) := by
  intro k
  induction k with
  | zero => intro c l h; simp [roFields] at h; subst h; exact ⟨[], DenL.nil, rfl, fun j hj => by omega⟩
  | succ k ih =>
    intro c l h
    have hg : ∀ xs, gF (env ++ xs) i = g := fun xs => by
      have hlt : i < env.length := (List.getElem?_eq_some_iff.1 hi).1
      simp [gF, List.getElem?_append_left hlt, hi]
    simp only [roFields] at h
    split at h
    · rename_i q hq
      simp only [Option.map_eq_some_iff] at h
      obtain ⟨l', hl', rfl⟩ := h
      obtain ⟨cs, h1, h2, h3⟩ := ih (c + 1) l' hl'
      refine ⟨.int q (g m.toNat c) :: cs, DenL.cons ⟨fun xs ys => by simp [SV.den, Ex.den, hg, he xs], trivial⟩ h1, by simp [h2], fun j hj => ?_⟩
      cases j with
      | zero => exact ⟨some q, by simpa using hq, by simp [roVal]⟩
      | succ j => obtain ⟨q', e1, e2⟩ := h3 j (by omega); exact ⟨q', by rw [← e1]; congr 1; omega, by simp only [List.getElem?_cons_succ, e2]; congr 3; omega⟩
    · rename_i hq
      simp only [Option.map_eq_some_iff] at h
      obtain ⟨l', hl', rfl⟩ := h
      obtain ⟨cs, h1, h2, h3⟩ := ih (c + 1) l' hl'
      refine ⟨.bool (g m.toNat c != 0) :: cs, DenL.cons ⟨fun xs ys => by simp [SV.den, Bx.den, hg, he xs], trivial⟩ h1, by simp [h2], fun j hj => ?_⟩
      cases j with
      | zero => exact ⟨none, by simpa using hq, by simp [roVal]⟩
      | succ j => obtain ⟨q', e1, e2⟩ := h3 j (by omega); exact ⟨q', by rw [← e1]; congr 1; omega, by simp only [List.getElem?_cons_succ, e2]; congr 3; omega⟩
    · cases h

theorem loadX_sound {t : TypeId} {n : Nat} {e : Ex} {sz off : Nat} {ns : List Bx} {v : SV} {m : Int} (h : loadX P hp t n e sz off = some (ns, v)) (he : DenE env e m)
    (hr : ∀ w, W w → Reads env ρ hp w) (h1 : W w1) (hns : ∀ b ∈ ns, b.den env = true) :
    ∃ c, Rel env ρ v c ∧ ∀ w, W w → (loadVar t ((addrOf (hv ρ n)).add (m.toNat * sz + off))).run P w = .ok c w := by
  unfold loadX at h
  split at h
  · rename_i k ty i hn
    split at h
    · rename_i hc
      simp only [Bool.and_eq_true, beq_iff_eq] at hc
      obtain ⟨⟨hp1, rfl⟩, rfl⟩ := hc
      simp only [Option.some.injEq, Prod.mk.injEq] at h
      obtain ⟨rfl, rfl⟩ := h
      obtain ⟨xs, hi⟩ := (hr w1 h1).lst hn
      have hlen : ∀ zs, gL (env ++ zs) i = xs := fun zs => by
        have hlt : i < env.length := (List.getElem?_eq_some_iff.1 hi).1
        simp [gL, List.getElem?_append_left hlt, hi]
      have b1 := leE_spec (env := env) (fun c hc => hns c (by simp only [List.mem_append]; first | exact .inl hc | exact .inr hc))
      have b2 := ltE_spec (env := env) (fun c hc => hns c (by simp only [List.mem_append]; first | exact .inl hc | exact .inr hc))
      simp only [Ex.den, he.now] at b1 b2
      have hl0 : gL env i = xs := by simpa using hlen []
      rw [hl0] at b2
      have hm : m.toNat < xs.length := by omega
      refine ⟨.int k (xs.getD m.toNat 0), .inr (int_den fun zs => by simp only [Ex.den, hlen, he zs]), fun w hw => ?_⟩
      obtain ⟨_, b', xs', hb', hi', hheap'⟩ := (hr w hw).row hn (by rw [hl0]; omega)
      have hxx : xs' = xs := by rw [hi] at hi'; injection hi' with hi'; injection hi' with hi'; exact hi'.symm
      subst hxx
      refine loadVar_plain hp1 w ?_
      rw [hb']
      simp only [addrOf, add0, World.cell?, hheap']
      simp [hm]
    · cases h
  · rename_i ks i hn
    obtain ⟨g, nn, hi⟩ := (hr w1 h1).fn hn
    have hgn : gN env i = nn := by simp [gN, hi]
    split at h
    · cases h
    · rename_i hsz
      have hsz' : sz = ks.length := by simpa using hsz
      subst hsz'
      split at h
      · rename_i hagg
        split at h
        · rename_i k hk
          split at h
          · rename_i hle
            simp only [Option.map_eq_some_iff, Prod.mk.injEq] at h
            obtain ⟨l, hl, rfl, rfl⟩ := h
            obtain ⟨cs, h2, h3, h4⟩ := roFields_spec (ρ := ρ) hi he _ _ _ hl
            have b1 := leE_spec (env := env) (fun c hc => hns c (by simp only [List.mem_append]; first | exact .inl hc | exact .inr hc))
            have b2 := ltE_spec (env := env) (fun c hc => hns c (by simp only [List.mem_append]; first | exact .inl hc | exact .inr hc))
            simp only [Ex.den, he.now, hgn] at b1 b2
            refine ⟨_, .inr (agg_den h2), fun w hw => ?_⟩
            obtain ⟨_, a', g', nn', ha', hi', hc'⟩ := (hr w hw).ro hn (by rw [hgn]; omega)
            rw [hi] at hi'; injection hi' with hi'; injection hi' with e1 e2; subst e1; subst e2
            refine loadVar_agg hagg hk h3 w fun j v hj => ?_
            have hjk : j < k := by rw [← h3]; exact (List.getElem?_eq_some_iff.1 hj).1
            obtain ⟨q, e1, e2⟩ := h4 j hjk
            rw [e2] at hj; injection hj with hj; subst hj
            rw [ha', addrOf, addr_add_add, Nat.add_assoc]
            exact hc' m.toNat (by omega) (off + j) q e1
          · cases h
        · cases h
      · split at h
        · rename_i hc
          simp only [Bool.and_eq_true, decide_eq_true_eq] at hc
          obtain ⟨hpl, hoff⟩ := hc
          split at h
          · rename_i v' hl
            simp only [Option.some.injEq, Prod.mk.injEq] at h
            obtain ⟨rfl, rfl⟩ := h
            obtain ⟨cs, h2, h3, h4⟩ := roFields_spec (ρ := ρ) hi he _ _ _ hl
            have b1 := leE_spec (env := env) (fun c hc => hns c (by simp only [List.mem_append]; first | exact .inl hc | exact .inr hc))
            have b2 := ltE_spec (env := env) (fun c hc => hns c (by simp only [List.mem_append]; first | exact .inl hc | exact .inr hc))
            simp only [Ex.den, he.now, hgn] at b1 b2
            obtain ⟨c, ds, rfl, h5, _⟩ := h2.uncons
            obtain ⟨q, e1, e2⟩ := h4 0 (by omega)
            simp only [List.getElem?_cons_zero, Option.some.injEq, Nat.add_zero] at e1 e2
            refine ⟨c, .inr h5, fun w hw => ?_⟩
            obtain ⟨_, a', g', nn', ha', hi', hc'⟩ := (hr w hw).ro hn (by rw [hgn]; omega)
            rw [hi] at hi'; injection hi' with hi'; injection hi' with e3 e4; subst e3; subst e4
            refine loadVar_plain hpl w ?_
            rw [ha', addrOf, e2]
            exact hc' m.toNat (by omega) off q e1
          · cases h
        · cases h
  · cases h

theorem loadS_sound {t : TypeId} {a : SV} {c0 : Value} {ns : List Bx} {v : SV} (h : loadS P hp t a = some (ns, v)) (ha : Rel env ρ a c0)
    (hr : ∀ w, W w → Reads env ρ hp w) (h1 : W w1) (hns : ∀ b ∈ ns, b.den env = true) :
    ∃ c ad, Rel env ρ v c ∧ c0 = .pointer (some ad) ∧ ∀ w, W w → (loadVar t ad).run P w = .ok c w := by
  unfold loadS at h
  split at h
  · rename_i n off
    have hc0 := den_ptr (ha.den (by simp))
    split at h
    · rename_i vs ty hn
      obtain ⟨hlt, b, cs, hb, hd, hheap⟩ := hr w1 h1 n _ hn
      rw [hb, addrOf, add0] at hc0
      have cell : ∀ w, W w → ∀ j, w.cell? ⟨b, j, none⟩ = cs[j]? := fun w hw j => by
        obtain ⟨_, b', cs', hb', hd', hheap'⟩ := hr w hw n _ hn
        rw [hb] at hb'; injection hb' with hb'; injection hb' with hb'; injection hb' with hb'; subst hb'
        have : cs' = cs := by rw [← hd.1 [] [], ← hd'.1 [] []]
        subst this
        simp [World.cell?, hheap']
      split at h
      · rename_i hagg
        split at h
        · rename_i k hk
          split at h
          · rename_i hle
            simp only [Option.some.injEq, Prod.mk.injEq] at h
            obtain ⟨rfl, rfl⟩ := h
            refine ⟨_, _, .inr (agg_den ((hd.drop off).take k)), hc0, fun w hw => loadVar_agg hagg hk ?_ w fun j u hj => ?_⟩
            · have := hd.len; simp; omega
            · have hadd : (⟨b, off, none⟩ : Addr).add j = ⟨b, off + j, none⟩ := by rw [← add0, addr_add_add, add0]
              rw [hadd, cell w hw]
              rw [List.getElem?_take] at hj
              split at hj
              · rwa [List.getElem?_drop] at hj
              · cases hj
          · cases h
        · cases h
      · split at h
        · rename_i hpl
          simp only [Option.map_eq_some_iff, Prod.mk.injEq] at h
          obtain ⟨u, hu, rfl, rfl⟩ := h
          obtain ⟨c, hc, hdc⟩ := hd.get hu
          exact ⟨c, _, .inr hdc, hc0, fun w hw => loadVar_plain hpl w (by rw [cell w hw, hc])⟩
        · cases h
    · rename_i k ty i hn
      split at h
      · rename_i hagg
        split at h
        · rename_i m hm
          simp only [Option.some.injEq, Prod.mk.injEq] at h
          obtain ⟨rfl, rfl⟩ := h
          obtain ⟨xs, hi⟩ := (hr w1 h1).lst hn
          have hl : ∀ zs, gL (env ++ zs) i = xs := fun zs => by
            have hlt : i < env.length := (List.getElem?_eq_some_iff.1 hi).1
            simp [gL, List.getElem?_append_left hlt, hi]
          have hlen : xs.length = m + 1 := by
            have key : (mkCmp .eql (.len i) (.lit (m + 1 : Nat))).den env = true := by
              split at hns
              · rename_i hc; rw [hc]; rfl
              · exact hns _ (by simp)
            rw [den_mkCmp] at key
            have hl0 := hl []
            simp only [List.append_nil] at hl0
            simp [cmpDen, Ex.den, hl0] at key
            omega
          obtain ⟨hlt, b, xs2, hb, hi2, hheap⟩ := (hr w1 h1).row hn (by have := hl []; simp only [List.append_nil] at this; rw [this]; omega)
          rw [hb, addrOf, add0] at hc0
          refine ⟨.agg (xs.map (Value.int k)).toArray, _, .inr ⟨fun zs ys => by simp [SV.den, hl zs], trivial⟩, hc0, fun w hw => loadVar_agg hagg hm (by simpa using hlen) w fun j u hj => ?_⟩
          obtain ⟨_, b', xs', hb', hi', hheap'⟩ := (hr w hw).row hn (by have := hl []; simp only [List.append_nil] at this; rw [this]; omega)
          rw [hb] at hb'; injection hb' with hb'; injection hb' with hb'; injection hb' with hb'; subst hb'
          rw [hi] at hi'; injection hi' with hi'; injection hi' with hi'; subst hi'
          rw [add0]
          simp [World.cell?, hheap', hj]
        · cases h
      · obtain ⟨c, h2, h3⟩ := loadX_sound h (m := (off : Int)) (fun xs => rfl) hr h1 hns
        refine ⟨c, _, h2, hc0, fun w hw => ?_⟩
        have := h3 w hw
        simpa using this
    · rename_i ks i hn
      split at h
      · cases h
      · rename_i hz
        obtain ⟨c, h2, h3⟩ := loadX_sound h (m := ((off / ks.length : Nat) : Int)) (fun xs => rfl) hr h1 hns
        refine ⟨c, _, h2, hc0, fun w hw => ?_⟩
        have := h3 w hw
        simp only [Int.toNat_natCast] at this
        rwa [Nat.div_add_mod'] at this
    · cases h
  · rename_i n e sz off
    have hd := ha.den (by simp)
    have hc0 := hd.now.symm
    simp only [SV.den] at hc0
    obtain ⟨c, h2, h3⟩ := loadX_sound h (EStab.denE hd.2) hr h1 hns
    exact ⟨c, _, h2, hc0, h3⟩
  · cases h
end
end Go.Proofs.Ytjohihkbampbgaa
