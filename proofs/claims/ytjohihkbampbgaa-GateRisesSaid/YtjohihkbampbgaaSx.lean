/- The symbolic executor: the machine's own blocks of loops over functions. No program is named here. -/
import Derived.Test.YtjohihkbampbgaaSo
namespace Go.Proofs.Ytjohihkbampbgaa
set_option linter.unusedVariables false
set_option linter.unusedSimpArgs false
set_option linter.unusedSectionVars false
open Go

section
variable {U : Type} [Nil U] {objs : List (ObjT U)} {w0 : World} {F : Nat → Prop} {env : List (EV U)} {ρ : List Value} {w : World} {st : St} {a : Act} {as : List Act}

theorem putObj_other {b : Nat} {o : Obj} (x : Nat) (h : x ≠ b) : (w.putObj b o).heap[x]? = w.heap[x]? := World.putObj_heap_other h
/-- a new block of the machine's own -/
theorem Conc.allocSys (h : Conc objs w0 F env ρ st a as w) {i : Nat} {L : Loop} (j : RecSt) (hi : env[i]? = some (.r L)) :
    Conc objs w0 F env (ρ ++ [.pointer (some ⟨w.heap.size, 0, none⟩)]) { st with hp := st.hp ++ [HE.sys i j] } a as (w.alloc (objOf L j)) := by
  obtain ⟨S, hS⟩ := h.sat.own
  refine ⟨h.ne, h.pc, by simpa using h.tm.ext [] [_], by simpa using h.stk.ext [] [_], by simp [h.sat.len], ⟨_, hS.push h.sat.len h.sat.frame _ (.sys i j) _ ⟨_, L, rfl, hi, heap_alloc_new w _, rfl⟩⟩, h.sat.frame.alloc _⟩
/-- where a block of the machine's own lies -/
theorem Conc.sysAt (h : Conc objs w0 F env ρ st a as w) {n i : Nat} {j : RecSt} (hn : st.hp[n]? = some (.sys i j)) : ∃ b L, hv ρ n = .pointer (some ⟨b, 0, none⟩) ∧ env[i]? = some (.r L) ∧ w.heap[b]? = some (objOf L j) := by
  obtain ⟨S, hS⟩ := h.sat.own
  obtain ⟨b, L, e1, e2, e3, e4⟩ := hS.holds n _ hn
  exact ⟨b, L, e1, e2, e3⟩
/-- it turns -/
theorem Conc.setSys (h : Conc objs w0 F env ρ st a as w) {n i b : Nat} {j j' : RecSt} {L : Loop} (hn : st.hp[n]? = some (.sys i j)) (hb : hv ρ n = .pointer (some ⟨b, 0, none⟩)) (hL : env[i]? = some (.r L)) :
    Conc objs w0 F env ρ { st with hp := st.hp.set n (.sys i j') } a as (w.putObj b (objOf L j')) := by
  obtain ⟨S, hS⟩ := h.sat.own
  obtain ⟨b', L', e1, e2, e3, e4⟩ := hS.holds n _ hn
  rw [hb] at e1; injection e1 with e1; injection e1 with e1; injection e1 with e1; subst e1
  have hlt : b < w.heap.size := (Array.getElem?_eq_some_iff.1 e3).1
  have hblk : ∀ x, ¬ S n x → (w.putObj b (objOf L j')).heap[x]? = w.heap[x]? := fun x hx => putObj_other x (fun e => hx (e ▸ e4))
  exact ⟨h.ne, h.pc, h.tm, h.stk, by simp [h.sat.len], ⟨S, hS.update n _ (List.getElem?_eq_some_iff.1 hn).1 hblk World.putObj_size ⟨b, L, hb, hL, World.putObj_heap_same hlt, e4⟩⟩, Fr.update hS h.sat.frame n hblk World.putObj_size rfl rfl rfl⟩
/-- it is done with -/
theorem Sat.freeSys {hp : List HE} (h : Sat objs w0 F env ρ hp w) {n i b : Nat} {j : RecSt} (o : Obj) (hn : hp[n]? = some (.sys i j)) (hb : hv ρ n = .pointer (some ⟨b, 0, none⟩)) :
    Sat objs w0 F env ρ (hp.set n .gone) (w.putObj b o) := by
  obtain ⟨S, hS⟩ := h.own
  obtain ⟨b', L', e1, e2, e3, e4⟩ := hS.holds n _ hn
  rw [hb] at e1; injection e1 with e1; injection e1 with e1; injection e1 with e1; subst e1
  have hblk : ∀ x, ¬ S n x → (w.putObj b o).heap[x]? = w.heap[x]? := fun x hx => putObj_other x (fun e => hx (e ▸ e4))
  exact ⟨by simp [h.len], ⟨S, hS.update n _ (List.getElem?_eq_some_iff.1 hn).1 hblk World.putObj_size trivial⟩, Fr.update hS h.frame n hblk World.putObj_size rfl rfl rfl⟩
theorem Conc.freeSys (h : Conc objs w0 F env ρ st a as w) {n i b : Nat} {j : RecSt} (o : Obj) (hn : st.hp[n]? = some (.sys i j)) (hb : hv ρ n = .pointer (some ⟨b, 0, none⟩)) :
    Conc objs w0 F env ρ { st with hp := st.hp.set n .gone } a as (w.putObj b o) := ⟨h.ne, h.pc, h.tm, h.stk, h.sat.freeSys o hn hb⟩
theorem hv_pre {ρ ρ' : List Value} (h : ρ <+: ρ') {n : Nat} (hn : n < ρ.length) : hv ρ' n = hv ρ n := by obtain ⟨r, rfl⟩ := h; exact hv_app hn r
theorem get_pre {env env' : List (EV U)} (h : env <+: env') {i : Nat} {x : EV U} (hi : env[i]? = some x) : env'[i]? = some x := by obtain ⟨r, rfl⟩ := h; exact get_ext hi r

/-- yield's arguments lie in the slots -/
theorem setTms_rel : ∀ (ps : List Tmp) (args : List SV) (vals : List Value) (tm : Tm) (tmps : Array Value), TmRel env ρ tm tmps → args.length = vals.length → (∀ i, Rel env ρ (args.getD i .junk) (vals.getD i undef)) →
    TmRel env ρ (setTms tm ps args) ((ps.zip vals).foldl (fun tmps (t, a) => tmps.setIfInBounds t a) tmps)
  | [], _, _, _, _, h, _, _ => by simpa [setTms] using h
  | t :: ps, [], [], _, _, h, _, _ => by simpa [setTms] using h
  | t :: ps, [], _ :: _, _, _, _, h, _ => by simp at h
  | t :: ps, _ :: _, [], _, _, _, h, _ => by simp at h
  | t :: ps, v :: args, c :: vals, tm, tmps, h, hl, hr => by
    simp only [setTms, List.zip_cons_cons, List.foldl_cons]
    exact setTms_rel ps args vals _ _ (h.set t (by simpa using hr 0)) (by simpa using hl) (fun i => by simpa using hr (i + 1))
theorem setTms_mks : ∀ (ps : List Tmp) (args : List SV) (tm : Tm), (setTms tm ps args).mks = tm.mks
  | [], _, _ => by simp [setTms]
  | _ :: _, [], _ => by simp [setTms]
  | t :: ps, v :: args, tm => by simp only [setTms]; rw [setTms_mks ps args, Tm.set_mks]
end
end Go.Proofs.Ytjohihkbampbgaa
