/- Jobs, once: what holds of all cores together, and what a step does to it. No program is named here. -/
import Derived.Test.YtdabdbbgaekmdaaGreatB5O
namespace Go.Proofs.YtdabdbbgaekmdaaGreat
set_option linter.unusedSectionVars false
set_option linter.unnecessarySimpa false
set_option linter.unusedVariables false
set_option linter.unusedSimpArgs false
open Go Go.RowKit
theorem wdSetS {M M' : MemSt} {x v : Int} (h : M'.W = M.W.set x.toNat v) (h0 : 0 ≤ x) (h1 : x < M.W.length) {z : Int} (hz : 0 ≤ z) : M'.word z = if z = x then v else M.word z := by
  unfold MemSt.word
  rw [h, List.getD_eq_getElem?_getD, List.getD_eq_getElem?_getD, List.getElem?_set]
  split
  · have : z = x := by omega
    rw [if_pos this, if_pos (by omega)]; rfl
  · rw [if_neg (by omega)]
theorem wdSameS {M M' : MemSt} (h : M'.W = M.W) (z : Int) : M'.word z = M.word z := by unfold MemSt.word; rw [h]
theorem isInS {M : MemSt} {x : Int} (h0 : 0 ≤ x) (h1 : x < M.W.length) : M.is x = true := by simp [MemSt.is]; omega
theorem setWdS {M : MemSt} {x : Int} (h0 : 0 ≤ x) (h1 : x < M.W.length) : M.W.set x.toNat (M.word x) = M.W := by
  unfold MemSt.word
  apply List.ext_getElem (by simp)
  intro i h2 h3
  rw [List.getElem_set]
  split
  · rename_i e; subst e
    rw [List.getD_eq_getElem?_getD, List.getElem?_eq_getElem h3]; rfl
  · rfl
theorem ldS {M : MemSt} {x : Int} (h0 : 0 ≤ x) (h1 : x < M.W.length) : (M.load x).W = M.W ∧ (M.load x).n = M.word x := by
  unfold MemSt.load MemSt.acc
  rw [if_pos (isInS h0 h1)]
  exact ⟨setWdS h0 h1, rfl⟩
theorem stoS {M : MemSt} {x v : Int} (h0 : 0 ≤ x) (h1 : x < M.W.length) : (M.store x v).W = M.W.set x.toNat v := by
  unfold MemSt.store MemSt.acc
  rw [if_pos (isInS h0 h1)]
theorem casS {M : MemSt} {x w v : Int} (h0 : 0 ≤ x) (h1 : x < M.W.length) :
    (M.word x = w ∧ (M.cas x w v).h = true ∧ (M.cas x w v).W = M.W.set x.toNat v) ∨ (M.word x ≠ w ∧ (M.cas x w v).h = false ∧ (M.cas x w v).W = M.W) := by
  unfold MemSt.cas
  by_cases h : M.word x = w
  · rw [if_pos h]
    unfold MemSt.acc
    rw [if_pos (isInS h0 h1)]
    exact .inl ⟨h, rfl, rfl⟩
  · rw [if_neg h]
    unfold MemSt.acc
    rw [if_pos (isInS h0 h1)]
    exact .inr ⟨h, rfl, setWdS h0 h1⟩
def Lnk (M : MemSt) (n : Int) : Int → List Int → Prop
  | i, [] => i = -1
  | i, x :: xs => i = x ∧ 0 ≤ x ∧ x < n ∧ Lnk M n (idxW n (M.word (1 + x))) xs
theorem lnk_range {M : MemSt} {n : Int} : ∀ {C : List Int} {i : Int}, Lnk M n i C → ∀ x ∈ C, 0 ≤ x ∧ x < n
  | [], _, _, x, hx => by cases hx
  | y :: C, i, h, x, hx => by
    obtain ⟨rfl, h0, h1, h2⟩ := h
    rcases List.mem_cons.1 hx with rfl | hx
    · exact ⟨h0, h1⟩
    · exact lnk_range h2 x hx
theorem lnk_stay {M M' : MemSt} {n : Int} : ∀ {C : List Int} {i : Int}, Lnk M n i C → (∀ x ∈ C, M'.word (1 + x) = M.word (1 + x)) → Lnk M' n i C
  | [], _, h, _ => h
  | y :: C, i, h, hw => by
    obtain ⟨rfl, h0, h1, h2⟩ := h
    refine ⟨rfl, h0, h1, ?_⟩
    rw [hw i (List.mem_cons_self ..)]
    exact lnk_stay h2 fun x hx => hw x (List.mem_cons_of_mem _ hx)
theorem lnk_head {M : MemSt} {n i : Int} {C : List Int} (h : Lnk M n i C) (hi : 0 ≤ i) : ∃ C', C = i :: C' ∧ Lnk M n (idxW n (M.word (1 + i))) C' := by
  cases C with
  | nil => exact absurd h (by show ¬ i = -1; omega)
  | cons x C => obtain ⟨rfl, _, _, h⟩ := h; exact ⟨C, rfl, h⟩
def old (M : MemSt) (w : Int) : Prop := w / 65536 < M.word 0 / 65536
theorem topW_idx {n i w : Int} (hi : -1 ≤ i) (hin : i < n) (hn : 1 ≤ n) (hn2 : n ≤ 12) : idxW n (topW i w) = i := by
  unfold idxW topW
  have : (i + 1 + (w / 65536 + 1) % 281474976710656 * 65536) % 65536 = i + 1 := by omega
  rw [this]
  split <;> omega
theorem topW_tag {i w : Int} (hi : -1 ≤ i) (hin : i ≤ 12) (hw : 0 ≤ w) (hw2 : w / 65536 < 1000000) : topW i w / 65536 = w / 65536 + 1 := by
  unfold topW
  omega
theorem wdLoS {M : MemSt} (h : M.fine) (x : Int) : 0 ≤ M.word x := by
  unfold MemSt.word
  rw [List.getD_eq_getElem?_getD]
  cases e : M.W[x.toNat]? with
  | none => exact Int.le_refl 0
  | some w => exact (h.2 w (List.mem_of_getElem? e)).1
def jl (n : Int) : List Int := [1 + n, 1 + 2 * n, 0, 1, n]
/-- the word of a job's state -/
def stw (M : MemSt) (n i : Int) : Int := M.word (1 + n + i)
structure CoT where
  o : CoSt
  ch : Int
  id : Int
def ownO : CoSt → List Int
  | .take O => if O.line = 1 ∨ O.line = 2 then [O.i] else []
  | .give O => if O.line = 3 then [O.i] else []
  | _ => []
def CoT.own (a : CoT) : List Int := ownO a.o
/-- what an operation knows -/
def coOk (M : MemSt) (n : Int) : CoSt → Int → Int → Prop
  | .no, _, _ => True
  | .take O, ch, _ => O.k = 1 ∧ O.l = jl n ∧ ch = 0 ∧
      (O.line = 0 ∧ (O.pl = 1 ∨ O.pl = 2 ∧ 0 ≤ idxW n O.pw ∧ (O.pw = M.word 0 ∨ old M O.pw) ∨ O.pl = 3 ∧ 0 ≤ idxW n O.pw ∧ (O.pw = M.word 0 ∧ O.pj = idxW n (M.word (1 + idxW n O.pw)) ∨ old M O.pw))
      ∨ O.line = 1 ∧ 0 ≤ O.i ∧ O.i < n ∨ O.line = 2 ∧ 0 ≤ O.i ∧ O.i < n ∧ O.w = stw M n O.i)
  | .give O, ch, _ => O.k = 2 ∧ O.l = jl n ∧ (0 ≤ O.i ∧ O.i < n) ∧ (O.line = 1 ∧ ch = 0 ∨ O.line = 2 ∧ ch = 0 ∧ (O.w % 256 = 5 ∨ O.w % 256 = 2) ∨ O.line = 3 ∧ ch = 1 ∧ (O.pl = 1 ∨ O.pl = 2 ∧ (O.pw = M.word 0 ∨ old M O.pw) ∨ O.pl = 3 ∧ (O.pw = M.word 0 ∧ M.word (1 + O.i) = idxW n O.pw + 1 ∨ old M O.pw)))
  | .turn O, ch, id => O.k = 3 ∧ O.l = jl n ∧ (0 ≤ O.i ∧ O.i < n) ∧ ch = 0 ∧ mayB O.fr O.to = true ∧ O.co = id ∧ (O.line = 1 ∨ O.line = 2 ∧ O.w % 256 = O.fr ∧ (O.fr = 4 → O.w / 256 % 256 = O.co))
  | _, _, _ => False
structure JInv (M : MemSt) (n k : Int) (C : List Int) (T : List (Int × Int)) (a b c : CoT) : Prop where
  len : (M.W.length : Int) = 1 + 3 * n
  fine : M.fine
  tag : M.word 0 / 65536 ≤ k
  lnk : Lnk M n (idxW n (M.word 0)) C
  nd : (C ++ (a.own ++ (b.own ++ c.own))).Nodup
  fr : ∀ i, 0 ≤ i → i < n → (stw M n i % 256 = 1 ↔ i ∈ C ++ (a.own ++ (b.own ++ c.own)))
  gen : ∀ i, 0 ≤ i → i < n → stw M n i / 4294967296 ≤ k + 1
  tk : ∀ p ∈ T, 0 ≤ p.1 ∧ p.1 < n ∧ p.2 ≤ stw M n p.1 / 4294967296
  tl : (T.length : Int) ≤ k
  ha : coOk M n a.o a.ch a.id ∧ oOk a.o
  hb : coOk M n b.o b.ch b.id ∧ oOk b.o
  hc : coOk M n c.o c.ch c.id ∧ oOk c.o
theorem JInv.swap1 {M : MemSt} {n k : Int} {C : List Int} {T : List (Int × Int)} {a b c : CoT} (h : JInv M n k C T a b c) : JInv M n k C T b a c := by
  have hp : (C ++ (a.own ++ (b.own ++ c.own))).Perm (C ++ (b.own ++ (a.own ++ c.own))) := by
    refine List.Perm.append_left _ ?_
    rw [← List.append_assoc, ← List.append_assoc]
    exact List.perm_append_comm.append_right _
  exact ⟨h.len, h.fine, h.tag, h.lnk, hp.nodup_iff.1 h.nd, fun i h0 h1 => (h.fr i h0 h1).trans hp.mem_iff, h.gen, h.tk, h.tl, h.hb, h.ha, h.hc⟩
theorem JInv.swap2 {M : MemSt} {n k : Int} {C : List Int} {T : List (Int × Int)} {a b c : CoT} (h : JInv M n k C T a b c) : JInv M n k C T c b a := by
  have hp : (C ++ (a.own ++ (b.own ++ c.own))).Perm (C ++ (c.own ++ (b.own ++ a.own))) := by
    refine List.Perm.append_left _ ?_
    exact (List.perm_append_comm.append_left _).trans ((List.perm_append_comm (l₁ := a.own)).trans (by rw [List.append_assoc]))
  exact ⟨h.len, h.fine, h.tag, h.lnk, hp.nodup_iff.1 h.nd, fun i h0 h1 => (h.fr i h0 h1).trans hp.mem_iff, h.gen, h.tk, h.tl, h.hc, h.hb, h.ha⟩
theorem coOk_same {M M' : MemSt} {n ch id : Int} {o : CoSt} (h : M'.W = M.W) (ho : coOk M n o ch id) : coOk M' n o ch id := by
  cases o <;> simpa only [coOk, old, stw, wdSameS h] using ho
/-- a link is turned, of a job that the other one does not own, and that is not on the stack -/
theorem coOk_link {M M' : MemSt} {n ch id x : Int} {o : CoSt} {C : List Int} (hn : 1 ≤ n) (hx : 0 ≤ x) (hx' : x < n) (h : ∀ z, 0 ≤ z → z ≠ 1 + x → M'.word z = M.word z) (hC : Lnk M n (idxW n (M.word 0)) C) (hc : x ∉ C) (hy : x ∉ ownO o) (ho : coOk M n o ch id) : coOk M' n o ch id := by
  have ht : M'.word 0 = M.word 0 := h 0 (by omega) (by omega)
  cases o with
  | no => trivial
  | take O =>
    obtain ⟨h1, h2, h3, h4⟩ := ho
    refine ⟨h1, h2, h3, ?_⟩
    simp only [old, ht] at h4 ⊢
    rcases h4 with ⟨l0, h4⟩ | h4 | ⟨l2, i0, i1, h4⟩
    · refine .inl ⟨l0, ?_⟩
      rcases h4 with h4 | h4 | ⟨p3, i0, h4⟩
      · exact .inl h4
      · exact .inr (.inl h4)
      · refine .inr (.inr ⟨p3, i0, ?_⟩)
        rcases h4 with ⟨e1, e2⟩ | h4
        · refine .inl ⟨e1, ?_⟩
          obtain ⟨C', hC', _⟩ := lnk_head hC (by rw [← e1]; exact i0)
          rw [e2, h _ (by omega) (fun e => hc (by rw [hC', ← e1]; exact List.mem_cons.2 (.inl (by omega))))]
        · exact .inr h4
    · exact .inr (.inl h4)
    · refine .inr (.inr ⟨l2, i0, i1, ?_⟩)
      rw [h4, stw, stw, h _ (by omega) (by omega)]
  | give O =>
    obtain ⟨h1, h2, h3, h4⟩ := ho
    refine ⟨h1, h2, h3, ?_⟩
    simp only [old, ht] at h4 ⊢
    rcases h4 with h4 | h4 | ⟨l3, c1, h4⟩
    · exact .inl h4
    · exact .inr (.inl h4)
    · refine .inr (.inr ⟨l3, c1, ?_⟩)
      rcases h4 with h4 | h4 | ⟨p3, h4⟩
      · exact .inl h4
      · exact .inr (.inl h4)
      · refine .inr (.inr ⟨p3, ?_⟩)
        rcases h4 with ⟨e1, e2⟩ | h4
        · refine .inl ⟨e1, ?_⟩
          have : x ≠ O.i := fun e => hy (by simp only [ownO, l3, if_true]; simp [e])
          rw [h _ (by omega) (by omega)]; exact e2
        · exact .inr h4
  | turn O => exact ho
  | key K => exact ho
  | kof K => exact ho
/-- the top is turned -/
theorem coOk_top {M M' : MemSt} {n ch id : Int} {o : CoSt} (hn : 0 ≤ n) (h : ∀ z, 1 ≤ z → M'.word z = M.word z) (ht : M'.word 0 / 65536 = M.word 0 / 65536 + 1) (ho : coOk M n o ch id) : coOk M' n o ch id := by
  have hold : ∀ w, w = M.word 0 ∨ old M w → old M' w := by
    intro w hw
    unfold old at *
    rcases hw with rfl | hw <;> omega
  cases o with
  | no => trivial
  | take O =>
    obtain ⟨h1, h2, h3, h4⟩ := ho
    refine ⟨h1, h2, h3, ?_⟩
    rcases h4 with ⟨l0, h4⟩ | h4 | ⟨l2, i0, i1, h4⟩
    · refine .inl ⟨l0, ?_⟩
      rcases h4 with h4 | ⟨p2, i0, h4⟩ | ⟨p3, i0, h4⟩
      · exact .inl h4
      · exact .inr (.inl ⟨p2, i0, .inr (hold _ h4)⟩)
      · exact .inr (.inr ⟨p3, i0, .inr (hold _ (h4.imp (·.1) fun e => e))⟩)
    · exact .inr (.inl h4)
    · refine .inr (.inr ⟨l2, i0, i1, ?_⟩)
      rw [h4, stw, stw, h _ (by omega)]
  | give O =>
    obtain ⟨h1, h2, h3, h4⟩ := ho
    refine ⟨h1, h2, h3, ?_⟩
    rcases h4 with h4 | h4 | ⟨l3, c1, h4⟩
    · exact .inl h4
    · exact .inr (.inl h4)
    · refine .inr (.inr ⟨l3, c1, ?_⟩)
      rcases h4 with h4 | ⟨p2, h4⟩ | ⟨p3, h4⟩
      · exact .inl h4
      · exact .inr (.inl ⟨p2, .inr (hold _ h4)⟩)
      · exact .inr (.inr ⟨p3, .inr (hold _ (h4.imp (·.1) fun e => e))⟩)
  | turn O => exact ho
  | key K => exact ho
  | kof K => exact ho
/-- a state is turned, of a job that the other one does not own -/
theorem coOk_state {M M' : MemSt} {n ch id x : Int} {o : CoSt} (hn : 1 ≤ n) (hx : 0 ≤ x) (hx' : x < n) (h : ∀ z, 0 ≤ z → z ≠ 1 + n + x → M'.word z = M.word z) (hy : x ∉ ownO o) (ho : coOk M n o ch id) : coOk M' n o ch id := by
  have ht : M'.word 0 = M.word 0 := h 0 (by omega) (by omega)
  have hlo : ∀ w, idxW n w < n := fun w => idxW_hi hn w
  cases o with
  | no => trivial
  | take O =>
    obtain ⟨h1, h2, h3, h4⟩ := ho
    refine ⟨h1, h2, h3, ?_⟩
    simp only [old, ht] at h4 ⊢
    rcases h4 with ⟨l0, h4⟩ | h4 | ⟨l2, i0, i1, h4⟩
    · refine .inl ⟨l0, ?_⟩
      rcases h4 with h4 | h4 | ⟨p3, i0, h4⟩
      · exact .inl h4
      · exact .inr (.inl h4)
      · refine .inr (.inr ⟨p3, i0, ?_⟩)
        rcases h4 with ⟨e1, e2⟩ | h4
        · have := hlo O.pw
          exact .inl ⟨e1, by rw [e2, h _ (by omega) (by omega)]⟩
        · exact .inr h4
    · exact .inr (.inl h4)
    · refine .inr (.inr ⟨l2, i0, i1, ?_⟩)
      have : x ≠ O.i := fun e => hy (by simp only [ownO, l2]; simp [e])
      rw [h4, stw, stw, h _ (by omega) (by omega)]
  | give O =>
    obtain ⟨h1, h2, h3, h4⟩ := ho
    refine ⟨h1, h2, h3, ?_⟩
    simp only [old, ht] at h4 ⊢
    rcases h4 with h4 | h4 | ⟨l3, c1, h4⟩
    · exact .inl h4
    · exact .inr (.inl h4)
    · refine .inr (.inr ⟨l3, c1, ?_⟩)
      rcases h4 with h4 | h4 | ⟨p3, h4⟩
      · exact .inl h4
      · exact .inr (.inl h4)
      · refine .inr (.inr ⟨p3, ?_⟩)
        rcases h4 with ⟨e1, e2⟩ | h4
        · exact .inl ⟨e1, by rw [h _ (by omega) (by omega)]; exact e2⟩
        · exact .inr h4
  | turn O => exact ho
  | key K => exact ho
  | kof K => exact ho
theorem JInv.go {M M' : MemSt} {n k : Int} {C C' : List Int} {T T' : List (Int × Int)} {a a' b c : CoT} (h : JInv M n k C T a b c)
    (hl : M'.W.length = M.W.length) (hf : M'.fine) (tag : M'.word 0 / 65536 ≤ k + 1) (lnk : Lnk M' n (idxW n (M'.word 0)) C') (nd : (C' ++ (a'.own ++ (b.own ++ c.own))).Nodup)
    (fr : ∀ i, 0 ≤ i → i < n → (stw M' n i % 256 = 1 ↔ i ∈ C' ++ (a'.own ++ (b.own ++ c.own)))) (gen : ∀ i, 0 ≤ i → i < n → stw M' n i / 4294967296 ≤ k + 2)
    (tk : ∀ p ∈ T', 0 ≤ p.1 ∧ p.1 < n ∧ p.2 ≤ stw M' n p.1 / 4294967296) (tl : (T'.length : Int) ≤ k + 1) (ha : coOk M' n a'.o a'.ch a'.id ∧ oOk a'.o)
    (hb : coOk M n b.o b.ch b.id → coOk M' n b.o b.ch b.id) (hc : coOk M n c.o c.ch c.id → coOk M' n c.o c.ch c.id) : JInv M' n (k + 1) C' T' a' b c :=
  ⟨by rw [hl]; exact h.len, hf, tag, lnk, nd, fr, fun i h0 h1 => by have := gen i h0 h1; omega, tk, tl, ha, ⟨hb h.hb.1, h.hb.2⟩, ⟨hc h.hc.1, h.hc.2⟩⟩
theorem JInv.same {M M' : MemSt} {n k : Int} {C : List Int} {T : List (Int × Int)} {a a' b c : CoT} (h : JInv M n k C T a b c) (e : M'.W = M.W) (hf : M'.fine) (ho : a'.own = a.own) (ha : coOk M' n a'.o a'.ch a'.id ∧ oOk a'.o) : JInv M' n (k + 1) C T a' b c := by
  have hs : ∀ i, stw M' n i = stw M n i := fun i => wdSameS e _
  refine h.go (by rw [e]) hf (by rw [wdSameS e]; have := h.tag; omega) (by rw [wdSameS e]; exact lnk_stay h.lnk fun x _ => wdSameS e _) (by rw [ho]; exact h.nd) (fun i h0 h1 => by rw [hs, ho]; exact h.fr i h0 h1) (fun i h0 h1 => by rw [hs]; have := h.gen i h0 h1; omega) (fun p hp => by rw [hs]; exact h.tk p hp) (by have := h.tl; omega) ha (coOk_same e) (coOk_same e)
theorem own_nd {M : MemSt} {n k : Int} {C : List Int} {T : List (Int × Int)} {a b c : CoT} (h : JInv M n k C T a b c) {x : Int} (hx : x ∈ a.own) : x ∉ C ∧ x ∉ b.own ∧ x ∉ c.own := by
  have hnd := h.nd
  rw [List.nodup_append] at hnd
  obtain ⟨_, h2, h3⟩ := hnd
  rw [List.nodup_append] at h2
  refine ⟨fun hc => h3 x hc x (List.mem_append_left _ hx) rfl, fun hb => h2.2.2 x hx x (List.mem_append_left _ hb) rfl, fun hc => h2.2.2 x hx x (List.mem_append_right _ hc) rfl⟩
theorem stw_same {M M' : MemSt} {n x : Int} (hn : 1 ≤ n) (hx' : x < n) (h : ∀ z, 0 ≤ z → z ≠ 1 + x → M'.word z = M.word z) {i : Int} (h0 : 0 ≤ i) : stw M' n i = stw M n i := h _ (by omega) (by omega)
/-- the link of a job of its own is turned -/
theorem JInv.link {M M' : MemSt} {n k x v : Int} {C : List Int} {T : List (Int × Int)} {a a' b c : CoT} (hn : 1 ≤ n) (h : JInv M n k C T a b c) (hx : 0 ≤ x) (hx' : x < n) (hxa : x ∈ a.own) (e : M'.W = M.W.set (1 + x).toNat v) (hf : M'.fine) (ho : a'.own = a.own) (ha : coOk M' n a'.o a'.ch a'.id ∧ oOk a'.o) : JInv M' n (k + 1) C T a' b c := by
  have hlen := h.len
  have hw : ∀ z, 0 ≤ z → z ≠ 1 + x → M'.word z = M.word z := fun z hz hne => (wdSetS e (by omega) (by omega) hz).trans (if_neg hne)
  obtain ⟨n1, n2, n3⟩ := own_nd h hxa
  have hs : ∀ i, 0 ≤ i → stw M' n i = stw M n i := fun i h0 => stw_same hn hx' hw h0
  have h0' : M'.word 0 = M.word 0 := hw 0 (by omega) (by omega)
  refine h.go (by rw [e, List.length_set]) hf (by rw [h0']; have := h.tag; omega) (by rw [h0']; exact lnk_stay h.lnk fun y hy => hw _ (by have := lnk_range h.lnk y hy; omega) (fun e => n1 (by rw [show x = y by omega]; exact hy))) (by rw [ho]; exact h.nd) (fun i h0 h1 => by rw [hs i h0, ho]; exact h.fr i h0 h1) (fun i h0 h1 => by rw [hs i h0]; have := h.gen i h0 h1; omega) (fun p hp => by have := h.tk p hp; rw [hs _ this.1]; exact this) (by have := h.tl; omega) ha (coOk_link hn hx hx' hw h.lnk n1 n2) (coOk_link hn hx hx' hw h.lnk n1 n3)
/-- the top is turned: a job goes from the stack to the core -/
theorem JInv.pops {M M' : MemSt} {n k x v : Int} {C' : List Int} {T : List (Int × Int)} {a a' b c : CoT} (hn : 1 ≤ n) (hn5 : n ≤ 5) (h : JInv M n k (x :: C') T a b c) (e : M'.W = M.W.set (0 : Int).toNat v) (hv : idxW n v = idxW n (M.word (1 + x))) (ht : v / 65536 = M.word 0 / 65536 + 1) (hf : M'.fine) (h1 : a.own = []) (h2 : a'.own = [x]) (ha : coOk M' n a'.o a'.ch a'.id ∧ oOk a'.o) : JInv M' n (k + 1) C' T a' b c := by
  have hlen := h.len
  have hw : ∀ z, 1 ≤ z → M'.word z = M.word z := fun z hz => (wdSetS e (by omega) (by omega) (by omega)).trans (if_neg (by omega))
  have h0' : M'.word 0 = v := (wdSetS e (by omega) (by omega) (by omega)).trans (if_pos rfl)
  have hs : ∀ i, 0 ≤ i → stw M' n i = stw M n i := fun i h0 => hw _ (by omega)
  have hl := h.lnk
  obtain ⟨e1, x0, x1, hl'⟩ := hl
  have hp : (C' ++ (a'.own ++ (b.own ++ c.own))).Perm (x :: C' ++ (a.own ++ (b.own ++ c.own))) := by
    rw [h1, h2, List.nil_append]
    exact List.perm_middle
  have htop : M'.word 0 / 65536 = M.word 0 / 65536 + 1 := by rw [h0']; exact ht
  exact h.go (by rw [e, List.length_set]) hf (by have := h.tag; omega) (by rw [h0', hv]; exact lnk_stay hl' fun y hy => hw _ (by have := lnk_range hl' y hy; omega)) (hp.nodup_iff.2 h.nd) (fun i h0 h1 => by rw [hs i h0]; exact (h.fr i h0 h1).trans hp.symm.mem_iff) (fun i h0 h1 => by rw [hs i h0]; have := h.gen i h0 h1; omega) (fun p hp => by have := h.tk p hp; rw [hs _ this.1]; exact this) (by have := h.tl; omega) ha (coOk_top (by omega) hw htop) (coOk_top (by omega) hw htop)
/-- the top is turned: a job goes from the core to the stack -/
theorem JInv.pushes {M M' : MemSt} {n k x v : Int} {C : List Int} {T : List (Int × Int)} {a a' b c : CoT} (hn : 1 ≤ n) (hn5 : n ≤ 5) (h : JInv M n k C T a b c) (hx : 0 ≤ x) (hx' : x < n) (e : M'.W = M.W.set (0 : Int).toNat v) (hv : idxW n v = x) (hl : idxW n (M.word (1 + x)) = idxW n (M.word 0)) (ht : v / 65536 = M.word 0 / 65536 + 1) (hf : M'.fine) (h1 : a.own = [x]) (h2 : a'.own = []) (ha : coOk M' n a'.o a'.ch a'.id ∧ oOk a'.o) : JInv M' n (k + 1) (x :: C) T a' b c := by
  have hlen := h.len
  have hw : ∀ z, 1 ≤ z → M'.word z = M.word z := fun z hz => (wdSetS e (by omega) (by omega) (by omega)).trans (if_neg (by omega))
  have h0' : M'.word 0 = v := (wdSetS e (by omega) (by omega) (by omega)).trans (if_pos rfl)
  have hs : ∀ i, 0 ≤ i → stw M' n i = stw M n i := fun i h0 => hw _ (by omega)
  have hp : (x :: C ++ (a'.own ++ (b.own ++ c.own))).Perm (C ++ (a.own ++ (b.own ++ c.own))) := by
    rw [h1, h2, List.nil_append]
    exact List.perm_middle.symm
  have htop : M'.word 0 / 65536 = M.word 0 / 65536 + 1 := by rw [h0']; exact ht
  exact h.go (by rw [e, List.length_set]) hf (by have := h.tag; omega) (by rw [h0', hv]; exact ⟨rfl, hx, hx', by rw [hw _ (by omega), hl]; exact lnk_stay h.lnk fun y hy => hw _ (by have := lnk_range h.lnk y hy; omega)⟩) (hp.nodup_iff.2 h.nd) (fun i h0 h1 => by rw [hs i h0]; exact (h.fr i h0 h1).trans hp.symm.mem_iff) (fun i h0 h1 => by rw [hs i h0]; have := h.gen i h0 h1; omega) (fun p hp => by have := h.tk p hp; rw [hs _ this.1]; exact this) (by have := h.tl; omega) ha (coOk_top (by omega) hw htop) (coOk_top (by omega) hw htop)
/-- the state of a job is turned that no other core owns -/
theorem JInv.turns {M M' : MemSt} {n k x v : Int} {C : List Int} {T T' : List (Int × Int)} {a a' b c : CoT} (hn : 1 ≤ n) (h : JInv M n k C T a b c) (hx : 0 ≤ x) (hx' : x < n) (e : M'.W = M.W.set (1 + n + x).toNat v) (hf : M'.fine)
    (hxb : x ∉ b.own) (hxc : x ∉ c.own) (hxC : x ∉ C) (hv : v % 256 = 1 ↔ x ∈ a'.own) (ho : ∀ i, i ≠ x → (i ∈ a'.own ↔ i ∈ a.own)) (hnd : a'.own.Nodup) (hg : stw M n x / 4294967296 ≤ v / 4294967296) (hg2 : v / 4294967296 ≤ k + 2)
    (hT : T' = T ∨ T' = T ++ [(x, v / 4294967296)]) (ha : coOk M' n a'.o a'.ch a'.id ∧ oOk a'.o) : JInv M' n (k + 1) C T' a' b c := by
  have hlen := h.len
  have hw : ∀ z, 0 ≤ z → z ≠ 1 + n + x → M'.word z = M.word z := fun z hz hne => (wdSetS e (by omega) (by omega) hz).trans (if_neg hne)
  have hsx : stw M' n x = v := (wdSetS e (by omega) (by omega) (by omega)).trans (if_pos rfl)
  have hs : ∀ i, 0 ≤ i → i ≠ x → stw M' n i = stw M n i := fun i h0 hne => hw _ (by omega) (by omega)
  have h0' : M'.word 0 = M.word 0 := hw 0 (by omega) (by omega)
  have hnd0 := h.nd
  rw [List.nodup_append] at hnd0
  obtain ⟨d1, d2, d3⟩ := hnd0
  rw [List.nodup_append] at d2
  obtain ⟨d4, d5, d6⟩ := d2
  have hmem : ∀ i, i ≠ x → (i ∈ C ++ (a'.own ++ (b.own ++ c.own)) ↔ i ∈ C ++ (a.own ++ (b.own ++ c.own))) := fun i hne => by
    simp only [List.mem_append, ho i hne]
  refine h.go (by rw [e, List.length_set]) hf (by rw [h0']; have := h.tag; omega) (by rw [h0']; exact lnk_stay h.lnk fun y hy => hw _ (by have := lnk_range h.lnk y hy; omega) (by have := lnk_range h.lnk y hy; omega)) ?_ (fun i h0 h1 => ?_) (fun i h0 h1 => ?_) (fun p hp => ?_) ?_ ha (coOk_state hn hx hx' hw hxb) (coOk_state hn hx hx' hw hxc)
  · rw [List.nodup_append, List.nodup_append]
    refine ⟨d1, ⟨hnd, d5, fun i hi j hj hij => ?_⟩, fun i hi j hj hij => ?_⟩
    · subst hij
      by_cases hne : i = x
      · subst hne
        rcases List.mem_append.1 hj with h9 | h9
        · exact hxb h9
        · exact hxc h9
      · exact d6 i ((ho i hne).1 hi) i hj rfl
    · subst hij
      by_cases hne : i = x
      · subst hne; exact hxC hi
      · rcases List.mem_append.1 hj with h9 | h9
        · exact d3 i hi i (List.mem_append_left _ ((ho i hne).1 h9)) rfl
        · exact d3 i hi i (List.mem_append_right _ h9) rfl
  · by_cases hne : i = x
    · subst hne
      rw [hsx, hv]
      simp only [List.mem_append]
      exact ⟨fun h9 => .inr (.inl h9), fun h9 => by rcases h9 with h9 | h9 | h9 | h9; exact absurd h9 hxC; exact h9; exact absurd h9 hxb; exact absurd h9 hxc⟩
    · rw [hs i h0 hne, hmem i hne]; exact h.fr i h0 h1
  · by_cases hne : i = x
    · subst hne; rw [hsx]; exact hg2
    · rw [hs i h0 hne]; have := h.gen i h0 h1; omega
  · have hold : ∀ p ∈ T, 0 ≤ p.1 ∧ p.1 < n ∧ p.2 ≤ stw M' n p.1 / 4294967296 := fun p hp => by
      obtain ⟨t0, t1, t2⟩ := h.tk p hp
      refine ⟨t0, t1, ?_⟩
      by_cases hne : p.1 = x
      · rw [hne, hsx]; rw [hne] at t2; omega
      · rw [hs _ t0 hne]; exact t2
    rcases hT with rfl | rfl
    · exact hold p hp
    · rcases List.mem_append.1 hp with hp | hp
      · exact hold p hp
      · rw [List.mem_singleton.1 hp]
        exact ⟨hx, hx', by rw [hsx]; exact Int.le_refl _⟩
  · have := h.tl
    rcases hT with rfl | rfl
    · omega
    · rw [List.length_append]; simp only [List.length_cons, List.length_nil]; omega
def lineO : CoSt → Int
  | .take O => O.line
  | .give O => O.line
  | .turn O => O.line
  | _ => 9
def errO : CoSt → Int
  | .take O => O.err
  | .give O => O.err
  | .turn O => O.err
  | _ => 0
def isTk : CoSt → Bool
  | .take _ => true
  | _ => false
/-- what is left of an operation behind its step -/
def aft (o : CoSt) : CoSt := if lineO o = 9 then .no else o
/-- may a state turn so, from one word to another -/
def fineP (o : CoSt) (id v w : Int) : Prop :=
  match o with
  | .take _ => v % 256 = 1 ∧ w % 256 = 2 ∧ w / 256 % 256 = 0 ∧ w / 4294967296 = v / 4294967296 + 1
  | .give _ => (v % 256 = 5 ∨ v % 256 = 2) ∧ w % 256 = 1 ∧ w / 256 % 256 = 0 ∧ w / 4294967296 = v / 4294967296
  | _ => w / 4294967296 = v / 4294967296 ∧ (v % 256 = 2 ∧ w % 256 = 3 ∧ w / 256 % 256 = 0 ∨ v % 256 = 3 ∧ (w % 256 = 2 ∧ w / 256 % 256 = 0 ∨ w % 256 = 4 ∧ w / 256 % 256 = id) ∨ v % 256 = 4 ∧ v / 256 % 256 = id ∧ w / 256 % 256 = 0 ∧ (w % 256 = 5 ∨ w % 256 = 3))
inductive Outc (M M' : MemSt) (n : Int) (T : List (Int × Int)) (id : Int) (o o' : CoSt) (ch : Int) : Int → List (Int × Int) → Prop
  | quiet (hs : ∀ i, 0 ≤ i → i < n → stw M' n i = stw M n i) (h : lineO o' ≠ 9 ∨ lineO o' = 9 ∧ (errO o' = 0 ∧ ch = 1 ∨ ch = 0 ∧ errO o' = (if isTk o = true then 7 else 11))) : Outc M M' n T id o o' ch ch T
  | turn (x : Int) (hx : 0 ≤ x) (hx' : x < n) (hs : ∀ i, 0 ≤ i → i < n → i ≠ x → stw M' n i = stw M n i) (hf : fineP o id (stw M n x) (stw M' n x)) (h0 : ch = 0) (h : lineO o' ≠ 9 ∨ lineO o' = 9 ∧ errO o' = 0) (hT : isTk o = true → ∀ p ∈ T, p ≠ (x, stw M' n x / 4294967296)) : Outc M M' n T id o o' ch 1 (if isTk o = true then T ++ [(x, stw M' n x / 4294967296)] else T)
/-- how many steps are left at most, alone -/
def remJ (M : MemSt) (n : Int) : CoSt → Int
  | .take O => if O.line = 0 then (if O.pl = 1 then 5 else if O.pl = 2 then (if O.pw = M.word 0 then 4 else 7) else (if O.pw = M.word 0 then 3 else 6)) else if O.line = 1 then 2 else 1
  | .give O => if O.line = 1 then 5 else if O.line = 2 then (if O.w = stw M n O.i then 4 else 6) else if O.pl = 1 then 3 else if O.pl = 2 then (if O.pw = M.word 0 then 2 else 5) else (if O.pw = M.word 0 then 1 else 4)
  | .turn O => if O.line = 1 then 2 else (if O.w = stw M n O.i then 1 else 3)
  | _ => 0
structure StepR (M : MemSt) (n k : Int) (T : List (Int × Int)) (a b c : CoT) (M' : MemSt) (o' : CoSt) : Prop where
  ex : ∃ C' ch' T', JInv M' n (k + 1) C' T' ⟨aft o', ch', a.id⟩ b c ∧ Outc M M' n T a.id a.o o' a.ch ch' T'
  rem : remJ M' n (aft o') + 1 ≤ remJ M n a.o
theorem idx_put {n w : Int} (hn : 1 ≤ n) : idxW n (idxW n w + 1) = idxW n w := by
  have h1 := idxW_lo' n w
  have h2 := idxW_hi hn w
  generalize idxW n w = q at *
  unfold idxW
  split <;> omega
theorem lay_get {s c g : Int} (h : 0 ≤ s ∧ s < 256) (h1 : 0 ≤ c ∧ c < 64) (h2 : 0 ≤ g) : layW s c g % 256 = s ∧ layW s c g / 256 % 256 = c ∧ layW s c g / 4294967296 = g := by
  unfold layW
  omega
theorem xs_of {O : OpSt} {n : Int} (h : O.l = jl n) : O.x 0 = 1 + n ∧ O.x 2 = 0 ∧ O.x 3 = 1 ∧ O.x 4 = n := by
  unfold OpSt.x
  rw [h]
  exact ⟨rfl, rfl, rfl, rfl⟩
theorem ok_of {O : OpSt} (h : O.ok) (h9 : O.line ≠ 9) : -1 ≤ O.i ∧ O.i ≤ 65534 ∧ -1 ≤ O.pj ∧ O.pj ≤ 65534 ∧ isWd O.w ∧ 0 ≤ O.to ∧ O.to ≤ 5 ∧ 0 ≤ O.co ∧ O.co < 64 := h.resolve_left h9
theorem old_no {M : MemSt} {w : Int} (h : old M w) (e : M.word 0 = w) : False := by unfold old at h; rw [e] at h; omega
theorem StepR.of {M : MemSt} {n k : Int} {T : List (Int × Int)} {a b c : CoT} {M' : MemSt} {o' oa : CoSt} {C' : List Int} {ch' : Int} {T' : List (Int × Int)} (hA : aft o' = oa) (hJ : JInv M' n (k + 1) C' T' ⟨oa, ch', a.id⟩ b c) (hO : Outc M M' n T a.id a.o o' a.ch ch' T') (hr : remJ M' n oa + 1 ≤ remJ M n a.o) : StepR M n k T a b c M' o' :=
  ⟨⟨C', ch', T', by rw [hA]; exact hJ, hO⟩, by rw [hA]; exact hr⟩
theorem aft9 {o : CoSt} (h : lineO o = 9) : aft o = .no := if_pos h
theorem aftn {o : CoSt} (h : lineO o ≠ 9) : aft o = o := if_neg h
section
variable {M : MemSt} {n k : Int} {C : List Int} {T : List (Int × Int)} {O : OpSt} {ch id : Int} {b c : CoT}
theorem step_take (hn : 1 ≤ n) (hn5 : n ≤ 5) (h : JInv M n k C T ⟨.take O, ch, id⟩ b c) (hk0 : 0 ≤ k) (hk : k < 1000000) : StepR M n k T ⟨.take O, ch, id⟩ b c (O.step M).2 (.take (O.step M).1) := by
  have hf' : (O.step M).2.fine := op_fine h.ha.2 h.fine
  have hok' : (O.step M).1.ok := op_ok h.ha.2 h.fine
  have hokO : O.ok := h.ha.2
  obtain ⟨hk1, hl, hch, hline⟩ := h.ha.1
  replace hch : ch = 0 := hch
  obtain ⟨x0, x2, x3, x4⟩ := xs_of hl
  have hlen := h.len
  have hi0 := idxW_lo' n O.pw
  have hi1 := idxW_hi hn O.pw
  rcases hline with ⟨l0, hp⟩ | ⟨l1, i0, i1⟩ | ⟨l2, i0, i1, hw⟩
  · have hown : CoT.own ⟨.take O, ch, id⟩ = [] := by show ownO (.take O) = []; simp only [ownO, l0]; rfl
    rcases hp with p1 | ⟨p2, j0, hpw⟩ | ⟨p3, j0, hpw⟩
    · obtain ⟨e1, e2⟩ := ldS (M := M) (x := 0) (by omega) (by omega)
      have est : O.step M = (if idxW n (M.word 0) < 0 then OpSt.ended 0 7 else O.pop 2 (M.word 0) 0, M.load 0) := by
        unfold OpSt.step; rw [if_pos l0, if_pos p1, x2, x4, e2]
      rw [est] at hf' hok' ⊢
      have hq : ∀ i, 0 ≤ i → i < n → stw (M.load 0) n i = stw M n i := fun i _ _ => wdSameS e1 _
      have hrem : remJ M n (.take O) = 5 := by simp only [remJ, l0, p1, if_true]
      by_cases hi : idxW n (M.word 0) < 0
      · simp only [hi, if_true] at hok' ⊢
        exact StepR.of (aft9 rfl) (h.same (a' := ⟨.no, ch, id⟩) e1 hf' (by rw [hown]; rfl) ⟨trivial, trivial⟩) (.quiet hq (.inr ⟨rfl, .inr ⟨hch, rfl⟩⟩)) (by rw [hrem]; show (0 : Int) + 1 ≤ 5; omega)
      · simp only [hi, if_false] at hok' ⊢
        exact StepR.of (aftn (by show (0 : Int) ≠ 9; omega)) (h.same (a' := ⟨.take (O.pop 2 (M.word 0) 0), ch, id⟩) e1 hf' (by rw [hown]; rfl) ⟨⟨rfl, hl, hch, .inl ⟨rfl, .inr (.inl ⟨rfl, by show 0 ≤ idxW n (M.word 0); omega, .inl (wdSameS e1 0).symm⟩)⟩⟩, hok'⟩) (.quiet hq (.inl (by show (0 : Int) ≠ 9; omega))) (by
          rw [hrem]
          show (if (M.word 0) = (M.load 0).word 0 then (4 : Int) else 7) + 1 ≤ 5
          rw [if_pos (wdSameS e1 0).symm]; omega)
    · have hc1 : IntKind.i64.wrap (1 + idxW n O.pw) = 1 + idxW n O.pw := wrap_small (by omega) (by omega)
      obtain ⟨e1, e2⟩ := ldS (M := M) (x := 1 + idxW n O.pw) (by omega) (by omega)
      have est : O.step M = (O.pop 3 O.pw (idxW n (M.word (1 + idxW n O.pw))), M.load (1 + idxW n O.pw)) := by
        unfold OpSt.step; rw [if_pos l0, if_neg (by omega), if_pos p2, x3, x4, hc1, e2]
      rw [est] at hf' hok' ⊢
      have e3 : remJ M n (.take O) = (if O.pw = M.word 0 then 4 else 7) := by simp only [remJ, l0, p2]; rfl
      exact StepR.of (aftn (by show (0 : Int) ≠ 9; omega)) (h.same (a' := ⟨.take (O.pop 3 O.pw (idxW n (M.word (1 + idxW n O.pw)))), ch, id⟩) e1 hf' (by rw [hown]; rfl) ⟨⟨rfl, hl, hch, .inl ⟨rfl, .inr (.inr ⟨rfl, j0, by
        rcases hpw with e | e
        · exact .inl ⟨by rw [wdSameS e1]; exact e, by rw [wdSameS e1]; rfl⟩
        · exact .inr (by unfold old at *; rw [wdSameS e1]; exact e)⟩)⟩⟩, hok'⟩) (.quiet (fun i _ _ => wdSameS e1 _) (.inl (by show (0 : Int) ≠ 9; omega))) (by
          show (if O.pw = (M.load (1 + idxW n O.pw)).word 0 then (3 : Int) else 6) + 1 ≤ remJ M n (.take O)
          rw [e3, wdSameS e1]
          split <;> omega)
    · have hokv := ok_of hokO (by omega)
      have e3 : remJ M n (.take O) = (if O.pw = M.word 0 then 3 else 6) := by simp only [remJ, l0, p3]; rfl
      rcases casS (M := M) (x := 0) (w := O.pw) (v := topW O.pj O.pw) (by omega) (by omega) with ⟨e0, e1, e2⟩ | ⟨e0, e1, e2⟩
      · have est : O.step M = (O.at1 (idxW n O.pw), M.cas 0 O.pw (topW O.pj O.pw)) := by
          unfold OpSt.step; rw [if_pos l0, if_neg (by omega), if_neg (by omega), x2, x4, if_pos e1]
        rw [est] at hf' hok' ⊢
        rcases hpw with ⟨hw0, hpj⟩ | hold
        · obtain ⟨C', hC, hC'⟩ := lnk_head h.lnk (by rw [← hw0]; exact j0)
          rw [← hw0] at hC hC'
          subst hC
          have hjlt : O.pj < n := by rw [hpj]; exact idxW_hi hn _
          have htag := h.tag
          have hwl := wdLoS h.fine 0
          exact StepR.of (aftn (by show (1 : Int) ≠ 9; omega)) (h.pops (a' := ⟨.take (O.at1 (idxW n O.pw)), ch, id⟩) (v := topW O.pj O.pw) hn hn5 e2 (by rw [topW_idx (by omega) hjlt hn (by omega), hpj]) (by rw [← hw0] at hwl htag ⊢; exact topW_tag (by omega) (by omega) hwl (by omega)) hf' hown rfl ⟨⟨hk1, hl, hch, .inr (.inl ⟨rfl, j0, hi1⟩)⟩, hok'⟩) (.quiet (fun i h0 h1 => (wdSetS e2 (by omega) (by omega) (by omega)).trans (if_neg (by omega))) (.inl (by show (1 : Int) ≠ 9; omega))) (by
            show (2 : Int) + 1 ≤ remJ M n (.take O)
            rw [e3]
            split <;> omega)
        · exact (old_no hold e0).elim
      · have est : O.step M = (O.pop 1 0 0, M.cas 0 O.pw (topW O.pj O.pw)) := by
          unfold OpSt.step; rw [if_pos l0, if_neg (by omega), if_neg (by omega), x2, x4, if_neg (by rw [e1]; decide)]
        rw [est] at hf' hok' ⊢
        exact StepR.of (aftn (by show (0 : Int) ≠ 9; omega)) (h.same (a' := ⟨.take (O.pop 1 0 0), ch, id⟩) e2 hf' (by rw [hown]; rfl) ⟨⟨rfl, hl, hch, .inl ⟨rfl, .inl rfl⟩⟩, hok'⟩) (.quiet (fun i _ _ => wdSameS e2 _) (.inl (by show (0 : Int) ≠ 9; omega))) (by
          show (5 : Int) + 1 ≤ remJ M n (.take O)
          rw [e3, if_neg (fun e => e0 e.symm)]
          omega)
  · have hown : CoT.own ⟨.take O, ch, id⟩ = [O.i] := by show ownO (.take O) = [O.i]; simp only [ownO, l1]; rfl
    have hcell : O.cell = 1 + n + O.i := by unfold OpSt.cell; rw [x0]; exact wrap_small (by omega) (by omega)
    obtain ⟨e1, e2⟩ := ldS (M := M) (x := 1 + n + O.i) (by omega) (by omega)
    have est : O.step M = (O.at2 (M.word (1 + n + O.i)), M.load (1 + n + O.i)) := by
      unfold OpSt.step; rw [if_neg (by omega), if_pos l1, hcell, e2, if_pos (.inl hk1)]
    rw [est] at hf' hok' ⊢
    have e3 : remJ M n (.take O) = 2 := by simp only [remJ, l1]; rfl
    exact StepR.of (aftn (by show (2 : Int) ≠ 9; omega)) (h.same (a' := ⟨.take (O.at2 (M.word (1 + n + O.i))), ch, id⟩) e1 hf' (by rw [hown]; rfl) ⟨⟨hk1, hl, hch, .inr (.inr ⟨rfl, i0, i1, (wdSameS e1 _).symm⟩)⟩, hok'⟩) (.quiet (fun i _ _ => wdSameS e1 _) (.inl (by show (2 : Int) ≠ 9; omega))) (by
      show (1 : Int) + 1 ≤ remJ M n (.take O)
      rw [e3]; omega)
  · have hown : CoT.own ⟨.take O, ch, id⟩ = [O.i] := by show ownO (.take O) = [O.i]; simp only [ownO, l2]; rfl
    have hcell : O.cell = 1 + n + O.i := by unfold OpSt.cell; rw [x0]; exact wrap_small (by omega) (by omega)
    have hg := h.gen O.i i0 i1
    have hw0 : 0 ≤ stw M n O.i := wdLoS h.fine _
    obtain ⟨n1, n2, n3⟩ := own_nd h (show O.i ∈ CoT.own ⟨.take O, ch, id⟩ by rw [hown]; exact List.mem_singleton.2 rfl)
    have hfree : stw M n O.i % 256 = 1 := (h.fr O.i i0 i1).2 (List.mem_append_right _ (List.mem_append_left _ (by rw [hown]; exact List.mem_singleton.2 rfl)))
    have hnext : O.next = layW 2 0 (stw M n O.i / 4294967296 + 1) := by
      unfold OpSt.next; rw [if_pos hk1, hw, Int.emod_eq_of_lt (by omega) (by omega)]
    obtain ⟨v1, v2, v3⟩ := lay_get (s := 2) (c := 0) (g := stw M n O.i / 4294967296 + 1) (by omega) (by omega) (by omega)
    rcases casS (M := M) (x := 1 + n + O.i) (w := O.w) (v := O.next) (by omega) (by omega) with ⟨e0, e1, e2⟩ | ⟨e0, e1, e2⟩
    · have est : O.step M = (OpSt.ended O.i 0, M.cas (1 + n + O.i) O.w O.next) := by
        unfold OpSt.step; rw [if_neg (by omega), if_neg (by omega), if_pos l2, hcell, if_pos e1, OpSt.swapped, if_pos hk1]
      rw [est] at hf' hok' ⊢
      have e2' := e2
      rw [hnext] at e2'
      have hsx : stw (M.cas (1 + n + O.i) O.w O.next) n O.i = layW 2 0 (stw M n O.i / 4294967296 + 1) := by
        rw [← hnext]; exact (wdSetS e2 (by omega) (by omega) (by omega)).trans (if_pos rfl)
      have hT : ∀ p ∈ T, p ≠ (O.i, stw (M.cas (1 + n + O.i) O.w O.next) n O.i / 4294967296) := fun p hp e => by
        have h9 := h.tk p hp
        rw [e, hsx, v3] at h9
        have h10 := h9.2.2
        simp only at h10
        omega
      have ho := Outc.turn (M := M) (M' := M.cas (1 + n + O.i) O.w O.next) (n := n) (T := T) (id := id) (o := .take O) (o' := .take (OpSt.ended O.i 0)) (ch := ch) O.i i0 i1
        (fun i h0 h1 hne => (wdSetS e2 (by omega) (by omega) (by omega)).trans (if_neg (by omega))) (by rw [hsx]; exact ⟨hfree, v1, v2, v3⟩) hch (.inr ⟨rfl, rfl⟩) (fun _ => hT)
      refine StepR.of (aft9 rfl) (C' := C) (h.turns (v := O.next) (T' := T ++ [(O.i, stw (M.cas (1 + n + O.i) O.w O.next) n O.i / 4294967296)]) (a' := ⟨.no, 1, id⟩) hn i0 i1 e2 hf' n2 n3 n1 ?_ (fun i hne => ?_) List.nodup_nil (by rw [hnext, v3]; omega) (by rw [hnext, v3]; omega) (.inr (by rw [hsx, hnext])) ⟨trivial, trivial⟩) ho ?_
      · rw [hnext, v1]
        exact ⟨fun e => absurd e (by omega), fun e => by cases e⟩
      · rw [hown]
        exact ⟨fun e => by (cases e), fun e => absurd (List.mem_singleton.1 e) hne⟩
      · show (0 : Int) + 1 ≤ remJ M n (.take O)
        have e3 : remJ M n (.take O) = 1 := by simp only [remJ, l2]; rfl
        rw [e3]; omega
    · exact absurd hw.symm e0
theorem step_give (hn : 1 ≤ n) (hn5 : n ≤ 5) (h : JInv M n k C T ⟨.give O, ch, id⟩ b c) (hk0 : 0 ≤ k) (hk : k < 1000000) : StepR M n k T ⟨.give O, ch, id⟩ b c (O.step M).2 (.give (O.step M).1) := by
  have hf' : (O.step M).2.fine := op_fine h.ha.2 h.fine
  have hok' : (O.step M).1.ok := op_ok h.ha.2 h.fine
  have hokO : O.ok := h.ha.2
  obtain ⟨hk1, hl, ⟨i0, i1⟩, hline⟩ := h.ha.1
  obtain ⟨x0, x2, x3, x4⟩ := xs_of hl
  have hlen := h.len
  have hi0 := idxW_lo' n O.pw
  have hi1 := idxW_hi hn O.pw
  have hcell : O.cell = 1 + n + O.i := by unfold OpSt.cell; rw [x0]; exact wrap_small (by omega) (by omega)
  rcases hline with ⟨l1, hch⟩ | ⟨l2, hch, hw⟩ | ⟨l3, hch, hp⟩
  · replace hch : ch = 0 := hch
    have hown : CoT.own ⟨.give O, ch, id⟩ = [] := by show ownO (.give O) = []; simp only [ownO, l1]; rfl
    obtain ⟨e1, e2⟩ := ldS (M := M) (x := 1 + n + O.i) (by omega) (by omega)
    have est : O.step M = (if O.goes (M.word (1 + n + O.i)) then O.at2 (M.word (1 + n + O.i)) else OpSt.ended 0 11, M.load (1 + n + O.i)) := by
      unfold OpSt.step; rw [if_neg (by omega), if_pos l1, hcell, e2]
    rw [est] at hf' hok' ⊢
    have e3 : remJ M n (.give O) = 5 := by simp only [remJ, l1]; rfl
    by_cases hg : O.goes (M.word (1 + n + O.i))
    · simp only [hg, if_true] at hok' ⊢
      have hst : M.word (1 + n + O.i) % 256 = 5 ∨ M.word (1 + n + O.i) % 256 = 2 := by
        rcases hg with e | ⟨_, e⟩ | ⟨e, _⟩
        · omega
        · exact e
        · omega
      exact StepR.of (aftn (by show (2 : Int) ≠ 9; omega)) (h.same (a' := ⟨.give (O.at2 (M.word (1 + n + O.i))), ch, id⟩) e1 hf' (by rw [hown]; rfl) ⟨⟨hk1, hl, ⟨i0, i1⟩, .inr (.inl ⟨rfl, hch, hst⟩)⟩, hok'⟩) (.quiet (fun i _ _ => wdSameS e1 _) (.inl (by show (2 : Int) ≠ 9; omega))) (by
        show (if M.word (1 + n + O.i) = stw (M.load (1 + n + O.i)) n O.i then (4 : Int) else 6) + 1 ≤ remJ M n (.give O)
        rw [e3, if_pos (show M.word (1 + n + O.i) = stw (M.load (1 + n + O.i)) n O.i from (wdSameS e1 _).symm)]; omega)
    · simp only [hg, if_false] at hok' ⊢
      exact StepR.of (aft9 rfl) (h.same (a' := ⟨.no, ch, id⟩) e1 hf' (by rw [hown]; rfl) ⟨trivial, trivial⟩) (.quiet (fun i _ _ => wdSameS e1 _) (.inr ⟨rfl, .inr ⟨hch, rfl⟩⟩)) (by rw [e3]; show (0 : Int) + 1 ≤ 5; omega)
  · replace hch : ch = 0 := hch
    have hown : CoT.own ⟨.give O, ch, id⟩ = [] := by show ownO (.give O) = []; simp only [ownO, l2]; rfl
    have hw0 : 0 ≤ stw M n O.i := wdLoS h.fine _
    have hg := h.gen O.i i0 i1
    have e3 : remJ M n (.give O) = (if O.w = stw M n O.i then 4 else 6) := by simp only [remJ, l2]; rfl
    have hnext : O.next = layW 1 0 (O.w / 4294967296) := by
      unfold OpSt.next; rw [if_neg (by omega), if_pos hk1]
    rcases casS (M := M) (x := 1 + n + O.i) (w := O.w) (v := O.next) (by omega) (by omega) with ⟨e0, e1, e2⟩ | ⟨e0, e1, e2⟩
    · have hwe : O.w = stw M n O.i := e0.symm
      obtain ⟨v1, v2, v3⟩ := lay_get (s := 1) (c := 0) (g := stw M n O.i / 4294967296) (by omega) (by omega) (by omega)
      have est : O.step M = (O.push 1 0, M.cas (1 + n + O.i) O.w O.next) := by
        unfold OpSt.step; rw [if_neg (by omega), if_neg (by omega), if_pos l2, hcell, if_pos e1, OpSt.swapped, if_neg (by omega), if_pos hk1]
      rw [est] at hf' hok' ⊢
      rw [hwe] at hnext hw
      have hsx : stw (M.cas (1 + n + O.i) O.w O.next) n O.i = layW 1 0 (stw M n O.i / 4294967296) := by
        rw [← hnext]; exact (wdSetS e2 (by omega) (by omega) (by omega)).trans (if_pos rfl)
      have hnf : ¬ O.i ∈ C ++ (CoT.own ⟨.give O, ch, id⟩ ++ (b.own ++ c.own)) := fun hm => by
        have := (h.fr O.i i0 i1).2 hm
        omega
      simp only [List.mem_append, not_or] at hnf
      have ho := Outc.turn (M := M) (M' := M.cas (1 + n + O.i) O.w O.next) (n := n) (T := T) (id := id) (o := .give O) (o' := .give (O.push 1 0)) (ch := ch) O.i i0 i1
        (fun i h0 h1 hne => (wdSetS e2 (by omega) (by omega) (by omega)).trans (if_neg (by omega))) (by rw [hsx]; exact ⟨hw, v1, v2, v3⟩) hch (.inl (by show (3 : Int) ≠ 9; omega)) (fun e => by cases e)
      refine StepR.of (aftn (by show (3 : Int) ≠ 9; omega)) (C' := C) (h.turns (v := O.next) (T' := T) (a' := ⟨.give (O.push 1 0), 1, id⟩) hn i0 i1 e2 hf' hnf.2.2.1 hnf.2.2.2 hnf.1 ?_ (fun i hne => ?_) (by show ([O.i] : List Int).Nodup; simp) (by rw [hnext, v3]; omega) (by rw [hnext, v3]; omega) (.inl rfl) ⟨⟨rfl, hl, ⟨i0, i1⟩, .inr (.inr ⟨rfl, rfl, .inl rfl⟩)⟩, hok'⟩) ho ?_
      · rw [hnext, v1]
        exact ⟨fun _ => List.mem_singleton.2 rfl, fun _ => rfl⟩
      · rw [hown]
        exact ⟨fun e => absurd (List.mem_singleton.1 e) hne, fun e => by (cases e)⟩
      · show (3 : Int) + 1 ≤ remJ M n (.give O)
        rw [e3, if_pos hwe]; omega
    · have est : O.step M = (O.at1 O.i, M.cas (1 + n + O.i) O.w O.next) := by
        unfold OpSt.step; rw [if_neg (by omega), if_neg (by omega), if_pos l2, hcell, if_neg (by rw [e1]; decide)]
      rw [est] at hf' hok' ⊢
      exact StepR.of (aftn (by show (1 : Int) ≠ 9; omega)) (h.same (a' := ⟨.give (O.at1 O.i), ch, id⟩) e2 hf' (by rw [hown]; rfl) ⟨⟨hk1, hl, ⟨i0, i1⟩, .inl ⟨rfl, hch⟩⟩, hok'⟩) (.quiet (fun i _ _ => wdSameS e2 _) (.inl (by show (1 : Int) ≠ 9; omega))) (by
        show (5 : Int) + 1 ≤ remJ M n (.give O)
        rw [e3, if_neg (fun e => e0 e.symm)]; omega)
  · replace hch : ch = 1 := hch
    have hown : CoT.own ⟨.give O, ch, id⟩ = [O.i] := by show ownO (.give O) = [O.i]; simp only [ownO, l3]; rfl
    rcases hp with p1 | ⟨p2, hpw⟩ | ⟨p3, hpw⟩
    · obtain ⟨e1, e2⟩ := ldS (M := M) (x := 0) (by omega) (by omega)
      have est : O.step M = (O.push 2 (M.word 0), M.load 0) := by
        unfold OpSt.step; rw [if_neg (by omega), if_neg (by omega), if_neg (by omega), if_pos l3, if_pos p1, x2, e2]
      rw [est] at hf' hok' ⊢
      have e3 : remJ M n (.give O) = 3 := by simp only [remJ, l3, p1]; rfl
      exact StepR.of (aftn (by show (3 : Int) ≠ 9; omega)) (h.same (a' := ⟨.give (O.push 2 (M.word 0)), ch, id⟩) e1 hf' (by rw [hown]; rfl) ⟨⟨rfl, hl, ⟨i0, i1⟩, .inr (.inr ⟨rfl, hch, .inr (.inl ⟨rfl, .inl (wdSameS e1 0).symm⟩)⟩)⟩, hok'⟩) (.quiet (fun i _ _ => wdSameS e1 _) (.inl (by show (3 : Int) ≠ 9; omega))) (by
        show (if M.word 0 = (M.load 0).word 0 then (2 : Int) else 5) + 1 ≤ remJ M n (.give O)
        rw [e3, if_pos (wdSameS e1 0).symm]; omega)
    · have hc1 : IntKind.i64.wrap (1 + O.i) = 1 + O.i := wrap_small (by omega) (by omega)
      have e2 := stoS (M := M) (x := 1 + O.i) (v := idxW n O.pw + 1) (by omega) (by omega)
      have est : O.step M = (O.push 3 O.pw, M.store (1 + O.i) (idxW n O.pw + 1)) := by
        unfold OpSt.step; rw [if_neg (by omega), if_neg (by omega), if_neg (by omega), if_pos l3, if_neg (by omega), if_pos p2, x3, x4, hc1]
      rw [est] at hf' hok' ⊢
      have e3 : remJ M n (.give O) = (if O.pw = M.word 0 then 2 else 5) := by simp only [remJ, l3, p2]; rfl
      have h0' : (M.store (1 + O.i) (idxW n O.pw + 1)).word 0 = M.word 0 := (wdSetS e2 (by omega) (by omega) (by omega)).trans (if_neg (by omega))
      exact StepR.of (aftn (by show (3 : Int) ≠ 9; omega)) (h.link (a' := ⟨.give (O.push 3 O.pw), ch, id⟩) hn i0 i1 (by rw [hown]; exact List.mem_singleton.2 rfl) e2 hf' (by rw [hown]; rfl) ⟨⟨rfl, hl, ⟨i0, i1⟩, .inr (.inr ⟨rfl, hch, .inr (.inr ⟨rfl, by
        rcases hpw with e | e
        · exact .inl ⟨by rw [h0']; exact e, (wdSetS e2 (by omega) (by omega) (by show 0 ≤ 1 + O.i; omega)).trans (if_pos rfl)⟩
        · exact .inr (by unfold old at *; rw [h0']; exact e)⟩)⟩)⟩, hok'⟩) (.quiet (fun i h0 h1 => (wdSetS e2 (by omega) (by omega) (by omega)).trans (if_neg (by omega))) (.inl (by show (3 : Int) ≠ 9; omega))) (by
        show (if O.pw = (M.store (1 + O.i) (idxW n O.pw + 1)).word 0 then (1 : Int) else 4) + 1 ≤ remJ M n (.give O)
        rw [e3, h0']
        split <;> omega)
    · have e3 : remJ M n (.give O) = (if O.pw = M.word 0 then 1 else 4) := by simp only [remJ, l3, p3]; rfl
      rcases casS (M := M) (x := 0) (w := O.pw) (v := topW O.i O.pw) (by omega) (by omega) with ⟨e0, e1, e2⟩ | ⟨e0, e1, e2⟩
      · have est : O.step M = (OpSt.ended O.i 0, M.cas 0 O.pw (topW O.i O.pw)) := by
          unfold OpSt.step; rw [if_neg (by omega), if_neg (by omega), if_neg (by omega), if_pos l3, if_neg (by omega), if_neg (by omega), x2, if_pos e1]
        rw [est] at hf' hok' ⊢
        rcases hpw with ⟨hw0, hlk⟩ | hold
        · have htag := h.tag
          have hwl := wdLoS h.fine 0
          exact StepR.of (aft9 rfl) (h.pushes (a' := ⟨.no, ch, id⟩) (v := topW O.i O.pw) hn hn5 i0 i1 e2 (topW_idx (by omega) i1 hn (by omega)) (by rw [hlk, idx_put hn, hw0]) (by rw [← hw0] at hwl htag ⊢; exact topW_tag (by omega) (by omega) hwl (by omega)) hf' hown rfl ⟨trivial, trivial⟩) (.quiet (fun i h0 h1 => (wdSetS e2 (by omega) (by omega) (by omega)).trans (if_neg (by omega))) (.inr ⟨rfl, .inl ⟨rfl, hch⟩⟩)) (by
            show (0 : Int) + 1 ≤ remJ M n (.give O)
            rw [e3]
            split <;> omega)
        · exact (old_no hold e0).elim
      · have est : O.step M = (O.push 1 0, M.cas 0 O.pw (topW O.i O.pw)) := by
          unfold OpSt.step; rw [if_neg (by omega), if_neg (by omega), if_neg (by omega), if_pos l3, if_neg (by omega), if_neg (by omega), x2, if_neg (by rw [e1]; decide)]
        rw [est] at hf' hok' ⊢
        exact StepR.of (aftn (by show (3 : Int) ≠ 9; omega)) (h.same (a' := ⟨.give (O.push 1 0), ch, id⟩) e2 hf' (by rw [hown]; rfl) ⟨⟨rfl, hl, ⟨i0, i1⟩, .inr (.inr ⟨rfl, hch, .inl rfl⟩)⟩, hok'⟩) (.quiet (fun i _ _ => wdSameS e2 _) (.inl (by show (3 : Int) ≠ 9; omega))) (by
          show (3 : Int) + 1 ≤ remJ M n (.give O)
          rw [e3, if_neg (fun e => e0 e.symm)]; omega)
theorem step_turn (hn : 1 ≤ n) (hn5 : n ≤ 5) (h : JInv M n k C T ⟨.turn O, ch, id⟩ b c) (hk0 : 0 ≤ k) (hk : k < 1000000) : StepR M n k T ⟨.turn O, ch, id⟩ b c (O.step M).2 (.turn (O.step M).1) := by
  have hf' : (O.step M).2.fine := op_fine h.ha.2 h.fine
  have hok' : (O.step M).1.ok := op_ok h.ha.2 h.fine
  have hokO : O.ok := h.ha.2
  obtain ⟨hk1, hl, ⟨i0, i1⟩, hch, hmay, hco, hline⟩ := h.ha.1
  replace hch : ch = 0 := hch
  replace hco : O.co = id := hco
  obtain ⟨x0, x2, x3, x4⟩ := xs_of hl
  have hlen := h.len
  have hcell : O.cell = 1 + n + O.i := by unfold OpSt.cell; rw [x0]; exact wrap_small (by omega) (by omega)
  have hown : CoT.own ⟨.turn O, ch, id⟩ = [] := rfl
  rcases hline with l1 | ⟨l2, hw, hw4⟩
  · obtain ⟨e1, e2⟩ := ldS (M := M) (x := 1 + n + O.i) (by omega) (by omega)
    have est : O.step M = (if O.goes (M.word (1 + n + O.i)) then O.at2 (M.word (1 + n + O.i)) else OpSt.ended 0 11, M.load (1 + n + O.i)) := by
      unfold OpSt.step; rw [if_neg (by omega), if_pos l1, hcell, e2]
    rw [est] at hf' hok' ⊢
    have e3 : remJ M n (.turn O) = 2 := by simp only [remJ, l1]; rfl
    by_cases hg : O.goes (M.word (1 + n + O.i))
    · simp only [hg, if_true] at hok' ⊢
      have hst : M.word (1 + n + O.i) % 256 = O.fr ∧ (M.word (1 + n + O.i) % 256 = 4 → M.word (1 + n + O.i) / 256 % 256 = O.co) := by
        rcases hg with e | ⟨e, _⟩ | ⟨_, e⟩
        · omega
        · omega
        · exact e
      exact StepR.of (aftn (by show (2 : Int) ≠ 9; omega)) (h.same (a' := ⟨.turn (O.at2 (M.word (1 + n + O.i))), ch, id⟩) e1 hf' rfl ⟨⟨hk1, hl, ⟨i0, i1⟩, hch, hmay, hco, .inr ⟨rfl, hst.1, fun e => hst.2 (by rw [hst.1]; exact e)⟩⟩, hok'⟩) (.quiet (fun i _ _ => wdSameS e1 _) (.inl (by show (2 : Int) ≠ 9; omega))) (by
        show (if M.word (1 + n + O.i) = stw (M.load (1 + n + O.i)) n O.i then (1 : Int) else 3) + 1 ≤ remJ M n (.turn O)
        rw [e3, if_pos (show M.word (1 + n + O.i) = stw (M.load (1 + n + O.i)) n O.i from (wdSameS e1 _).symm)]; omega)
    · simp only [hg, if_false] at hok' ⊢
      exact StepR.of (aft9 rfl) (h.same (a' := ⟨.no, ch, id⟩) e1 hf' rfl ⟨trivial, trivial⟩) (.quiet (fun i _ _ => wdSameS e1 _) (.inr ⟨rfl, .inr ⟨hch, rfl⟩⟩)) (by rw [e3]; show (0 : Int) + 1 ≤ 2; omega)
  · have hw0 : 0 ≤ stw M n O.i := wdLoS h.fine _
    have hg := h.gen O.i i0 i1
    have hr := may_rng hmay
    have hmay' := of_decide_eq_true hmay
    obtain ⟨_, _, _, _, _, _, _, c0, c1⟩ := ok_of hokO (by omega)
    have e3 : remJ M n (.turn O) = (if O.w = stw M n O.i then 1 else 3) := by simp only [remJ, l2]; rfl
    have hnext : O.next = layW O.to (if O.to = 4 then O.co else 0) (O.w / 4294967296) := by
      unfold OpSt.next; rw [if_neg (by omega), if_neg (by omega)]
    rcases casS (M := M) (x := 1 + n + O.i) (w := O.w) (v := O.next) (by omega) (by omega) with ⟨e0, e1, e2⟩ | ⟨e0, e1, e2⟩
    · have hwe : O.w = stw M n O.i := e0.symm
      have hcr : 0 ≤ (if O.to = 4 then O.co else 0) ∧ (if O.to = 4 then O.co else 0) < 64 := by split <;> omega
      obtain ⟨v1, v2, v3⟩ := lay_get (s := O.to) (c := (if O.to = 4 then O.co else 0)) (g := stw M n O.i / 4294967296) (by omega) hcr (by omega)
      have est : O.step M = (OpSt.ended O.i 0, M.cas (1 + n + O.i) O.w O.next) := by
        unfold OpSt.step; rw [if_neg (by omega), if_neg (by omega), if_pos l2, hcell, if_pos e1, OpSt.swapped, if_neg (by omega), if_neg (by omega)]
      rw [est] at hf' hok' ⊢
      rw [hwe] at hnext hw hw4
      have hsx : stw (M.cas (1 + n + O.i) O.w O.next) n O.i = layW O.to (if O.to = 4 then O.co else 0) (stw M n O.i / 4294967296) := by
        rw [← hnext]; exact (wdSetS e2 (by omega) (by omega) (by omega)).trans (if_pos rfl)
      have hnf : ¬ O.i ∈ C ++ (CoT.own ⟨.turn O, ch, id⟩ ++ (b.own ++ c.own)) := fun hm => by
        have := (h.fr O.i i0 i1).2 hm
        omega
      simp only [List.mem_append, not_or] at hnf
      have hfine : fineP (.turn O) id (stw M n O.i) (stw (M.cas (1 + n + O.i) O.w O.next) n O.i) := by
        rw [hsx]
        refine ⟨v3, ?_⟩
        rw [v1, v2, hw]
        rcases hmay' with ⟨m1, m2⟩ | ⟨m1, m2 | m2⟩ | ⟨m1, m2⟩
        · exact .inl ⟨m1, m2, if_neg (by omega)⟩
        · exact .inr (.inl ⟨m1, .inl ⟨m2, if_neg (by omega)⟩⟩)
        · exact .inr (.inl ⟨m1, .inr ⟨m2, by rw [if_pos m2]; exact hco⟩⟩)
        · exact .inr (.inr ⟨m1, by rw [hw4 m1]; exact hco, if_neg (by omega), by omega⟩)
      have ho := Outc.turn (M := M) (M' := M.cas (1 + n + O.i) O.w O.next) (n := n) (T := T) (id := id) (o := .turn O) (o' := .turn (OpSt.ended O.i 0)) (ch := ch) O.i i0 i1
        (fun i h0 h1 hne => (wdSetS e2 (by omega) (by omega) (by omega)).trans (if_neg (by omega))) hfine hch (.inr ⟨rfl, rfl⟩) (fun e => by cases e)
      refine StepR.of (aft9 rfl) (C' := C) (h.turns (v := O.next) (T' := T) (a' := ⟨.no, 1, id⟩) hn i0 i1 e2 hf' hnf.2.2.1 hnf.2.2.2 hnf.1 ?_ (fun i hne => Iff.rfl) List.nodup_nil (by rw [hnext, v3]; omega) (by rw [hnext, v3]; omega) (.inl rfl) ⟨trivial, trivial⟩) ho ?_
      · rw [hnext, v1]
        exact ⟨fun e => absurd e (by omega), fun e => by (cases e)⟩
      · show (0 : Int) + 1 ≤ remJ M n (.turn O)
        rw [e3, if_pos hwe]; omega
    · have est : O.step M = (O.at1 O.i, M.cas (1 + n + O.i) O.w O.next) := by
        unfold OpSt.step; rw [if_neg (by omega), if_neg (by omega), if_pos l2, hcell, if_neg (by rw [e1]; decide)]
      rw [est] at hf' hok' ⊢
      exact StepR.of (aftn (by show (1 : Int) ≠ 9; omega)) (h.same (a' := ⟨.turn (O.at1 O.i), ch, id⟩) e2 hf' rfl ⟨⟨hk1, hl, ⟨i0, i1⟩, hch, hmay, hco, .inl rfl⟩, hok'⟩) (.quiet (fun i _ _ => wdSameS e2 _) (.inl (by show (1 : Int) ≠ 9; omega))) (by
        show (2 : Int) + 1 ≤ remJ M n (.turn O)
        rw [e3, if_neg (fun e => e0 e.symm)]; omega)
end
end Go.Proofs.YtdabdbbgaekmdaaGreat
namespace Go.Proofs.YtdabdbbgaekmdaaGreat
set_option linter.unusedSectionVars false
set_option linter.unnecessarySimpa false
set_option linter.unusedVariables false
set_option linter.unusedSimpArgs false
open Go Go.RowKit
section
variable {M : MemSt} {n k : Int} {C : List Int} {T : List (Int × Int)} {a b c : CoT}
theorem step_law (hn : 1 ≤ n) (hn5 : n ≤ 5) (h : JInv M n k C T a b c) (ha : a.o ≠ .no) (hk0 : 0 ≤ k) (hk : k < 1000000) : StepR M n k T a b c (a.o.step M).2 (a.o.step M).1 := by
  obtain ⟨o, ch, id⟩ := a
  cases o with
  | no => exact absurd rfl ha
  | take O => exact step_take hn hn5 h hk0 hk
  | give O => exact step_give hn hn5 h hk0 hk
  | turn O => exact step_turn hn hn5 h hk0 hk
  | key K => exact h.ha.1.elim
  | kof K => exact h.ha.1.elim
theorem JInv.mono {k' : Int} (h : JInv M n k C T a b c) (hk : k ≤ k') : JInv M n k' C T a b c :=
  ⟨h.len, h.fine, Int.le_trans h.tag hk, h.lnk, h.nd, h.fr, fun i h0 h1 => by have := h.gen i h0 h1; omega, h.tk, Int.le_trans h.tl hk, h.ha, h.hb, h.hc⟩
theorem JInv.begin {x id : Int} {o : CoSt} (h : JInv M n k C T ⟨.no, x, id⟩ b c) (ho : ownO o = []) (h1 : coOk M n o 0 id) (h2 : oOk o) : JInv M n k C T ⟨o, 0, id⟩ b c :=
  have e1 : CoT.own ⟨o, 0, id⟩ = [] := ho
  have e2 : CoT.own ⟨.no, x, id⟩ = [] := rfl
  ⟨h.len, h.fine, h.tag, h.lnk, by rw [e1, ← e2]; exact h.nd, fun i h0 h1 => by rw [e1, ← e2]; exact h.fr i h0 h1, h.gen, h.tk, h.tl, ⟨h1, h2⟩, h.hb, h.hc⟩
theorem begin_take {x id : Int} (h : JInv M n k C T ⟨.no, x, id⟩ b c) : JInv M n k C T ⟨.take (.newTake (jl n)), 0, id⟩ b c :=
  h.begin rfl ⟨rfl, rfl, rfl, .inl ⟨rfl, .inl rfl⟩⟩ (.inr ⟨by show (-1 : Int) ≤ 0; omega, by show (0 : Int) ≤ 65534; omega, by show (-1 : Int) ≤ 0; omega, by show (0 : Int) ≤ 65534; omega, isWd0, by show (0 : Int) ≤ 0; omega, by show (0 : Int) ≤ 5; omega, by show (0 : Int) ≤ 0; omega, by show (0 : Int) < 64; omega⟩)
theorem begin_give {x id i : Int} (hn5 : n ≤ 5) (h0 : 0 ≤ i) (h1 : i < n) (h : JInv M n k C T ⟨.no, x, id⟩ b c) : JInv M n k C T ⟨.give (.newGive (jl n) n i), 0, id⟩ b c := by
  have e : OpSt.newGive (jl n) n i = ⟨2, jl n, 1, i, 0, 0, 0, 0, 0, 0, 0, 0⟩ := by unfold OpSt.newGive; rw [if_neg (by omega)]
  rw [e]
  exact h.begin rfl ⟨rfl, rfl, ⟨h0, h1⟩, .inl ⟨rfl, rfl⟩⟩ (.inr ⟨by show -1 ≤ i; omega, by show i ≤ 65534; omega, by show (-1 : Int) ≤ 0; omega, by show (0 : Int) ≤ 65534; omega, isWd0, by show (0 : Int) ≤ 0; omega, by show (0 : Int) ≤ 5; omega, by show (0 : Int) ≤ 0; omega, by show (0 : Int) < 64; omega⟩)
theorem begin_turn {x id i fr to : Int} (hn5 : n ≤ 5) (h0 : 0 ≤ i) (h1 : i < n) (hm : mayB fr to = true) (hi : 0 ≤ id) (hi2 : id < 64) (h : JInv M n k C T ⟨.no, x, id⟩ b c) : JInv M n k C T ⟨.turn (.newTurn (jl n) n i fr to id), 0, id⟩ b c := by
  have hr := may_rng hm
  have e : OpSt.newTurn (jl n) n i fr to id = ⟨3, jl n, 1, i, 0, 0, 0, 0, fr, to, id, 0⟩ := by unfold OpSt.newTurn; rw [if_neg (by omega), if_neg (by rw [hm]; decide), if_neg (by omega)]
  rw [e]
  exact h.begin rfl ⟨rfl, rfl, ⟨h0, h1⟩, rfl, hm, rfl, .inl rfl⟩ (.inr ⟨by show -1 ≤ i; omega, by show i ≤ 65534; omega, by show (-1 : Int) ≤ 0; omega, by show (0 : Int) ≤ 65534; omega, isWd0, by show (0 : Int) ≤ to; omega, by show to ≤ 5; omega, hi, hi2⟩)
theorem least (p : Nat → Prop) : ∀ k, p k → ∃ k0, p k0 ∧ k0 ≤ k ∧ ∀ j, p j → k0 ≤ j := by
  intro k
  induction k using Nat.strongRecOn with
  | ind k ih =>
    intro hk
    by_cases h : ∃ j, j < k ∧ p j
    · obtain ⟨j, hj, hp⟩ := h
      obtain ⟨k0, h1, h2, h3⟩ := ih j hj hp
      exact ⟨k0, h1, by omega, h3⟩
    · exact ⟨k, hk, Nat.le_refl _, fun j hj => Nat.le_of_not_lt fun hlt => h ⟨j, hlt, hj⟩⟩
end
def iot5 (n : Int) : List Int := (List.range n.toNat).map fun (i : Nat) => (i : Int)
def lnkB (M : MemSt) (n : Int) : Int → List Int → Bool
  | i, [] => decide (i = -1)
  | i, x :: xs => decide (i = x) && (decide (0 ≤ x) && (decide (x < n) && lnkB M n (idxW n (M.word (1 + x))) xs))
theorem lnkB_spec {M : MemSt} {n : Int} : ∀ {C : List Int} {i : Int}, lnkB M n i C = true → Lnk M n i C
  | [], i, h => by
    simp only [lnkB, decide_eq_true_eq] at h
    exact h
  | x :: C, i, h => by
    simp only [lnkB, Bool.and_eq_true, decide_eq_true_eq] at h
    exact ⟨h.1, h.2.1, h.2.2.1, lnkB_spec h.2.2.2⟩
def initB (n : Int) : Bool :=
  let M := fill24 (MemSt.new (1 + 3 * n)) (1 + n) (1 + 2 * n) 0 1 n
  decide ((M.W.length : Int) = 1 + 3 * n) && (M.W.all (fun x => decide (0 ≤ x) && decide (x < 18446744073709551616)) && (decide (M.word 0 / 65536 ≤ 0) && (lnkB M n (idxW n (M.word 0)) (iot5 n) && ((iot5 n).all fun i => decide (stw M n i % 256 = 1) && decide (stw M n i / 4294967296 ≤ 1)))))
theorem initB_all : (List.range 5).all (fun k => initB (k + 1 : Nat)) = true := by kernel_rfl
theorem mem_iot5 {n x : Int} : x ∈ iot5 n ↔ 0 ≤ x ∧ x < n := by
  simp only [iot5, List.mem_map, List.mem_range]
  constructor
  · rintro ⟨i, hi, rfl⟩; omega
  · intro h; exact ⟨x.toNat, by omega, by omega⟩
theorem nodup_iot5 (n : Int) : (iot5 n).Nodup := by
  unfold iot5
  refine List.Pairwise.map _ (fun a b h => ?_) List.nodup_range
  omega
theorem init_ok {n : Int} (h0 : 1 ≤ n) (h1 : n ≤ 5) : JInv (fill24 (MemSt.new (1 + 3 * n)) (1 + n) (1 + 2 * n) 0 1 n) n 0 (iot5 n) [] ⟨.no, 0, 0⟩ ⟨.no, 0, 1⟩ ⟨.no, 0, 2⟩ := by
  have h := List.all_eq_true.1 initB_all (n - 1).toNat (by simp; omega)
  rw [show (((n - 1).toNat + 1 : Nat) : Int) = n by omega] at h
  simp only [initB, Bool.and_eq_true, decide_eq_true_eq, List.all_eq_true] at h
  obtain ⟨h1, h2, h3, h4, h5⟩ := h
  have hnil : CoT.own ⟨.no, 0, 0⟩ ++ (CoT.own ⟨.no, 0, 1⟩ ++ CoT.own ⟨.no, 0, 2⟩) = [] := rfl
  refine ⟨h1, ⟨by omega, fun x hx => h2 x hx⟩, h3, lnkB_spec h4, by rw [hnil, List.append_nil]; exact nodup_iot5 n, fun i i0 i1 => ?_, fun i i0 i1 => ?_, fun p hp => (by cases hp), Int.le_refl _, ⟨trivial, trivial⟩, ⟨trivial, trivial⟩, ⟨trivial, trivial⟩⟩
  · rw [hnil, List.append_nil]
    exact ⟨fun _ => mem_iot5.2 ⟨i0, i1⟩, fun _ => (h5 i (mem_iot5.2 ⟨i0, i1⟩)).1⟩
  · have := (h5 i (mem_iot5.2 ⟨i0, i1⟩)).2; omega
def chainL (M : MemSt) (l s : Int) : Nat → Int → List Int
  | 0, _ => []
  | n + 1, i => if i < 0 then [] else i :: chainL M l s n (idxW s (M.at0 (IntKind.i64.wrap (l + i))))
def chainS (M : MemSt) (t l s : Int) : List Int := chainL M l s s.toNat (idxW s (M.at0 t))
theorem at0_word {M : MemSt} {x : Int} (h0 : 0 ≤ x) (h1 : x < M.W.length) : M.at0 x = M.word x := by
  unfold MemSt.at0 MemSt.word
  rw [if_pos ⟨h0, h1⟩, List.getD_eq_getElem?_getD]
theorem chainL_lnk {M : MemSt} {n : Int} (hn5 : n ≤ 5) (hl : (M.W.length : Int) = 1 + 3 * n) : ∀ {C : List Int} {i : Int} {m : Nat}, Lnk M n i C → C.length ≤ m → chainL M 1 n m i = C
  | [], i, m, h, _ => by
    have h : i = -1 := h
    subst h
    cases m <;> rfl
  | x :: C, i, m, h, hm => by
    obtain ⟨rfl, h0, h1, h2⟩ := h
    cases m with
    | zero => simp at hm
    | succ m =>
      rw [chainL, if_neg (by omega), wrap_small (by omega) (by omega), at0_word (by omega) (by omega), chainL_lnk hn5 hl h2 (by simp at hm; omega)]
theorem sub_len : ∀ {C D : List Int}, C.Nodup → (∀ x ∈ C, x ∈ D) → C.length ≤ D.length
  | [], D, _, _ => Nat.zero_le _
  | x :: C, D, hn, h => by
    rw [List.nodup_cons] at hn
    have hx : x ∈ D := h x (List.mem_cons_self ..)
    have ih := sub_len (C := C) (D := D.erase x) hn.2 fun y hy => (List.mem_erase_of_ne (show y ≠ x from fun e => hn.1 (by rw [← e]; exact hy))).2 (h y (List.mem_cons_of_mem _ hy))
    rw [List.length_erase_of_mem hx] at ih
    have : 0 < D.length := List.length_pos_of_mem hx
    rw [List.length_cons]; omega
theorem bound_len {n : Int} {C : List Int} (hC : C.Nodup) (hx : ∀ x ∈ C, 0 ≤ x ∧ x < n) : C.length ≤ n.toNat := by
  have := sub_len (D := iot5 n) hC fun x hm => mem_iot5.2 (hx x hm)
  simpa [iot5] using this
theorem chain_eq {M : MemSt} {n k : Int} {C : List Int} {T : List (Int × Int)} {a b c : CoT} (hn : 1 ≤ n) (hn5 : n ≤ 5) (h : JInv M n k C T a b c) : chainS M 0 1 n = C := by
  have hlen := h.len
  unfold chainS
  rw [at0_word (by omega) (by omega)]
  refine chainL_lnk hn5 hlen h.lnk (bound_len ?_ (lnk_range h.lnk))
  exact (List.nodup_append.1 h.nd).1
end Go.Proofs.YtdabdbbgaekmdaaGreat
