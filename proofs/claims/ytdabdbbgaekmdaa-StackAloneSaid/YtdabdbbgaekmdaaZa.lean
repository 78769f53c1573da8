/- Stacks: what cores have together: the plain law. -/
import Derived.Test.YtdabdbbgaekmdaaKyL
import Derived.KernelRfl
namespace Go.Proofs.Ytdabdbbgaekmdaa
set_option linter.unusedVariables false
set_option linter.unusedSimpArgs false
set_option linter.unusedSectionVars false
set_option linter.unnecessarySimpa false
open Go Go.RowKit

/-- where a stack lies -/
structure Geo (t l n : Int) : Prop where
  n1 : 1 ≤ n
  n2 : n ≤ 12
  t0 : 0 ≤ t
  t1 : t < 20
  l0 : 0 ≤ l
  l1 : l + n ≤ 20
  d : t < l ∨ l + n ≤ t
/-- a chain of links -/
def Lnk (M : MemSt) (l n : Int) : Int → List Int → Prop
  | i, [] => i = -1
  | i, x :: xs => i = x ∧ 0 ≤ x ∧ x < n ∧ Lnk M l n (idxW n (M.word (l + x))) xs
def old (M : MemSt) (t w : Int) : Prop := w / 65536 < M.word t / 65536
/-- what a core's operation knows -/
def coOk (M : MemSt) (t l n : Int) : CoreP → Int → Prop
  | .none, _ => True
  | .pop P, _ => (P.top = t ∧ P.links = l ∧ P.size = n) ∧ (P.line = 1 ∨ P.line = 2 ∧ 0 ≤ P.i ∧ P.i < n ∧ (P.w = M.word t ∧ P.i = idxW n (M.word t) ∨ old M t P.w) ∨ P.line = 3 ∧ 0 ≤ P.i ∧ P.i < n ∧ (P.w = M.word t ∧ P.i = idxW n (M.word t) ∧ P.j = idxW n (M.word (l + P.i)) ∨ old M t P.w))
  | .push P, y => (P.top = t ∧ P.links = l ∧ P.size = n ∧ P.i = y ∧ P.err = 0 ∧ 0 ≤ y ∧ y < n) ∧ (P.line = 1 ∨ P.line = 2 ∧ (P.w = M.word t ∨ old M t P.w) ∨ P.line = 3 ∧ (P.w = M.word t ∧ M.word (l + y) = idxW n P.w + 1 ∨ old M t P.w))
  | .all P, _ => (P.top = t ∧ P.links = l ∧ P.size = n) ∧ (P.line = 1 ∨ P.line = 2 ∧ 0 ≤ P.i ∧ P.i < n ∧ (P.w = M.word t ∧ P.i = idxW n (M.word t) ∨ old M t P.w))
def CoreP.lays : CoreP → List Int → Int → List Int
  | .push _, H, y => H ++ [y]
  | _, H, _ => H
def iot (n : Int) : List Int := (List.range n.toNat).map Int.ofNat
theorem idx_lo {n w : Int} : -1 ≤ idxW n w ∧ (1 ≤ n → idxW n w < n) := by
  unfold idxW; split <;> omega
theorem wdSetS {M M' : MemSt} {x v : Int} (h : M'.W = M.W.set x.toNat v) (h0 : 0 ≤ x) (h1 : x < M.W.length) {z : Int} (hz : 0 ≤ z) : M'.word z = if z = x then v else M.word z := by
  unfold MemSt.word
  rw [h, List.getD_eq_getElem?_getD, List.getD_eq_getElem?_getD, List.getElem?_set]
  split
  · have : z = x := by omega
    rw [if_pos this, if_pos (by omega)]; rfl
  · rw [if_neg (by omega)]
theorem wdSameS {M M' : MemSt} (h : M'.W = M.W) (z : Int) : M'.word z = M.word z := by unfold MemSt.word; rw [h]
theorem isInS {M : MemSt} {x : Int} (h0 : 0 ≤ x) (h1 : x < M.W.length) : M.is x = true := by simp [MemSt.is]; omega
theorem setWdS {M : MemSt} {x : Int} (h0 : 0 ≤ x) (h1 : x < M.W.length) : M.W.set x.toNat (M.word x) = M.W := by
  unfold MemSt.word
  apply List.ext_getElem (by simp)
  intro i h2 h3
  rw [List.getElem_set]
  split
  · rename_i e; subst e
    rw [List.getD_eq_getElem?_getD, List.getElem?_eq_getElem h3]; rfl
  · rfl
theorem ldS {M : MemSt} {x : Int} (h0 : 0 ≤ x) (h1 : x < M.W.length) : (M.load x).W = M.W ∧ (M.load x).n = M.word x ∧ (M.load x).k = 1 := by
  unfold MemSt.load MemSt.acc
  rw [if_pos (isInS h0 h1)]
  exact ⟨setWdS h0 h1, rfl, rfl⟩
theorem stoS {M : MemSt} {x v : Int} (h0 : 0 ≤ x) (h1 : x < M.W.length) : (M.store x v).W = M.W.set x.toNat v ∧ (M.store x v).k = 2 := by
  unfold MemSt.store MemSt.acc
  rw [if_pos (isInS h0 h1)]
  exact ⟨rfl, rfl⟩
theorem casS {M : MemSt} {x w v : Int} (h0 : 0 ≤ x) (h1 : x < M.W.length) :
    (M.word x = w ∧ (M.cas x w v).h = true ∧ (M.cas x w v).W = M.W.set x.toNat v ∧ (M.cas x w v).k = 3) ∨ (M.word x ≠ w ∧ (M.cas x w v).h = false ∧ (M.cas x w v).W = M.W) := by
  unfold MemSt.cas
  by_cases h : M.word x = w
  · rw [if_pos h]
    unfold MemSt.acc
    rw [if_pos (isInS h0 h1)]
    exact .inl ⟨h, rfl, rfl, rfl⟩
  · rw [if_neg h]
    unfold MemSt.acc
    rw [if_pos (isInS h0 h1)]
    exact .inr ⟨h, rfl, setWdS h0 h1⟩
theorem lnk_range {M : MemSt} {l n : Int} : ∀ {C : List Int} {i : Int}, Lnk M l n i C → ∀ x ∈ C, 0 ≤ x ∧ x < n
  | [], _, _, x, hx => by cases hx
  | y :: C, i, h, x, hx => by
    obtain ⟨rfl, h0, h1, h2⟩ := h
    rcases List.mem_cons.1 hx with rfl | hx
    · exact ⟨h0, h1⟩
    · exact lnk_range h2 x hx
theorem lnk_stay {M M' : MemSt} {l n : Int} : ∀ {C : List Int} {i : Int}, Lnk M l n i C → (∀ x ∈ C, M'.word (l + x) = M.word (l + x)) → Lnk M' l n i C
  | [], _, h, _ => h
  | y :: C, i, h, hw => by
    obtain ⟨rfl, h0, h1, h2⟩ := h
    refine ⟨rfl, h0, h1, ?_⟩
    rw [hw i (List.mem_cons_self ..)]
    exact lnk_stay h2 fun x hx => hw x (List.mem_cons_of_mem _ hx)
theorem lnk_head {M : MemSt} {l n i : Int} {C : List Int} (h : Lnk M l n i C) (hi : 0 ≤ i) : ∃ C', C = i :: C' ∧ Lnk M l n (idxW n (M.word (l + i))) C' := by
  cases C with
  | nil => exact absurd h (by show ¬ i = -1; omega)
  | cons x C => obtain ⟨rfl, _, _, h⟩ := h; exact ⟨C, rfl, h⟩
theorem lnk_none {M : MemSt} {l n i : Int} {C : List Int} (h : Lnk M l n i C) (hi : i < 0) : C = [] := by
  cases C with
  | nil => rfl
  | cons x C => obtain ⟨rfl, h0, _⟩ := h; omega
theorem chain_lnk {M : MemSt} {t l n : Int} (g : Geo t l n) (hl : M.W.length = 20) : ∀ {C : List Int} {i : Int} {f : Nat}, Lnk M l n i C → C.length ≤ f → chainL M l n f i = C
  | [], i, 0, h, _ => rfl
  | [], i, f + 1, h, _ => by rw [chainL, if_pos (by have : i = -1 := h; omega)]
  | y :: C, i, 0, h, hf => by cases hf
  | y :: C, i, f + 1, h, hf => by
    obtain ⟨rfl, h0, h1, h2⟩ := h
    obtain ⟨g1, g2, g3, g4, g5, g6, g7⟩ := g
    rw [chainL, if_neg (by omega), wrap_small (by omega) (by omega)]
    have e : M.at0 (l + i) = M.word (l + i) := by
      unfold MemSt.at0 MemSt.word
      rw [if_pos (by omega), List.getD_eq_getElem?_getD]
    rw [e, chain_lnk ⟨g1, g2, g3, g4, g5, g6, g7⟩ hl h2 (Nat.le_of_succ_le_succ hf)]
theorem chain_top {M : MemSt} {t l n : Int} (g : Geo t l n) (hl : M.W.length = 20) {C : List Int} (h : Lnk M l n (idxW n (M.word t)) C) (hc : C.length ≤ n.toNat) : chainS M t l n = C := by
  have e : M.at0 t = M.word t := by
    unfold MemSt.at0 MemSt.word
    have := g.t0; have := g.t1
    rw [if_pos (by omega), List.getD_eq_getElem?_getD]
  unfold chainS
  rw [e]
  exact chain_lnk g hl h hc
theorem coOk_same {M M' : MemSt} {t l n y : Int} {o : CoreP} (h : M'.W = M.W) (ho : coOk M t l n o y) : coOk M' t l n o y := by
  cases o <;> simpa only [coOk, old, wdSameS h] using ho
theorem coOk_link {M M' : MemSt} {t l n y x : Int} {o : CoreP} (g : Geo t l n) (hx : 0 ≤ x) (hx' : x < n) (h : ∀ z, 0 ≤ z → z ≠ l + x → M'.word z = M.word z) {C : List Int} (hC : Lnk M l n (idxW n (M.word t)) C) (hn : x ∉ C) (hy : x ∉ o.lays [] y) (ho : coOk M t l n o y) : coOk M' t l n o y := by
  obtain ⟨g1, g2, g3, g4, g5, g6, g7⟩ := g
  have ht : M'.word t = M.word t := h t g3 (by omega)
  cases o with
  | none => trivial
  | pop P =>
    obtain ⟨hs, h1⟩ := ho
    simp only [coOk, old, ht] at h1 ⊢
    refine ⟨hs, ?_⟩
    rcases h1 with h1 | h1 | ⟨h1, h2, h3, h4⟩
    · exact .inl h1
    · exact .inr (.inl h1)
    · refine .inr (.inr ⟨h1, h2, h3, ?_⟩)
      rcases h4 with ⟨h4, h5, h6⟩ | h4
      · refine .inl ⟨h4, h5, ?_⟩
        obtain ⟨C', rfl, _⟩ := lnk_head hC (by omega)
        rw [h6, h (l + P.i) (by omega) (fun e => hn (by rw [← h5]; exact List.mem_cons.2 (.inl (by omega))))]
      · exact .inr h4
  | push P =>
    obtain ⟨hs, h1⟩ := ho
    simp only [coOk, old, ht] at h1 ⊢
    refine ⟨hs, ?_⟩
    rcases h1 with h1 | h1 | ⟨h1, h4⟩
    · exact .inl h1
    · exact .inr (.inl h1)
    · refine .inr (.inr ⟨h1, ?_⟩)
      rcases h4 with ⟨h4, h5⟩ | h4
      · refine .inl ⟨h4, ?_⟩
        have : x ≠ y := fun e => hy (by simp [CoreP.lays, e])
        rw [h (l + y) (by omega) (by omega), h5]
      · exact .inr h4
  | all P => simpa only [coOk, old, ht] using ho
theorem coOk_swap {M M' : MemSt} {t l n y : Int} {o : CoreP} (h : M'.word t / 65536 = M.word t / 65536 + 1) (ho : coOk M t l n o y) : coOk M' t l n o y := by
  cases o with
  | none => trivial
  | pop P =>
    obtain ⟨hs, h1⟩ := ho
    refine ⟨hs, ?_⟩
    rcases h1 with h1 | ⟨h1, h2, h3, h4⟩ | ⟨h1, h2, h3, h4⟩
    · exact .inl h1
    · refine .inr (.inl ⟨h1, h2, h3, .inr ?_⟩)
      unfold old at *
      rcases h4 with ⟨h4, _⟩ | h4
      · rw [h4]; omega
      · omega
    · refine .inr (.inr ⟨h1, h2, h3, .inr ?_⟩)
      unfold old at *
      rcases h4 with ⟨h4, _⟩ | h4
      · rw [h4]; omega
      · omega
  | push P =>
    obtain ⟨hs, h1⟩ := ho
    refine ⟨hs, ?_⟩
    rcases h1 with h1 | ⟨h1, h4⟩ | ⟨h1, h4⟩
    · exact .inl h1
    · refine .inr (.inl ⟨h1, .inr ?_⟩)
      unfold old at *
      rcases h4 with h4 | h4
      · rw [h4]; omega
      · omega
    · refine .inr (.inr ⟨h1, .inr ?_⟩)
      unfold old at *
      rcases h4 with ⟨h4, _⟩ | h4
      · rw [h4]; omega
      · omega
  | all P =>
    obtain ⟨hs, h1⟩ := ho
    refine ⟨hs, ?_⟩
    rcases h1 with h1 | ⟨h1, h2, h3, h4⟩
    · exact .inl h1
    · refine .inr ⟨h1, h2, h3, .inr ?_⟩
      unfold old at *
      rcases h4 with ⟨h4, _⟩ | h4
      · rw [h4]; omega
      · omega
theorem topW_idx {n i w : Int} (hi : -1 ≤ i) (hin : i < n) (hn : 1 ≤ n) (hn2 : n ≤ 12) : idxW n (topW i w) = i := by
  unfold idxW topW
  have : (i + 1 + (w / 65536 + 1) % 281474976710656 * 65536) % 65536 = i + 1 := by omega
  rw [this]
  split <;> omega
theorem topW_tag {i w : Int} (hi : -1 ≤ i) (hin : i ≤ 12) (hw : 0 ≤ w) (hw2 : w / 65536 < 1000000) : topW i w / 65536 = w / 65536 + 1 := by
  unfold topW
  omega
theorem mem_iot {n x : Int} : x ∈ iot n ↔ 0 ≤ x ∧ x < n := by
  unfold iot
  simp only [List.mem_map, List.mem_range]
  constructor
  · rintro ⟨k, hk, rfl⟩; simp only [Int.ofNat_eq_natCast]; omega
  · intro h; exact ⟨x.toNat, by omega, by simp only [Int.ofNat_eq_natCast]; omega⟩
theorem nodup_iot (n : Int) : (iot n).Nodup := by
  unfold iot
  exact List.Pairwise.map _ (fun a b h e => h (by simp only [Int.ofNat_eq_natCast] at e; omega)) List.nodup_range
theorem len_iot (n : Int) : (iot n).length = n.toNat := by simp [iot]
/-- a core: its operation, what it has, what it lays -/
structure CoreT where
  o : CoreP
  H : List Int
  y : Int
def CoreT.own (c : CoreT) : List Int := c.o.lays c.H c.y
structure SInv (M : MemSt) (t l n k : Int) (a b c : CoreT) : Prop where
  len : M.W.length = 20
  fine : M.fine
  tag : M.word t / 65536 ≤ k
  ch : Lnk M l n (idxW n (M.word t)) (chainS M t l n)
  pm : (chainS M t l n ++ (a.own ++ (b.own ++ c.own))).Perm (iot n)
  ha : coOk M t l n a.o a.y ∧ a.o.ok
  hb : coOk M t l n b.o b.y ∧ b.o.ok
  hc : coOk M t l n c.o c.y ∧ c.o.ok
theorem SInv.swap1 {M : MemSt} {t l n k : Int} {a b c : CoreT} (h : SInv M t l n k a b c) : SInv M t l n k b a c :=
  ⟨h.len, h.fine, h.tag, h.ch, by
    refine List.Perm.trans (List.Perm.append_left _ ?_) h.pm
    rw [← List.append_assoc, ← List.append_assoc]
    exact List.perm_append_comm.append_right _, h.hb, h.ha, h.hc⟩
theorem SInv.swap2 {M : MemSt} {t l n k : Int} {a b c : CoreT} (h : SInv M t l n k a b c) : SInv M t l n k c b a :=
  ⟨h.len, h.fine, h.tag, h.ch, by
    refine List.Perm.trans (List.Perm.append_left _ ?_) h.pm
    exact (List.perm_append_comm.append_left _).trans ((List.perm_append_comm (l₁ := c.own)).trans (by rw [List.append_assoc])), h.hc, h.hb, h.ha⟩
/-- what a step does to the words -/
inductive Eff (M M' : MemSt) (t l n : Int) (C : List Int) (a : CoreT) (C' : List Int) : Prop
  | same (h : M'.W = M.W) (hc : C' = C)
  | link (v : Int) (ho : ∃ P, a.o = .push P) (y0 : 0 ≤ a.y) (y1 : a.y < n) (h : ∀ z, 0 ≤ z → z ≠ l + a.y → M'.word z = M.word z) (hc : C' = C)
  | swap (h : M'.word t / 65536 = M.word t / 65536 + 1) (hk : M'.k = 3 ∧ M'.h = true)
theorem SInv.next {M M' : MemSt} {t l n k : Int} {a b c a' : CoreT} {C' : List Int} (g : Geo t l n) (h : SInv M t l n k a b c) (e : Eff M M' t l n (chainS M t l n) a C')
    (hl : M'.W.length = 20) (hf : M'.fine) (hC : Lnk M' l n (idxW n (M'.word t)) C') (hp : (C' ++ a'.own).Perm (chainS M t l n ++ a.own)) (ha : coOk M' t l n a'.o a'.y ∧ a'.o.ok) :
    chainS M' t l n = C' ∧ SInv M' t l n (k + 1) a' b c := by
  have hpm : (C' ++ (a'.own ++ (b.own ++ c.own))).Perm (iot n) := by
    refine List.Perm.trans ?_ h.pm
    rw [← List.append_assoc C', ← List.append_assoc (chainS M t l n)]
    exact hp.append_right _
  have hlen : C'.length ≤ n.toNat := by
    have := hpm.length_eq
    rw [len_iot, List.length_append] at this
    omega
  have hC' := chain_top g hl hC hlen
  refine ⟨hC', ?_⟩
  have ht : M'.word t / 65536 ≤ k + 1 := by
    have h1 := h.tag
    rcases e with ⟨e, _⟩ | ⟨v, _, _, _, e, _⟩ | ⟨e, _⟩
    · rw [wdSameS e]; omega
    · have := g.d; rw [e t g.t0 (by omega)]; omega
    · omega
  have hnd : (chainS M t l n ++ (a.own ++ (b.own ++ c.own))).Nodup := h.pm.nodup_iff.2 (nodup_iot n)
  have oth : ∀ d : CoreT, (d = b ∨ d = c) → coOk M t l n d.o d.y → coOk M' t l n d.o d.y := by
    intro d hd hok
    rcases e with ⟨e, _⟩ | ⟨v, ⟨P, hP⟩, y0, y1, e, _⟩ | ⟨e, _⟩
    · exact coOk_same e hok
    · have hya : a.y ∈ a.own := by simp [CoreT.own, hP, CoreP.lays]
      have hyd : ∀ x ∈ d.own, x ∈ b.own ++ c.own := by
        intro x hx
        rcases hd with rfl | rfl
        · exact List.mem_append_left _ hx
        · exact List.mem_append_right _ hx
      rw [List.nodup_append] at hnd
      refine coOk_link g y0 y1 e h.ch (fun hx => ?_) (fun hx => ?_) hok
      · exact hnd.2.2 _ hx _ (List.mem_append_left _ hya) rfl
      · have hm : a.y ∈ d.own := by
          revert hx
          cases hdo : d.o <;> simp [CoreP.lays, CoreT.own, hdo] <;> exact fun e => .inr e
        have := hnd.2.1
        rw [List.nodup_append] at this
        exact this.2.2 _ hya _ (hyd _ hm) rfl
    · exact coOk_swap e hok
  exact ⟨hl, hf, ht, by rw [hC']; exact hC, by rw [hC']; exact hpm, ha, ⟨oth b (.inl rfl) h.hb.1, h.hb.2⟩, ⟨oth c (.inr rfl) h.hc.1, h.hc.2⟩⟩
theorem chain_len {M : MemSt} {t l n k : Int} {a b c : CoreT} (g : Geo t l n) (h : SInv M t l n k a b c) : (chainS M t l n).length ≤ n.toNat := by
  have := h.pm.length_eq
  rw [len_iot, List.length_append] at this
  omega
theorem own_range {M : MemSt} {t l n k : Int} {a b c : CoreT} (h : SInv M t l n k a b c) : ∀ x ∈ a.own, 0 ≤ x ∧ x < n := fun x hx =>
  mem_iot.1 (h.pm.mem_iff.1 (List.mem_append_right _ (List.mem_append_left _ hx)))
theorem wdLoS {M : MemSt} (h : M.fine) (x : Int) : 0 ≤ M.word x := by
  unfold MemSt.word
  rw [List.getD_eq_getElem?_getD]
  cases e : M.W[x.toNat]? with
  | none => exact Int.le_refl 0
  | some w => exact (h.2 w (List.mem_of_getElem? e)).1
/-- a step's outcome -/
structure StepL (M : MemSt) (t l n k : Int) (a b c : CoreT) : Prop where
  good : stepG a.o M (chainS M t l n) (chainS (stepC a.o M).2 t l n) a.y = true
  next : SInv (stepC a.o M).2 t l n (k + 1) ⟨(stepC a.o M).1, stepH a.o M (chainS M t l n) a.H, a.y⟩ b c
  eff : (stepC a.o M).2.word t = M.word t ∨ (stepC a.o M).2.k = 3 ∧ (stepC a.o M).2.h = true
theorem Eff.top {M M' : MemSt} {t l n : Int} {C C' : List Int} {a : CoreT} (g : Geo t l n) (h : Eff M M' t l n C a C') : M'.word t = M.word t ∨ M'.k = 3 ∧ M'.h = true := by
  rcases h with ⟨e, _⟩ | ⟨v, _, y0, y1, e, _⟩ | ⟨_, e⟩
  · exact .inl (wdSameS e t)
  · have := g.d; exact .inl (e t g.t0 (by omega))
  · exact .inr e
theorem step_pop {M : MemSt} {t l n k : Int} {P : PopSt} {H : List Int} {y : Int} {b c : CoreT} (g : Geo t l n) (h : SInv M t l n k ⟨.pop P, H, y⟩ b c) (hk : k < 1000000) : StepL M t l n k ⟨.pop P, H, y⟩ b c := by
  have hf' := fine_stepPo h.ha.2 h.fine
  have hok' := ok_stepPo h.ha.2 h.fine
  obtain ⟨⟨ht, hl, hs⟩, hline⟩ := h.ha.1
  have hlen := h.len
  obtain ⟨g1, g2, g3, g4, g5, g6, g7⟩ := id g
  have hch := h.ch
  have hcl := chain_len g h
  have htag := h.tag
  have hwt := wdLoS h.fine t
  have hidx := @idx_lo n (M.word t)
  have hne : ∀ x : Int, x ≠ -1 ∨ True := fun _ => .inr trivial
  rcases hline with h1 | ⟨h1, h2, h2', h3⟩ | ⟨h1, h2, h2', h3⟩
  · -- the top is loaded
    obtain ⟨e1, e2, e3⟩ := ldS (M := M) (x := t) g3 (by omega)
    by_cases hi : idxW n (M.word t) < 0
    · have hst : stepPo P M = (⟨9, t, l, n, M.word t, idxW n (M.word t), P.j⟩, M.load t) := by
        unfold stepPo; rw [if_pos h1]; simp only [ht, hs, hl, e2, hi, if_true]
      have hC := lnk_none hch hi
      rw [hst] at hf' hok'
      have hnx := h.next (M' := M.load t) (a' := ⟨.none, H, y⟩) g (.same e1 rfl) (by rw [e1]; exact hlen) hf' (by rw [wdSameS e1]; exact lnk_stay hch fun x _ => wdSameS e1 _) (List.Perm.refl _) ⟨trivial, trivial⟩
      refine ⟨?_, ?_, .inl ?_⟩
      · simp [stepG, hst, toldS, hi, hC]
      · have := hnx.2
        simp only [stepC, stepH, hst, toldS, hi]
        simpa using this
      · simp only [stepC, hst]; exact wdSameS e1 t
    · have hst : stepPo P M = (⟨2, t, l, n, M.word t, idxW n (M.word t), P.j⟩, M.load t) := by
        unfold stepPo; rw [if_pos h1]; simp only [ht, hs, hl, e2, hi, if_false]
      rw [hst] at hf' hok'
      have hnx := h.next (M' := M.load t) (a' := ⟨.pop ⟨2, t, l, n, M.word t, idxW n (M.word t), P.j⟩, H, y⟩) g (.same e1 rfl) (by rw [e1]; exact hlen) hf' (by rw [wdSameS e1]; exact lnk_stay hch fun x _ => wdSameS e1 _) (List.Perm.refl _)
        ⟨⟨⟨rfl, rfl, rfl⟩, .inr (.inl ⟨rfl, by show 0 ≤ idxW n (M.word t); omega, hidx.2 g1, .inl ⟨(wdSameS e1 t).symm, by rw [wdSameS e1]⟩⟩)⟩, hok'⟩
      refine ⟨?_, ?_, .inl ?_⟩
      · simp [stepG, hst]
      · have := hnx.2
        simp only [stepC, stepH, hst]
        simpa using this
      · simp only [stepC, hst]; exact wdSameS e1 t
  · -- the link is loaded
    have hw : IntKind.i64.wrap (l + P.i) = l + P.i := wrap_small (by omega) (by omega)
    obtain ⟨e1, e2, e3⟩ := ldS (M := M) (x := l + P.i) (by omega) (by omega)
    have hst : stepPo P M = (⟨3, t, l, n, P.w, P.i, idxW n (M.word (l + P.i))⟩, M.load (l + P.i)) := by
      unfold stepPo; rw [if_neg (by omega), if_pos h1]; simp only [ht, hs, hl, hw, e2]
    rw [hst] at hf' hok'
    have hnx := h.next (M' := M.load (l + P.i)) (a' := ⟨.pop ⟨3, t, l, n, P.w, P.i, idxW n (M.word (l + P.i))⟩, H, y⟩) g (.same e1 rfl) (by rw [e1]; exact hlen) hf' (by rw [wdSameS e1]; exact lnk_stay hch fun x _ => wdSameS e1 _) (List.Perm.refl _)
      ⟨⟨⟨rfl, rfl, rfl⟩, .inr (.inr ⟨rfl, h2, h2', by
        rcases h3 with ⟨h3, h4⟩ | h3
        · exact .inl ⟨by rw [wdSameS e1]; exact h3, by rw [wdSameS e1]; exact h4, by rw [wdSameS e1]⟩
        · exact .inr (by unfold old at *; rw [wdSameS e1]; exact h3)⟩)⟩, hok'⟩
    refine ⟨?_, ?_, .inl ?_⟩
    · simp [stepG, hst]
    · have := hnx.2
      simp only [stepC, stepH, hst]
      simpa using this
    · simp only [stepC, hst]; exact wdSameS e1 t
  · -- the compare-and-swap
    have hj : -1 ≤ P.j ∧ P.j ≤ 65534 := h.ha.2.2.2
    rcases casS (M := M) (x := t) (w := P.w) (v := topW P.j P.w) g3 (by omega) with ⟨e0, e1, e2, e3⟩ | ⟨e0, e1, e2⟩
    · have hst : stepPo P M = (⟨9, t, l, n, P.w, P.i, P.j⟩, M.cas t P.w (topW P.j P.w)) := by
        unfold stepPo; rw [if_neg (by omega), if_neg (by omega), if_pos h1]; simp only [ht, hs, hl, e1, if_true]
      rw [hst] at hf' hok'
      rcases h3 with ⟨h3, h4, h5⟩ | h3
      · obtain ⟨C', hC, hC'⟩ := lnk_head hch (by omega)
        rw [← h4] at hC hC'
        have hjr := @idx_lo n (M.word (l + P.i))
        have hjn : P.j < n := by rw [h5]; exact hjr.2 g1
        have hword : ∀ z, 0 ≤ z → (M.cas t P.w (topW P.j P.w)).word z = if z = t then topW P.j P.w else M.word z := fun z hz => wdSetS e2 g3 (by omega) hz
        have htop := hword t g3
        rw [if_pos rfl] at htop
        have hCr := lnk_range hch
        have hlk : Lnk (M.cas t P.w (topW P.j P.w)) l n (idxW n ((M.cas t P.w (topW P.j P.w)).word t)) C' := by
          rw [htop, topW_idx hj.1 hjn g1 g2]
          rw [← h5] at hC'
          refine lnk_stay hC' fun x hx => ?_
          have := hCr x (by rw [hC]; exact List.mem_cons_of_mem _ hx)
          rw [hword _ (by omega), if_neg (by omega)]
        have htg : (M.cas t P.w (topW P.j P.w)).word t / 65536 = M.word t / 65536 + 1 := by
          rw [htop, h3]; exact topW_tag hj.1 (by omega) hwt (by omega)
        have hnx := h.next (M' := M.cas t P.w (topW P.j P.w)) (a' := ⟨.none, H ++ [P.i], y⟩) g (.swap htg ⟨e3, e1⟩) (by rw [e2, List.length_set]; exact hlen) hf' hlk (by
          rw [hC]
          show (C' ++ (H ++ [P.i])).Perm (P.i :: (C' ++ H))
          rw [← List.append_assoc]
          exact List.perm_append_comm (l₁ := C' ++ H) (l₂ := [P.i])) ⟨trivial, trivial⟩
        have hi0 : ¬ P.i < 0 := by omega
        refine ⟨?_, ?_, .inr ?_⟩
        · simp [stepG, hst, toldS, hi0, hC]
        · have := hnx.2
          simp only [stepC, stepH, hst, toldS, hi0]
          simpa using this
        · simp only [stepC, hst]; exact ⟨e3, e1⟩
      · exfalso; unfold old at h3; omega
    · have hst : stepPo P M = (⟨1, t, l, n, P.w, P.i, P.j⟩, M.cas t P.w (topW P.j P.w)) := by
        unfold stepPo; rw [if_neg (by omega), if_neg (by omega), if_pos h1]; simp only [ht, hs, hl, e1]; simp
      rw [hst] at hf' hok'
      have hnx := h.next (M' := M.cas t P.w (topW P.j P.w)) (a' := ⟨.pop ⟨1, t, l, n, P.w, P.i, P.j⟩, H, y⟩) g (.same e2 rfl) (by rw [e2]; exact hlen) hf' (by rw [wdSameS e2]; exact lnk_stay hch fun x _ => wdSameS e2 _) (List.Perm.refl _)
        ⟨⟨⟨rfl, rfl, rfl⟩, .inl rfl⟩, hok'⟩
      refine ⟨?_, ?_, .inl ?_⟩
      · simp [stepG, hst]
      · have := hnx.2
        simp only [stepC, stepH, hst]
        simpa using this
      · simp only [stepC, hst]; exact wdSameS e2 t
theorem step_all {M : MemSt} {t l n k : Int} {P : AllSt} {H : List Int} {y : Int} {b c : CoreT} (g : Geo t l n) (h : SInv M t l n k ⟨.all P, H, y⟩ b c) (hk : k < 1000000) : StepL M t l n k ⟨.all P, H, y⟩ b c := by
  have hf' := fine_stepAl h.ha.2 h.fine
  have hok' := ok_stepAl h.ha.2 h.fine
  obtain ⟨⟨ht, hl, hs⟩, hline⟩ := h.ha.1
  have hlen := h.len
  obtain ⟨g1, g2, g3, g4, g5, g6, g7⟩ := id g
  have hch := h.ch
  have hcl := chain_len g h
  have htag := h.tag
  have hwt := wdLoS h.fine t
  have hidx := @idx_lo n (M.word t)
  rcases hline with h1 | ⟨h1, h2, h2', h3⟩
  · obtain ⟨e1, e2, e3⟩ := ldS (M := M) (x := t) g3 (by omega)
    by_cases hi : idxW n (M.word t) < 0
    · have hst : stepAl P M = (⟨9, t, l, n, M.word t, idxW n (M.word t)⟩, M.load t) := by
        unfold stepAl; rw [if_pos h1]; simp only [ht, hs, hl, e2, hi, if_true]
      have hC := lnk_none hch hi
      rw [hst] at hf' hok'
      have hnx := h.next (M' := M.load t) (a' := ⟨.none, H, y⟩) g (.same e1 rfl) (by rw [e1]; exact hlen) hf' (by rw [wdSameS e1]; exact lnk_stay hch fun x _ => wdSameS e1 _) (List.Perm.refl _) ⟨trivial, trivial⟩
      refine ⟨?_, ?_, .inl ?_⟩
      · simp [stepG, hst, toldS, hi, hC]
      · have := hnx.2
        simp only [stepC, stepH, hst, toldS, hi]
        simpa using this
      · simp only [stepC, hst]; exact wdSameS e1 t
    · have hst : stepAl P M = (⟨2, t, l, n, M.word t, idxW n (M.word t)⟩, M.load t) := by
        unfold stepAl; rw [if_pos h1]; simp only [ht, hs, hl, e2, hi, if_false]
      rw [hst] at hf' hok'
      have hnx := h.next (M' := M.load t) (a' := ⟨.all ⟨2, t, l, n, M.word t, idxW n (M.word t)⟩, H, y⟩) g (.same e1 rfl) (by rw [e1]; exact hlen) hf' (by rw [wdSameS e1]; exact lnk_stay hch fun x _ => wdSameS e1 _) (List.Perm.refl _)
        ⟨⟨⟨rfl, rfl, rfl⟩, .inr ⟨rfl, by show 0 ≤ idxW n (M.word t); omega, hidx.2 g1, .inl ⟨(wdSameS e1 t).symm, by rw [wdSameS e1]⟩⟩⟩, hok'⟩
      refine ⟨?_, ?_, .inl ?_⟩
      · simp [stepG, hst]
      · have := hnx.2
        simp only [stepC, stepH, hst]
        simpa using this
      · simp only [stepC, hst]; exact wdSameS e1 t
  · rcases casS (M := M) (x := t) (w := P.w) (v := topW (-1) P.w) g3 (by omega) with ⟨e0, e1, e2, e3⟩ | ⟨e0, e1, e2⟩
    · have hst : stepAl P M = (⟨9, t, l, n, P.w, P.i⟩, M.cas t P.w (topW (-1) P.w)) := by
        unfold stepAl; rw [if_neg (by omega), if_pos h1]; simp only [ht, hs, hl, e1, if_true]
      rw [hst] at hf' hok'
      rcases h3 with ⟨h3, h4⟩ | h3
      · obtain ⟨C', hC, hC'⟩ := lnk_head hch (by omega)
        rw [← h4] at hC hC'
        have hword : ∀ z, 0 ≤ z → (M.cas t P.w (topW (-1) P.w)).word z = if z = t then topW (-1) P.w else M.word z := fun z hz => wdSetS e2 g3 (by omega) hz
        have htop := hword t g3
        rw [if_pos rfl] at htop
        have hlk : Lnk (M.cas t P.w (topW (-1) P.w)) l n (idxW n ((M.cas t P.w (topW (-1) P.w)).word t)) [] := by
          rw [htop, topW_idx (by omega) (by omega) g1 g2]
          exact rfl
        have htg : (M.cas t P.w (topW (-1) P.w)).word t / 65536 = M.word t / 65536 + 1 := by
          rw [htop, h3]; exact topW_tag (by omega) (by omega) hwt (by omega)
        have hnx := h.next (M' := M.cas t P.w (topW (-1) P.w)) (a' := ⟨.none, H ++ chainS M t l n, y⟩) g (.swap htg ⟨e3, e1⟩) (by rw [e2, List.length_set]; exact hlen) hf' hlk (by
          show (H ++ chainS M t l n).Perm (chainS M t l n ++ H)
          exact List.perm_append_comm) ⟨trivial, trivial⟩
        have hi0 : ¬ P.i < 0 := by omega
        refine ⟨?_, ?_, .inr ?_⟩
        · have := hnx.1
          simp only [stepG, stepC, hst, toldS, hi0, this]
          simp [hC]
        · have := hnx.2
          simp only [stepC, stepH, hst, toldS, hi0]
          simpa using this
        · simp only [stepC, hst]; exact ⟨e3, e1⟩
      · exfalso; unfold old at h3; omega
    · have hst : stepAl P M = (⟨1, t, l, n, P.w, P.i⟩, M.cas t P.w (topW (-1) P.w)) := by
        unfold stepAl; rw [if_neg (by omega), if_pos h1]; simp only [ht, hs, hl, e1]; simp
      rw [hst] at hf' hok'
      have hnx := h.next (M' := M.cas t P.w (topW (-1) P.w)) (a' := ⟨.all ⟨1, t, l, n, P.w, P.i⟩, H, y⟩) g (.same e2 rfl) (by rw [e2]; exact hlen) hf' (by rw [wdSameS e2]; exact lnk_stay hch fun x _ => wdSameS e2 _) (List.Perm.refl _)
        ⟨⟨⟨rfl, rfl, rfl⟩, .inl rfl⟩, hok'⟩
      refine ⟨?_, ?_, .inl ?_⟩
      · simp [stepG, hst]
      · have := hnx.2
        simp only [stepC, stepH, hst]
        simpa using this
      · simp only [stepC, hst]; exact wdSameS e2 t
theorem step_push {M : MemSt} {t l n k : Int} {P : PushSt} {H : List Int} {y : Int} {b c : CoreT} (g : Geo t l n) (h : SInv M t l n k ⟨.push P, H, y⟩ b c) (hk : k < 1000000) : StepL M t l n k ⟨.push P, H, y⟩ b c := by
  have hf' := fine_stepPu h.ha.2 h.fine
  have hok' := ok_stepPu h.ha.2 h.fine
  obtain ⟨⟨ht, hl, hs, hy, he, y0, y1⟩, hline⟩ := h.ha.1
  replace y0 : 0 ≤ y := y0
  replace y1 : y < n := y1
  replace hy : P.i = y := hy
  have hlen := h.len
  obtain ⟨g1, g2, g3, g4, g5, g6, g7⟩ := id g
  have hch := h.ch
  have hcl := chain_len g h
  have htag := h.tag
  have hwt := wdLoS h.fine t
  have hidx := @idx_lo n (M.word t)
  rcases hline with h1 | ⟨h1, h3⟩ | ⟨h1, h3⟩
  · obtain ⟨e1, e2, e3⟩ := ldS (M := M) (x := t) g3 (by omega)
    have hst : stepPu P M = (⟨2, t, l, n, M.word t, y, 0⟩, M.load t) := by
      unfold stepPu; rw [if_pos h1]; simp only [ht, hs, hl, e2, hy, he]
    rw [hst] at hf' hok'
    have hnx := h.next (M' := M.load t) (a' := ⟨.push ⟨2, t, l, n, M.word t, y, 0⟩, H, y⟩) g (.same e1 rfl) (by rw [e1]; exact hlen) hf' (by rw [wdSameS e1]; exact lnk_stay hch fun x _ => wdSameS e1 _) (List.Perm.refl _)
      ⟨⟨⟨rfl, rfl, rfl, rfl, rfl, y0, y1⟩, .inr (.inl ⟨rfl, .inl (wdSameS e1 t).symm⟩)⟩, hok'⟩
    refine ⟨?_, ?_, .inl ?_⟩
    · simp [stepG, hst]
    · have := hnx.2
      simp only [stepC, stepH, hst]
      simpa using this
    · simp only [stepC, hst]; exact wdSameS e1 t
  · have hw : IntKind.i64.wrap (l + y) = l + y := wrap_small (by omega) (by omega)
    obtain ⟨e1, e2⟩ := stoS (M := M) (x := l + y) (v := idxW n P.w + 1) (by omega) (by omega)
    have hst : stepPu P M = (⟨3, t, l, n, P.w, y, 0⟩, M.store (l + y) (idxW n P.w + 1)) := by
      unfold stepPu; rw [if_neg (by omega), if_pos h1]; simp only [ht, hs, hl, hy, he, hw]
    rw [hst] at hf' hok'
    have hword : ∀ z, 0 ≤ z → (M.store (l + y) (idxW n P.w + 1)).word z = if z = l + y then idxW n P.w + 1 else M.word z := fun z hz => wdSetS e1 (by omega) (by omega) hz
    have hwl : (M.store (l + y) (idxW n P.w + 1)).word (l + y) = idxW n P.w + 1 := by rw [hword _ (by omega), if_pos rfl]
    have hwt' : (M.store (l + y) (idxW n P.w + 1)).word t = M.word t := by rw [hword t g3, if_neg (by omega)]
    have hnd : (chainS M t l n ++ ((H ++ [y]) ++ (b.own ++ c.own))).Nodup := h.pm.nodup_iff.2 (nodup_iot n)
    have hyc : y ∉ chainS M t l n := fun hx => by
      rw [List.nodup_append] at hnd
      exact hnd.2.2 _ hx y (by simp) rfl
    have hCr := lnk_range hch
    have hnx := h.next (M' := M.store (l + y) (idxW n P.w + 1)) (a' := ⟨.push ⟨3, t, l, n, P.w, y, 0⟩, H, y⟩) g (.link (idxW n P.w + 1) ⟨P, rfl⟩ y0 y1 (fun z hz hne => by rw [hword z hz, if_neg hne]) rfl) (by rw [e1, List.length_set]; exact hlen) hf'
      (by rw [hwt']; exact lnk_stay hch fun x hx => by
            have := hCr x hx
            have hxy : x ≠ y := fun e => hyc (e ▸ hx)
            rw [hword _ (by omega), if_neg (by omega)]) (List.Perm.refl _)
      ⟨⟨⟨rfl, rfl, rfl, rfl, rfl, y0, y1⟩, .inr (.inr ⟨rfl, by
        rcases h3 with h3 | h3
        · exact .inl ⟨by rw [hwt']; exact h3, hwl⟩
        · exact .inr (by unfold old at *; rw [hwt']; exact h3)⟩)⟩, hok'⟩
    refine ⟨?_, ?_, .inl ?_⟩
    · simp [stepG, hst]
    · have := hnx.2
      simp only [stepC, stepH, hst]
      simpa using this
    · simp only [stepC, hst]; exact hwt'
  · rcases casS (M := M) (x := t) (w := P.w) (v := topW y P.w) g3 (by omega) with ⟨e0, e1, e2, e3⟩ | ⟨e0, e1, e2⟩
    · have hst : stepPu P M = (⟨9, t, l, n, P.w, y, 0⟩, M.cas t P.w (topW y P.w)) := by
        unfold stepPu; rw [if_neg (by omega), if_neg (by omega), if_pos h1]; simp only [ht, hs, hl, hy, he, e1, if_true]
      rw [hst] at hf' hok'
      rcases h3 with ⟨h3, h4⟩ | h3
      · have hword : ∀ z, 0 ≤ z → (M.cas t P.w (topW y P.w)).word z = if z = t then topW y P.w else M.word z := fun z hz => wdSetS e2 g3 (by omega) hz
        have htop := hword t g3
        rw [if_pos rfl] at htop
        have hCr := lnk_range hch
        have hlk : Lnk (M.cas t P.w (topW y P.w)) l n (idxW n ((M.cas t P.w (topW y P.w)).word t)) (y :: chainS M t l n) := by
          rw [htop, topW_idx (by omega) y1 g1 g2]
          refine ⟨rfl, y0, y1, ?_⟩
          rw [hword _ (by omega), if_neg (by omega), h4]
          have e5 : idxW n (idxW n P.w + 1) = idxW n P.w := by
            have := @idx_lo n P.w
            have h6 := this.2 g1
            generalize idxW n P.w = q at *
            unfold idxW
            split <;> omega
          rw [e5, h3]
          exact lnk_stay hch fun x hx => by
            have := hCr x hx
            rw [← h3, hword _ (by omega), if_neg (by omega)]
        have htg : (M.cas t P.w (topW y P.w)).word t / 65536 = M.word t / 65536 + 1 := by
          rw [htop, h3]; exact topW_tag (by omega) (by omega) hwt (by omega)
        have hnx := h.next (M' := M.cas t P.w (topW y P.w)) (a' := ⟨.none, H, y⟩) g (.swap htg ⟨e3, e1⟩) (by rw [e2, List.length_set]; exact hlen) hf' hlk (by
          show (y :: chainS M t l n ++ H).Perm (chainS M t l n ++ (H ++ [y]))
          rw [← List.append_assoc]
          exact List.perm_append_comm (l₁ := [y]) (l₂ := chainS M t l n ++ H)) ⟨trivial, trivial⟩
        refine ⟨?_, ?_, .inr ?_⟩
        · have := hnx.1
          simp only [stepG, stepC, hst, errPu, this]
          simp
        · have := hnx.2
          simp only [stepC, stepH, hst]
          simpa using this
        · simp only [stepC, hst]; exact ⟨e3, e1⟩
      · exfalso; unfold old at h3; omega
    · have hst : stepPu P M = (⟨1, t, l, n, P.w, y, 0⟩, M.cas t P.w (topW y P.w)) := by
        unfold stepPu; rw [if_neg (by omega), if_neg (by omega), if_pos h1]; simp only [ht, hs, hl, hy, he, e1]; simp
      rw [hst] at hf' hok'
      have hnx := h.next (M' := M.cas t P.w (topW y P.w)) (a' := ⟨.push ⟨1, t, l, n, P.w, y, 0⟩, H, y⟩) g (.same e2 rfl) (by rw [e2]; exact hlen) hf' (by rw [wdSameS e2]; exact lnk_stay hch fun x _ => wdSameS e2 _) (List.Perm.refl _)
        ⟨⟨⟨rfl, rfl, rfl, rfl, rfl, y0, y1⟩, .inl rfl⟩, hok'⟩
      refine ⟨?_, ?_, .inl ?_⟩
      · simp [stepG, hst]
      · have := hnx.2
        simp only [stepC, stepH, hst]
        simpa using this
      · simp only [stepC, hst]; exact wdSameS e2 t
theorem step_law {M : MemSt} {t l n k : Int} {a b c : CoreT} (g : Geo t l n) (h : SInv M t l n k a b c) (hk : k < 1000000) (ha : a.o ≠ .none) : StepL M t l n k a b c := by
  obtain ⟨o, H, y⟩ := a
  cases o with
  | none => exact absurd rfl ha
  | pop P => exact step_pop g h hk
  | push P => exact step_push g h hk
  | all P => exact step_all g h hk
/-- at which of three lines an operation is (3: its compare-and-swap is next), which word it loaded -/
def CoreP.ln : CoreP → Int
  | .none => 0
  | .pop P => P.line
  | .push P => P.line
  | .all P => if P.line = 1 then 1 else 3
def CoreP.wd : CoreP → Int
  | .none => 0
  | .pop P => P.w
  | .push P => P.w
  | .all P => P.w
theorem ln_range {M : MemSt} {t l n k : Int} {a b c : CoreT} (h : SInv M t l n k a b c) (ha : a.o ≠ .none) : a.o.ln = 1 ∨ a.o.ln = 2 ∨ a.o.ln = 3 := by
  obtain ⟨o, H, y⟩ := a
  have := h.ha.1
  cases o with
  | none => exact absurd rfl ha
  | pop P => obtain ⟨_, h1⟩ := this; simp only [CoreP.ln]; omega
  | push P => obtain ⟨_, h1⟩ := this; simp only [CoreP.ln]; omega
  | all P => obtain ⟨_, h1⟩ := this; simp only [CoreP.ln]; split <;> omega
structure ViewL (M M' : MemSt) (t : Int) (o o' : CoreP) : Prop where
  v1 : o.ln = 1 → o' = .none ∨ (o'.ln = 2 ∨ o'.ln = 3) ∧ o'.wd = M'.word t
  v2 : o.ln = 2 → o'.ln = 3 ∧ o'.wd = o.wd ∧ M'.word t = M.word t
  v3 : o.ln = 3 → o' = .none ∧ o.wd = M.word t ∨ o.wd ≠ M.word t ∧ o'.ln = 1
theorem step_view {M : MemSt} {t l n k : Int} {a b c : CoreT} (g : Geo t l n) (h : SInv M t l n k a b c) (ha : a.o ≠ .none) : ViewL M (stepC a.o M).2 t a.o (stepC a.o M).1 := by
  obtain ⟨o, H, y⟩ := a
  have hh := h.ha.1
  have hlen := h.len
  obtain ⟨g1, g2, g3, g4, g5, g6, g7⟩ := id g
  obtain ⟨e1, e2, e3⟩ := ldS (M := M) (x := t) g3 (by omega)
  have ew := wdSameS e1 t
  cases o with
  | none => exact absurd rfl ha
  | pop P =>
    obtain ⟨⟨ht, hl, hs⟩, hline⟩ := hh
    refine ⟨fun h1 => ?_, fun h1 => ?_, fun h1 => ?_⟩
    · have h1' : P.line = 1 := h1
      simp only [stepC, stepPo, h1', if_true, ht, hs, hl, e2]
      by_cases h3 : idxW n (M.word t) < 0
      · simp only [h3, if_true]; exact .inl trivial
      · simp only [h3, if_false]; exact .inr ⟨.inl rfl, ew.symm⟩
    · have h1' : P.line = 2 := h1
      have hb : 0 ≤ P.i ∧ P.i < n := by omega
      have hw : IntKind.i64.wrap (l + P.i) = l + P.i := wrap_small (by omega) (by omega)
      obtain ⟨f1, f2, f3⟩ := ldS (M := M) (x := l + P.i) (by omega) (by omega)
      simp only [stepC, stepPo, h1', ht, hs, hl, hw, f2]
      exact ⟨rfl, rfl, wdSameS f1 t⟩
    · have h1' : P.line = 3 := h1
      rcases casS (M := M) (x := t) (w := P.w) (v := topW P.j P.w) g3 (by omega) with ⟨f0, f1, f2, f3⟩ | ⟨f0, f1, f2⟩
      · refine .inl ⟨?_, f0.symm⟩
        simp only [stepC, stepPo, h1', ht, hs, hl, f1]
        rfl
      · refine .inr ⟨fun e => f0 e.symm, ?_⟩
        simp only [stepC, stepPo, h1', ht, hs, hl, f1]
        rfl
  | push P =>
    obtain ⟨⟨ht, hl, hs, hy, he, y0, y1⟩, hline⟩ := hh
    replace y0 : 0 ≤ y := y0
    replace y1 : y < n := y1
    replace hy : P.i = y := hy
    refine ⟨fun h1 => ?_, fun h1 => ?_, fun h1 => ?_⟩
    · have h1' : P.line = 1 := h1
      simp only [stepC, stepPu, h1', if_true, ht, hs, hl, e2]
      exact .inr ⟨.inl rfl, ew.symm⟩
    · have h1' : P.line = 2 := h1
      have hw : IntKind.i64.wrap (l + y) = l + y := wrap_small (by omega) (by omega)
      obtain ⟨f1, f2⟩ := stoS (M := M) (x := l + y) (v := idxW n P.w + 1) (by omega) (by omega)
      simp only [stepC, stepPu, h1', ht, hs, hl, hy, hw]
      exact ⟨rfl, rfl, (wdSetS f1 (by omega) (by omega) g3).trans (if_neg (by omega))⟩
    · have h1' : P.line = 3 := h1
      rcases casS (M := M) (x := t) (w := P.w) (v := topW P.i P.w) g3 (by omega) with ⟨f0, f1, f2, f3⟩ | ⟨f0, f1, f2⟩
      · refine .inl ⟨?_, f0.symm⟩
        simp only [stepC, stepPu, h1', ht, hs, hl, f1]
        rfl
      · refine .inr ⟨fun e => f0 e.symm, ?_⟩
        simp only [stepC, stepPu, h1', ht, hs, hl, f1]
        rfl
  | all P =>
    obtain ⟨⟨ht, hl, hs⟩, hline⟩ := hh
    refine ⟨fun h1 => ?_, fun h1 => ?_, fun h1 => ?_⟩
    · have h1' : P.line = 1 := by
        simp only [CoreP.ln] at h1
        by_cases h : P.line = 1
        · exact h
        · rw [if_neg h] at h1; omega
      simp only [stepC, stepAl, h1', if_true, ht, hs, hl, e2]
      by_cases h3 : idxW n (M.word t) < 0
      · simp only [h3, if_true]; exact .inl trivial
      · simp only [h3, if_false]; exact .inr ⟨.inr rfl, ew.symm⟩
    · exfalso
      simp only [CoreP.ln] at h1
      split at h1 <;> omega
    · have h1' : P.line = 2 := by
        simp only [CoreP.ln] at h1
        split at h1 <;> omega
      rcases casS (M := M) (x := t) (w := P.w) (v := topW (-1) P.w) g3 (by omega) with ⟨f0, f1, f2, f3⟩ | ⟨f0, f1, f2⟩
      · refine .inl ⟨?_, f0.symm⟩
        simp only [stepC, stepAl, h1', ht, hs, hl, f1]
        rfl
      · refine .inr ⟨fun e => f0 e.symm, ?_⟩
        simp only [stepC, stepAl, h1', ht, hs, hl, f1]
        rfl
/-- alone: how many steps were made, how many of the others' compare-and-swaps held meanwhile -/
def abOk (M : MemSt) (t : Int) (o : CoreP) (m q k : Int) : Prop := (0 ≤ m ∧ m ≤ k ∧ 0 ≤ q ∧ q ≤ k) ∧ (o = .none ∨ o.ln = 1 ∧ m ≤ 3 * q ∨ o.ln = 2 ∧ (o.wd = M.word t ∧ m ≤ 3 * q + 1 ∨ m + 2 ≤ 3 * q) ∨ o.ln = 3 ∧ (o.wd = M.word t ∧ m ≤ 3 * q + 2 ∨ m + 1 ≤ 3 * q))
theorem ab_step {M M' : MemSt} {t m q k : Int} {o o' : CoreP} (v : ViewL M M' t o o') (h : abOk M t o m q k) (ho : o ≠ .none) : m + 1 ≤ 3 * q + 3 ∧ abOk M' t o' (m + 1) q (k + 1) := by
  obtain ⟨⟨h0, h1, h2, h3⟩, h4⟩ := h
  obtain ⟨v1, v2, v3⟩ := v
  refine ⟨?_, ⟨by omega, by omega, h2, by omega⟩, ?_⟩
  · rcases h4 with h4 | h4 | h4 | h4
    · exact absurd h4 ho
    · omega
    · omega
    · omega
  · rcases h4 with h4 | ⟨h4, h5⟩ | ⟨h4, h5⟩ | ⟨h4, h5⟩
    · exact absurd h4 ho
    · rcases v1 h4 with e | ⟨e, e'⟩
      · exact .inl e
      · rcases e with e | e
        · exact .inr (.inr (.inl ⟨e, .inl ⟨e', by omega⟩⟩))
        · exact .inr (.inr (.inr ⟨e, .inl ⟨e', by omega⟩⟩))
    · obtain ⟨e, e', e''⟩ := v2 h4
      refine .inr (.inr (.inr ⟨e, ?_⟩))
      rw [e', e'']
      rcases h5 with ⟨h5, h6⟩ | h5
      · exact .inl ⟨h5, by omega⟩
      · exact .inr (by omega)
    · rcases v3 h4 with ⟨e, _⟩ | ⟨e, e'⟩
      · exact .inl e
      · refine .inr (.inl ⟨e', ?_⟩)
        rcases h5 with ⟨h5, _⟩ | h5
        · exact absurd h5 e
        · omega
theorem ab_other {M M' : MemSt} {t m q k q' : Int} {o : CoreP} (h : abOk M t o m q k) (hq : M'.word t = M.word t ∧ q' = q ∨ q' = q + 1) : abOk M' t o m q' (k + 1) := by
  obtain ⟨⟨h0, h1, h2, h3⟩, h4⟩ := h
  refine ⟨by omega, ?_⟩
  rcases hq with ⟨e, rfl⟩ | rfl
  · rw [e]; exact h4
  · rcases h4 with h4 | ⟨h4, h5⟩ | ⟨h4, h5⟩ | ⟨h4, h5⟩
    · exact .inl h4
    · exact .inr (.inl ⟨h4, by omega⟩)
    · exact .inr (.inr (.inl ⟨h4, .inr (by omega)⟩))
    · exact .inr (.inr (.inr ⟨h4, .inr (by omega)⟩))
/-- alone: how many steps are left at most -/
def remC (M : MemSt) (t : Int) (o : CoreP) : Int := if o.ln = 1 then 3 else if o.ln = 2 then (if o.wd = M.word t then 2 else 5) else if o.ln = 3 then (if o.wd = M.word t then 1 else 4) else 0
theorem rem_le {M : MemSt} {t : Int} {o : CoreP} : 0 ≤ remC M t o ∧ remC M t o ≤ 5 := by
  unfold remC
  repeat' split
  all_goals omega
theorem rem_pos {M : MemSt} {t l n k : Int} {a b c : CoreT} (h : SInv M t l n k a b c) (ha : a.o ≠ .none) : 1 ≤ remC M t a.o := by
  have := ln_range h ha
  unfold remC
  repeat' split
  all_goals omega
theorem rem_none {M : MemSt} {t : Int} : remC M t .none = 0 := rfl
theorem rem_step {M M' : MemSt} {t : Int} {o o' : CoreP} (v : ViewL M M' t o o') (hl : o.ln = 1 ∨ o.ln = 2 ∨ o.ln = 3) : remC M' t o' + 1 ≤ remC M t o := by
  obtain ⟨v1, v2, v3⟩ := v
  rcases hl with h | h | h
  · have e : remC M t o = 3 := by unfold remC; rw [if_pos h]
    rw [e]
    rcases v1 h with rfl | ⟨e, e'⟩
    · rw [rem_none]; omega
    · unfold remC
      rw [e']
      rcases e with e | e <;> rw [e] <;> simp
  · obtain ⟨e, e', e''⟩ := v2 h
    unfold remC
    rw [e, e', e'', h]
    simp
    split <;> omega
  · rcases v3 h with ⟨rfl, e⟩ | ⟨e, e'⟩
    · rw [rem_none]
      unfold remC
      rw [h, e]; simp
    · unfold remC
      rw [e', h]
      simp [e]
theorem begin_pop {M : MemSt} {t l n k : Int} {b c : CoreT} {H : List Int} {y : Int} (h : SInv M t l n k ⟨.none, H, y⟩ b c) : SInv M t l n k ⟨.pop (newPo t l n), H, y⟩ b c :=
  ⟨h.len, h.fine, h.tag, h.ch, h.pm, ⟨⟨⟨rfl, rfl, rfl⟩, .inl rfl⟩, ⟨.inl rfl, isW0, by show (-1:Int) ≤ 0; omega, by show (0:Int) ≤ 65534; omega⟩⟩, h.hb, h.hc⟩
theorem begin_all {M : MemSt} {t l n k : Int} {b c : CoreT} {H : List Int} {y : Int} (h : SInv M t l n k ⟨.none, H, y⟩ b c) : SInv M t l n k ⟨.all (newAl t l n), H, y⟩ b c :=
  ⟨h.len, h.fine, h.tag, h.ch, h.pm, ⟨⟨⟨rfl, rfl, rfl⟩, .inl rfl⟩, ⟨.inl rfl, isW0⟩⟩, h.hb, h.hc⟩
theorem begin_push {M : MemSt} {t l n k : Int} {b c : CoreT} {H : List Int} {y x : Int} (g : Geo t l n) (h : SInv M t l n k ⟨.none, H ++ [x], y⟩ b c) : SInv M t l n k ⟨.push (newPu t l n x), H, x⟩ b c := by
  have hx := own_range h x (show x ∈ H ++ [x] by simp)
  have e : newPu t l n x = ⟨1, t, l, n, 0, x, 0⟩ := by unfold newPu; rw [if_neg (by omega)]
  have := g.n2
  rw [e]
  exact ⟨h.len, h.fine, h.tag, h.ch, h.pm, ⟨⟨⟨rfl, rfl, rfl, rfl, rfl, hx⟩, .inl rfl⟩, ⟨.inl ⟨.inl rfl, rfl⟩, isW0, hx.1, by show x ≤ 65534; omega⟩⟩, h.hb, h.hc⟩
/-- is that all, each once? -/
def allB (L : List Int) (n : Int) : Bool := decide (∀ x ∈ L, 0 ≤ x ∧ x < n) && decide L.Nodup && decide ((L.length : Int) = n)
theorem all_ok {M : MemSt} {t l n k : Int} {a b c : CoreT} (g : Geo t l n) (h : SInv M t l n k a b c) : allB (chainS M t l n ++ (a.own ++ (b.own ++ c.own))) n = true := by
  have h1 : ∀ x ∈ chainS M t l n ++ (a.own ++ (b.own ++ c.own)), 0 ≤ x ∧ x < n := fun x hx => mem_iot.1 (h.pm.mem_iff.1 hx)
  have h2 : (chainS M t l n ++ (a.own ++ (b.own ++ c.own))).Nodup := h.pm.nodup_iff.2 (nodup_iot n)
  have h3 : ((chainS M t l n ++ (a.own ++ (b.own ++ c.own))).length : Int) = n := by rw [h.pm.length_eq, len_iot]; have := g.n1; omega
  simp only [allB, decide_eq_true h1, decide_eq_true h2, decide_eq_true h3, Bool.and_self]
def lnkB (M : MemSt) (l n : Int) : Int → List Int → Bool
  | i, [] => decide (i = -1)
  | i, x :: xs => decide (i = x) && (decide (0 ≤ x) && (decide (x < n) && lnkB M l n (idxW n (M.word (l + x))) xs))
theorem lnkB_spec {M : MemSt} {l n : Int} : ∀ {C : List Int} {i : Int}, lnkB M l n i C = true → Lnk M l n i C
  | [], i, h => by
    simp only [lnkB, decide_eq_true_eq] at h
    exact h
  | x :: C, i, h => by
    simp only [lnkB, Bool.and_eq_true, decide_eq_true_eq] at h
    exact ⟨h.1, h.2.1, h.2.2.1, lnkB_spec h.2.2.2⟩
def initB (t l n : Int) : Bool :=
  let M := fillSt (MemSt.new 20) t l n
  decide (M.W.length = 20) && (M.W.all (fun x => decide (0 ≤ x) && decide (x < 18446744073709551616)) && (decide (M.word t / 65536 ≤ 0) && (lnkB M l n (idxW n (M.word t)) (chainS M t l n) && decide (chainS M t l n = iot n))))
theorem initB_all : (List.range 12).all (fun k => initB 0 1 (k + 1 : Nat) && initB 2 4 (k + 1 : Nat)) = true := by kernel_rfl
theorem init_ok {t l n : Int} (h : initB t l n = true) {y0 y1 y2 : Int} : SInv (fillSt (MemSt.new 20) t l n) t l n 0 ⟨.none, [], y0⟩ ⟨.none, [], y1⟩ ⟨.none, [], y2⟩ := by
  simp only [initB, Bool.and_eq_true, decide_eq_true_eq, List.all_eq_true] at h
  obtain ⟨h1, h2, h3, h4, h5⟩ := h
  exact ⟨h1, ⟨by omega, fun x hx => h2 x hx⟩, h3, lnkB_spec h4, by rw [h5]; show (iot n ++ []).Perm (iot n); rw [List.append_nil], ⟨trivial, trivial⟩, ⟨trivial, trivial⟩, ⟨trivial, trivial⟩⟩
theorem init_both {n : Int} (h0 : 1 ≤ n) (h1 : n ≤ 12) : initB 0 1 n = true ∧ initB 2 4 n = true := by
  have := List.all_eq_true.1 initB_all (n - 1).toNat (by simp; omega)
  rw [show (((n - 1).toNat + 1 : Nat) : Int) = n by omega] at this
  simpa only [Bool.and_eq_true] using this
end Go.Proofs.Ytdabdbbgaekmdaa
