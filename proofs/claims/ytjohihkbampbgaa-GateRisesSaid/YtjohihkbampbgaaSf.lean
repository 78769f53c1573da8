/- The symbolic executor: the operations that change nothing, one by one. No program is named here. -/
import Derived.Test.YtjohihkbampbgaaSe
import Derived.Laws.StructEq
import Derived.WalkKit
namespace Go.Proofs.Ytjohihkbampbgaa
set_option linter.unusedVariables false
set_option linter.unusedSimpArgs false
set_option linter.unusedSectionVars false
open Go

section
variable {U : Type} [Nil U] {env : List (EV U)} {ρ : List Value} {P : Program} {hp : List HE} {W : World → Prop} {w1 : World}

theorem cellOk_spec (hr : Reads env ρ hp w1) {v : SV} {c : Value} (h : cellOk hp v = true) (hd : Rel env ρ v c) : Den env ρ v c ∧ c.oneCell' = true ∧ c.cells = #[c] := by
  have hj : v ≠ .junk := by intro e; subst e; simp [cellOk, SV.one] at h
  have hd := hd.den hj
  refine ⟨hd, ?_⟩
  have hc := hd.now.symm
  cases v with
  | hnd n =>
    simp only [cellOk] at h
    split at h
    · rename_i i hn
      obtain ⟨_, s, _, h1, h2⟩ := hr n _ hn
      simp only [SV.den] at hc
      cases hs : Nil.isNil s
      · obtain ⟨a, ha⟩ := h2 hs; rw [hc, ha]; exact ⟨rfl, rfl⟩
      · rw [hc, h1 hs]; exact ⟨rfl, rfl⟩
    · cases h
  | agg l => simp [cellOk, SV.one] at h
  | tuple l => simp [cellOk, SV.one] at h
  | rowv k i => simp [cellOk, SV.one] at h
  | junk => exact absurd rfl hj
  | _ => rw [hc]; exact ⟨rfl, rfl⟩

theorem flat_spec (hr : Reads env ρ hp w1) {v : SV} {c : Value} (h : v.flat.all (cellOk hp) = true) (hd : Rel env ρ v c) :
    DenL env ρ v.flat c.cells.toList ∧ ∀ x ∈ c.cells.toList, x.oneCell' = true := by
  unfold SV.flat at h ⊢
  split at h
  · rename_i l
    obtain ⟨cs, rfl, hl⟩ := den_agg (hd.den (by simp))
    refine ⟨by simpa [Value.cells] using hl, fun x hx => ?_⟩
    simp only [Value.cells] at hx
    obtain ⟨i, hi⟩ := List.getElem?_of_mem hx
    have hlen := hl.len
    have hlt : i < l.length := by rw [hlen]; exact (List.getElem?_eq_some_iff.1 hi).1
    obtain ⟨c', hc', hd'⟩ := hl.get (List.getElem?_eq_getElem hlt)
    rw [hi] at hc'; injection hc' with hc'; subst hc'
    exact (cellOk_spec hr (List.all_eq_true.1 h _ (List.getElem_mem hlt)) (.inr hd')).2.1
  · have h1 : cellOk hp v = true := by simpa using h
    obtain ⟨hden, ho, hc⟩ := cellOk_spec hr h1 hd
    rw [hc]
    exact ⟨DenL.one hden, by simpa using ho⟩

theorem zeroT_spec {t : TypeId} {l : List SV} (h : zeroT P t = some l) : ∃ z : Value, (∀ w, (zeroValue t).run P w = .ok z w) ∧ DenL env ρ l z.cells.toList := by
  unfold zeroT at h
  split at h
  · rename_i z hz
    cases hi : P.info? t with
    | none => simp [hi] at hz
    | some i =>
      simp only [hi, Option.bind_some] at hz
      refine ⟨z, fun w => by simp [zeroValue, typeInfo, hi, hz], ?_⟩
      dsimp only at h
      split at h
      · rename_i hs
        injection h with h
        subst h
        generalize z.cells.toList = cs at hs
        clear hz
        induction cs with
        | nil => exact DenL.nil
        | cons c cs ih =>
          simp only [List.map_cons, SV.sureL, Bool.and_eq_true] at hs
          have := ofAtom_rel (env := env) (ρ := ρ) c
          exact DenL.cons (this.den (by intro e; rw [e] at hs; simp [SV.sure] at hs)) (ih hs.2)
      · cases h
  · cases h

theorem splice_spec {cells us l : List SV} {off : Nat} {cs ds : List Value} (h : splice cells off us = some l) (hc : DenL env ρ cells cs) (hu : DenL env ρ us ds) :
    off + ds.length ≤ cs.length ∧ DenL env ρ l (cs.take off ++ ds ++ cs.drop (off + ds.length)) := by
  unfold splice at h
  split at h
  · rename_i hle
    injection h with h
    subst h
    have h1 := hc.len; have h2 := hu.len
    refine ⟨by omega, ?_⟩
    rw [← h2]
    exact ((hc.take off).append hu).append (hc.drop _)
  · cases h

theorem foldl_set (off : Nat) : ∀ (l : List Value) (k : Nat) (cs : Array Value), off + k + l.length ≤ cs.size →
    ((l.zipIdx k).foldl (fun cs (c, j) => cs.setIfInBounds (off + j) c) cs).toList = cs.toList.take (off + k) ++ l ++ cs.toList.drop (off + k + l.length)
  | [], k, cs, h => by simp
  | v :: l, k, cs, h => by
    simp only [List.length_cons] at h
    have ih := foldl_set off l (k + 1) (cs.setIfInBounds (off + k) v) (by simp; omega)
    simp only [List.zipIdx_cons, List.foldl_cons]
    rw [ih]
    have e := list_seg_step cs.toList (off + k) v l (by simp; omega)
    simpa [Array.toList_setIfInBounds, Nat.add_assoc, Nat.add_comm, Nat.add_left_comm] using e

theorem fillS_spec (hr : Reads env ρ hp w1) {pl pl' : Nat → Option (Nat × Nat)} (hpl : ∀ i x, pl i = some x → pl' i = some x) : ∀ (parts : List (Nat × SV)) (vparts : List (Nat × Value)) (cells l : List SV) (cs : List Value),
    parts.length = vparts.length → (∀ (j : Nat) p q, parts[j]? = some p → vparts[j]? = some q → p.1 = q.1 ∧ Rel env ρ p.2 q.2) → fillS hp pl cells parts = some l → DenL env ρ cells cs →
    ∃ cs', Instr.fill pl' cs.toArray vparts = some cs'.toArray ∧ DenL env ρ l cs' ∧ cs'.length = cs.length
  | [], vparts, cells, l, cs, hl, _, h, hd => by
    simp only [fillS, Option.some.injEq] at h
    subst h
    cases vparts with
    | nil => exact ⟨cs, rfl, hd, rfl⟩
    | cons _ _ => simp at hl
  | (i, v) :: rest, vparts, cells, l, cs, hl, hrel, h, hd => by
    cases vparts with
    | nil => simp at hl
    | cons q vrest =>
      obtain ⟨e1, e2⟩ := hrel 0 _ _ rfl rfl
      obtain ⟨i', c⟩ := q
      simp only at e1 e2
      subst e1
      simp only [fillS] at h
      split at h
      · cases h
      · rename_i off size hp1
        split at h
        · cases h
        · rename_i hcond
          simp only [ne_eq, Bool.or_eq_true, decide_eq_true_eq, Bool.not_eq_true', not_or, Decidable.not_not, Bool.not_eq_false] at hcond
          obtain ⟨hsz, hall⟩ := hcond
          split at h
          · rename_i c' hs
            obtain ⟨hfl, _⟩ := flat_spec hr hall e2
            obtain ⟨hle, hd'⟩ := splice_spec hs hd hfl
            obtain ⟨cs', h1, h2, h3⟩ := fillS_spec hr hpl rest vrest c' l _ (by simpa using hl) (fun j p q hp hq => hrel (j + 1) p q hp hq) h hd'
            refine ⟨cs', ?_, h2, by rw [h3]; simp; simp at hle; omega⟩
            have hlen := hfl.len
            simp only [Instr.fill, hpl i _ hp1]
            have hcs : c.cells.size = size := by rw [← hsz, hlen]; simp
            have hle' : off + c.cells.size ≤ cs.length := by simpa using hle
            have hb : (decide ¬ c.cells.size = size || decide (off + c.cells.size > cs.toArray.size)) = false := by
              simp [hcs]; omega
            rw [← h1]
            have hnot : ¬ ((c.cells.size ≠ size || off + c.cells.size > cs.toArray.size) = true) := by
              simp [hcs]; omega
            rw [if_neg hnot]
            congr 1
            apply Array.toList_inj.1
            have := foldl_set off c.cells.toList 0 cs.toArray (by simpa using hle')
            simp only [Nat.add_zero] at this
            rw [← Array.foldl_toList, Array.toList_zipIdx, this]
          · cases h

theorem placeT_spec {t : TypeId} {pl : Nat → Option (Nat × Nat)} (h : placeT P t = some pl) {z : Value} (hz : ∀ w, (zeroValue t).run P w = .ok z w) {parts : Array (Nat × Value)} {cs : List Value}
    (hf : ∀ pl', (∀ i x, pl i = some x → pl' i = some x) → Instr.fill pl' z.cells parts.toList = some cs.toArray) (w : World) :
    (Instr.build t parts).run P w = .ok (.agg cs.toArray) w := by
  unfold placeT at h
  split at h
  · rename_i fields hu
    split at h
    case isFalse => cases h
    rename_i hm0
    have hm : ∀ f ∈ fields.toList, (sizeT P f.type).isSome = true := fun f hf => List.all_eq_true.1 hm0 f hf
    injection h with h
    have hmap : ∃ ps : Array (Nat × Nat), (fields.mapM fun (f : Field) => (Functor.map (Prod.mk f.offset) (sizeOf f.type) : Sem (Nat × Nat))).run P w = .ok ps w ∧ ∀ (i : Nat) (f : Field), fields[i]? = some f → ∃ s, sizeT P f.type = some s ∧ ps[i]? = some (f.offset, s) := by
      rw [Array.mapM_eq_mapM_toList]
      have key : ∀ l : List Field, (∀ f ∈ l, (sizeT P f.type).isSome = true) → ∃ ps : List (Nat × Nat), (l.mapM fun (f : Field) => (Functor.map (Prod.mk f.offset) (sizeOf f.type) : Sem (Nat × Nat))).run P w = .ok ps w ∧ ∀ (i : Nat) (f : Field), l[i]? = some f → ∃ s, sizeT P f.type = some s ∧ ps[i]? = some (f.offset, s) := by
        intro l
        induction l with
        | nil => intro _; exact ⟨[], by simp, by simp⟩
        | cons f l ih =>
          intro hall
          obtain ⟨ps, h1, h2⟩ := ih (fun g hg => hall g (by simp [hg]))
          have hs := hall f (by simp)
          cases hsz : sizeT P f.type with
          | none => simp [hsz] at hs
          | some s =>
            refine ⟨(f.offset, s) :: ps, by simp [sizeT_run hsz, h1], fun i g hg => ?_⟩
            cases i with
            | zero => simp at hg; subst hg; exact ⟨s, hsz, rfl⟩
            | succ i => simpa using h2 i g (by simpa using hg)
      obtain ⟨ps, h1, h2⟩ := key fields.toList hm
      refine ⟨ps.toArray, by simp [h1], fun i f hf => ?_⟩
      simpa using h2 i f (by simpa using hf)
    obtain ⟨ps, h1, h2⟩ := hmap
    have hfl := hf (fun i => ps[i]?) (fun i x hx => by
      rw [← h] at hx
      dsimp only at hx
      split at hx
      · rename_i f hfi
        obtain ⟨s, e1, e2⟩ := h2 i f hfi
        simp [e1] at hx
        rw [e2, ← hx]
      · cases hx)
    simp [Instr.build, hz, run_underlying hu, h1, hfl]
  · rename_i n elem hu
    simp only [Option.map_eq_some_iff] at h
    obtain ⟨s, hs, rfl⟩ := h
    have hfl := hf (fun i => some (i * s, s)) (fun i x hx => hx)
    simp [Instr.build, hz, run_underlying hu, sizeT_run hs, hfl]
  · cases h
end
end Go.Proofs.Ytjohihkbampbgaa
