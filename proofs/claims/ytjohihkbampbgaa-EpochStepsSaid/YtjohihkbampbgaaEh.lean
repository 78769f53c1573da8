/- Epochs: the chapter's law beside the document: what the contracts say. -/
import Derived.Test.YtjohihkbampbgaaEgT
import Derived.Test.YtjohihkbampbgaaEeV
namespace Go.Proofs.Ytjohihkbampbgaa
set_option linter.unusedVariables false
set_option linter.unusedSimpArgs false
set_option linter.unusedSectionVars false
open Go Go.RowKit

theorem out_qlast (M : MemSt) : cQLast.out [.u (.rmem M)] = [.u (.rmem M), .i M.k, .i M.a, .i M.o, .i M.n, .b M.h] := rfl
theorem out_qcount (M : MemSt) : cQCount.out [.u (.rmem M)] = [.u (.rmem M), .i M.N] := rfl
theorem out_qnew {n : Int} (h : 1 ≤ n) (h1 : n ≤ 4096) : cQNew.out [.i n] = [.u (.rmem (.new n)), .i 0] := by simp [cQNew, h, h1]
theorem pre_sw {M : MemSt} {c : List Int} (h : M.W.length ≤ 4096) : cSameWords.pre [.l M.W, .l (M.W ++ c), .i M.W.length, .i M.W.length, .i M.W.length, .i ((M.W.length + c.length : Nat) : Int)] :=
  pre_same (by omega) (by omega) (by omega) (by simp; omega) (by omega)
theorem out_sw {M : MemSt} {c : List Int} : cSameWords.out [.l M.W, .l (M.W ++ c), .i M.W.length, .i M.W.length, .i M.W.length, .i ((M.W.length + c.length : Nat) : Int)] = [.b true] := by
  rw [out_same]; simp
theorem pick4 {x : Int} : x.emod 4 = 0 ∨ x.emod 4 = 1 ∨ x.emod 4 = 2 ∨ x.emod 4 = 3 := by
  have := Int.emod_nonneg x (show (4 : Int) ≠ 0 by decide)
  have := Int.emod_lt_of_pos x (show (0 : Int) < 4 by decide)
  show x % 4 = 0 ∨ x % 4 = 1 ∨ x % 4 = 2 ∨ x % 4 = 3
  omega
theorem qwords {M : MemSt} {k : Tree} {env : List (EV U)} {X : Cx U} {R : List (EV U) → List (EV U) → Prop} {ci : Nat} {β : List Bnd} (hc : X.cts[ci]? = some cQWords) (ha : β.map (Bnd.den env) = [.u (.rmem M)]) (h : 1 ≤ M.W.length) (h1 : M.W.length ≤ 4096)
    (hk : ∀ (c : List Int) (env' : List (EV U)), env ++ [.u (.rmem M), .l (M.W ++ c), .i M.W.length, .i ((M.W.length + c.length : Nat) : Int)] = env' → k.sat X R env') : (Tree.callm ci β k).sat X R env :=
  st_callm hc ha ⟨_, rfl, h, h1⟩ (fun o env' ho he => by obtain ⟨c, rfl⟩ := ho; exact hk c env' he)
theorem fine_le {M : MemSt} (h : M.fine) : M.W.length ≤ 4096 := h.1
theorem len_may {o : CoreE} {M : MemSt} {s : Bool} : (o.may M s).2.W.length = M.W.length := by
  unfold CoreE.may
  split
  · rcases o with _ | P | P | P
    · rfl
    · show (stepEP P M).2.W.length = _
      unfold stepEP
      split
      · exact len_acc ..
      · split
        · exact len_acc ..
        · split
          · split <;> exact len_acc ..
          · rfl
    · show (stepEU P M).2.W.length = _
      unfold stepEU
      split
      · exact len_acc ..
      · rfl
    · show (stepEA P M).2.W.length = _
      unfold stepEA
      split
      · exact len_acc ..
      · split
        · exact len_acc ..
        · split
          · show (M.cas _ _ _).W.length = _
            unfold MemSt.cas
            split <;> exact len_acc ..
          · rfl
  · rfl
theorem len_fillE (M : MemSt) (a b n : Int) : (fillE M a b n).W.length = M.W.length := by
  unfold fillE
  split
  · rw [len_fill, MemSt.store, len_acc]
  · rfl
theorem out_told (o : CoreE) (M : MemSt) (s : Bool) : cTold.out [.u (coA o), .u (coB o), .u (coC o), .u (coD o), .u (coE o), .u (coF o), .u (.mem M), .u (.rmem M), .b s] = [.u (coA (o.may M s).1), .u (coB (o.may M s).1), .u (coC (o.may M s).1), .u (coD (o.may M s).1), .u (coE (o.may M s).1), .u (coF (o.may M s).1), .u (.mem (o.may M s).2), .u (.rmem (o.may M s).2), .b true] := by cases o <;> rfl
theorem out_told1 (x y m w s : EV U) : cTold1.out [x, y, m, w, s] = [x, y, m, w, .b true] := rfl
theorem out_told2 (x y m w s : EV U) : cTold2.out [x, y, m, w, s] = [x, y, m, w, .b true] := rfl
theorem out_told3 (x y m w s : EV U) : cTold3.out [x, y, m, w, s] = [x, y, m, w, .b true] := rfl
theorem out_enewpin (a b n c : Int) : cENewPin.out [.i a, .i b, .i n, .i c] = [.u (.epin (newEP a b n c))] := rfl
theorem out_qnewpin (a b n c : Int) : cQNewPin.out [.i a, .i b, .i n, .i c] = [.u (.repin (newEP a b n c))] := rfl
theorem out_enewunp (a b n c : Int) : cENewUnp.out [.i a, .i b, .i n, .i c] = [.u (.eunp (newEU b n c))] := rfl
theorem out_qnewunp (a b n c : Int) : cQNewUnp.out [.i a, .i b, .i n, .i c] = [.u (.reunp (newEU b n c))] := rfl
theorem out_enewadv (a b n c p : Int) : cENewAdv.out [.i a, .i b, .i n, .i c, .i p] = [.u (.eadv (newEA a b n c p))] := rfl
theorem out_qnewadv (a b n c p : Int) : cQNewAdv.out [.i a, .i b, .i n, .i c, .i p] = [.u (.readv (newEA a b n c p))] := rfl
theorem out_enow (M : MemSt) (a b n : Int) : cENow.out [.u (.mem M), .i a, .i b, .i n] = [.u (.mem M), .i (u32 (M.at0 a))] := rfl
theorem out_qenow (M : MemSt) (a b n : Int) : cQENow.out [.u (.rmem M), .i a, .i b, .i n] = [.u (.rmem M), .i (u32 (M.at0 a))] := rfl
theorem out_efill (M : MemSt) (a b n : Int) : cEFill.out [.u (.mem M), .i a, .i b, .i n] = [.u (.mem (fillE M a b n))] := rfl
theorem out_qefill (M : MemSt) (a b n : Int) : cQEFill.out [.u (.rmem M), .i a, .i b, .i n] = [.u (.rmem (fillE M a b n))] := rfl
theorem out_efits (a b n s : Int) : cEFits.out [.i a, .i b, .i n, .i s] = [.i (fitsE a b n s)] := rfl
theorem out_qefits (a b n s : Int) : cQEFits.out [.i a, .i b, .i n, .i s] = [.i (fitsE a b n s)] := rfl
theorem pre_si {M : MemSt} {b : Int} {n : Int} {c d : List Int} (h : n ≤ 64) : cSameInts.pre [.l (pinnedL M b (manyE n) ++ c), .l (pinnedL M b (manyE n) ++ d), .i (manyE n), .i ((manyE n + c.length : Nat) : Int), .i (manyE n), .i ((manyE n + d.length : Nat) : Int)] :=
  ⟨_, _, _, _, _, _, rfl, by omega, by rw [List.length_append, pinned_len]; omega, by omega, by rw [List.length_append, pinned_len]; omega, by have := manyE_le n; omega⟩
theorem take_pin (M : MemSt) (b : Int) (k : Nat) (c : List Int) : (pinnedL M b k ++ c).take k = pinnedL M b k := by
  rw [List.take_append_of_le_length (by rw [pinned_len]; omega), List.take_of_length_le (by rw [pinned_len]; omega)]
theorem out_si {M : MemSt} {b : Int} {n : Int} {c d : List Int} {x y : EV U} : cSameInts.out [.l (pinnedL M b (manyE n) ++ c), .l (pinnedL M b (manyE n) ++ d), .i (manyE n), x, .i (manyE n), y] = [.b true] := by
  show [EV.b (decide (List.take ((manyE n : Nat) : Int).toNat (pinnedL M b (manyE n) ++ c) = List.take ((manyE n : Nat) : Int).toNat (pinnedL M b (manyE n) ++ d)))] = _
  rw [Int.toNat_natCast, take_pin, take_pin]; simp
theorem pre_oi {M : MemSt} {b : Int} {n : Int} {c : List Int} {x : Int} (h : n ≤ 64) : cOverInts.pre [.l (pinnedL M b (manyE n) ++ c), .i (manyE n), .i x] :=
  ⟨_, _, _, rfl, by omega, by rw [List.length_append, pinned_len]; omega, by have := manyE_le n; omega⟩
theorem out_oi (xs : List Int) (a : Int) (c : EV U) : cOverInts.out [.l xs, .i a, c] = [.l (List.replicate a.toNat (-77) ++ xs.drop a.toNat)] := rfl
section
variable {M : MemSt} {k : Tree} {env : List (EV U)} {X : Cx U} {R : List (EV U) → List (EV U) → Prop} {ci : Nat} {β : List Bnd} {a b n : Int}
theorem st_epinned (hc : X.cts[ci]? = some cEPinned) (ha : β.map (Bnd.den env) = [.u (.mem M), .i a, .i b, .i n])
    (hk : ∀ (c : List Int) (env' : List (EV U)), env ++ [.u (.mem M), .l (pinnedL M b (manyE n) ++ c), .i (manyE n), .i ((manyE n + c.length : Nat) : Int)] = env' → k.sat X R env') : (Tree.callm ci β k).sat X R env :=
  st_callm hc ha ⟨_, _, _, _, rfl⟩ (fun o env' ho he => by obtain ⟨c, rfl⟩ := ho; exact hk c env' he)
theorem st_qpinned (hc : X.cts[ci]? = some cQEPinned) (ha : β.map (Bnd.den env) = [.u (.rmem M), .i a, .i b, .i n]) (hM : M.fine)
    (hk : ∀ (c : List Int) (env' : List (EV U)), env ++ [.u (.rmem M), .l (pinnedL M b (manyE n) ++ c), .i (manyE n), .i ((manyE n + c.length : Nat) : Int)] = env' → k.sat X R env') : (Tree.callm ci β k).sat X R env :=
  st_callm hc ha ⟨_, _, _, _, rfl, hM⟩ (fun o env' ho he => by obtain ⟨c, rfl⟩ := ho; exact hk c env' he)
end
section
variable {k : Tree} {env env' : List (EV U)} {X : Cx U} {R : List (EV U) → List (EV U) → Prop}
theorem mk_epinNil (hX : X.objs = objs) (he : env ++ [.u .epinNil] = env') (hk : k.sat X R env') : (Tree.ext (.mk 13 []) k).sat X R env := st_mk (T := epinNilT) (by rw [hX]; rfl) rfl rfl he hk
theorem mk_repinNil (hX : X.objs = objs) (he : env ++ [.u .repinNil] = env') (hk : k.sat X R env') : (Tree.ext (.mk 15 []) k).sat X R env := st_mk (T := repinNilT) (by rw [hX]; rfl) rfl rfl he hk
theorem mk_eunpNil (hX : X.objs = objs) (he : env ++ [.u .eunpNil] = env') (hk : k.sat X R env') : (Tree.ext (.mk 18 []) k).sat X R env := st_mk (T := eunpNilT) (by rw [hX]; rfl) rfl rfl he hk
theorem mk_reunpNil (hX : X.objs = objs) (he : env ++ [.u .reunpNil] = env') (hk : k.sat X R env') : (Tree.ext (.mk 20 []) k).sat X R env := st_mk (T := reunpNilT) (by rw [hX]; rfl) rfl rfl he hk
theorem mk_eadvNil (hX : X.objs = objs) (he : env ++ [.u .eadvNil] = env') (hk : k.sat X R env') : (Tree.ext (.mk 23 []) k).sat X R env := st_mk (T := eadvNilT) (by rw [hX]; rfl) rfl rfl he hk
theorem mk_readvNil (hX : X.objs = objs) (he : env ++ [.u .readvNil] = env') (hk : k.sat X R env') : (Tree.ext (.mk 25 []) k).sat X R env := st_mk (T := readvNilT) (by rw [hX]; rfl) rfl rfl he hk
end
end Go.Proofs.Ytjohihkbampbgaa
