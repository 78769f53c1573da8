/- Stacks: the chapter's law beside the document: what the contracts say. -/
import Derived.Test.YtdabdbbgaekmdaaKtT
namespace Go.Proofs.Ytdabdbbgaekmdaa
set_option linter.unusedVariables false
set_option linter.unusedSimpArgs false
set_option linter.unusedSectionVars false
open Go Go.RowKit

theorem hctsKG : ∀ (ci : Nat) (c : Ctr U), ctsKG[ci]? = some c → c.Holds objs Try.prog := ctsApp hctsSA (by
  intro ci c h
  match ci, h with
  | 0, h => cases h; exact hQSFits
  | 1, h => cases h; exact hRNew
  | 2, h => cases h; exact hRSFill
  | 3, h => cases h; exact hRStore
  | 4, h => cases h; exact hRChain
  | 5, h => cases h; exact hQNewPo
  | 6, h => cases h; exact hQNewPu
  | 7, h => cases h; exact hQNewAl
  | 8, h => cases h; exact hToldS
  | 9, h => cases h; exact hToldS1
  | 10, h => cases h; exact hToldS2
  | 11, h => cases h; exact hToldS3
  | 12, h => cases h; exact hOverInts
  | n + 13, h => cases h)
theorem pick4 {x : Int} : x.emod 4 = 0 ∨ x.emod 4 = 1 ∨ x.emod 4 = 2 ∨ x.emod 4 = 3 := by
  have := Int.emod_nonneg x (show (4 : Int) ≠ 0 by decide)
  have := Int.emod_lt_of_pos x (show (0 : Int) < 4 by decide)
  show x % 4 = 0 ∨ x % 4 = 1 ∨ x % 4 = 2 ∨ x % 4 = 3
  omega
theorem fitsS_ok {a b n s : Int} (h : fitsS a b n s = 0) : 1 ≤ s ∧ s ≤ 4096 ∧ 1 ≤ n ∧ n ≤ 4096 := by
  unfold fitsS at h
  split at h
  · omega
  · split at h
    · omega
    · omega
theorem may_false (o : CoreS) (M : MemSt) : o.may M false = (o, M) := rfl
theorem pre_ww {M : MemSt} (h : M.fine) : cSameWords.pre [.l M.W, .l M.W, .i M.W.length, .i M.W.length, .i M.W.length, .i M.W.length] :=
  pre_same (by omega) (by omega) (by omega) (by omega) (by have := h.1; omega)
theorem out_ww {M : MemSt} : cSameWords.out [.l M.W, .l M.W, .i M.W.length, .i M.W.length, .i M.W.length, .i M.W.length] = [.b true] := by
  rw [out_same]; simp
theorem len_stepPo {P : PopSt} {M : MemSt} : (stepPo P M).2.W.length = M.W.length := by
  unfold stepPo
  split
  · exact len_acc ..
  · split
    · exact len_acc ..
    · split
      · exact len_cas ..
      · rfl
theorem len_stepPu {P : PushSt} {M : MemSt} : (stepPu P M).2.W.length = M.W.length := by
  unfold stepPu
  split
  · exact len_acc ..
  · split
    · exact len_acc ..
    · split
      · exact len_cas ..
      · rfl
theorem len_stepAl {P : AllSt} {M : MemSt} : (stepAl P M).2.W.length = M.W.length := by
  unfold stepAl
  split
  · exact len_acc ..
  · split
    · exact len_cas ..
    · rfl
theorem len_mayS {o : CoreS} {M : MemSt} {s : Bool} : (o.may M s).2.W.length = M.W.length := by
  unfold CoreS.may
  split
  · rcases o with _ | P | P | P
    · rfl
    · exact len_stepPo
    · exact len_stepPu
    · exact len_stepAl
  · rfl
theorem len_fillK (M : MemSt) (t l s : Int) : ∀ k, (fillK M t l s k).W.length = M.W.length
  | 0 => len_acc ..
  | k + 1 => by show ((fillK M t l s k).store _ _).W.length = _; rw [len_store, len_fillK M t l s k]
theorem len_fillSt (M : MemSt) (t l s : Int) : (fillSt M t l s).W.length = M.W.length := by
  unfold fillSt; split
  · exact len_fillK ..
  · rfl
theorem fine_fillSt {M : MemSt} (h : M.fine) (t l s : Int) : (fillSt M t l s).fine := by
  unfold fillSt; split
  · exact fine_fillK h _ _ _ _ (by omega)
  · exact h
theorem len_chainL (M : MemSt) (l s : Int) : ∀ n i, (chainL M l s n i).length ≤ n
  | 0, _ => Nat.le_refl 0
  | n + 1, i => by
    rw [chainL]; split
    · exact Nat.zero_le _
    · exact Nat.succ_le_succ (len_chainL M l s n _)
theorem len_chainS (M : MemSt) (t l s : Int) : (chainS M t l s).length ≤ s.toNat := len_chainL ..
theorem pre_cc {M : MemSt} {t l s : Int} {c d : List Int} (h : s ≤ 4096) : cSameInts.pre [.l (chainS M t l s ++ c), .l (chainS M t l s ++ d), .i (chainS M t l s).length, .i (((chainS M t l s).length + c.length : Nat) : Int), .i (chainS M t l s).length, .i (((chainS M t l s).length + d.length : Nat) : Int)] :=
  ⟨_, _, _, _, _, _, rfl, by omega, by rw [List.length_append]; omega, by omega, by rw [List.length_append]; omega, by have := len_chainS M t l s; omega⟩
theorem out_cc {M : MemSt} {t l s : Int} {c d : List Int} {x y : EV U} : cSameInts.out [.l (chainS M t l s ++ c), .l (chainS M t l s ++ d), .i (chainS M t l s).length, x, .i (chainS M t l s).length, y] = [.b true] := by
  show [EV.b (decide (List.take ((chainS M t l s).length : Int).toNat (chainS M t l s ++ c) = List.take ((chainS M t l s).length : Int).toNat (chainS M t l s ++ d)))] = _
  rw [Int.toNat_natCast, List.take_left', List.take_left']; simp
  · rfl
  · rfl
theorem pre_oc {M : MemSt} {t l s : Int} {c : List Int} {x : Int} (h : s ≤ 4096) : cOverInts.pre [.l (chainS M t l s ++ c), .i (chainS M t l s).length, .i x] :=
  ⟨_, _, _, rfl, by omega, by rw [List.length_append]; omega, by have := len_chainS M t l s; omega⟩
theorem out_oc (xs : List Int) (a : Int) (c : EV U) : cOverInts.out [.l xs, .i a, c] = [.l (List.replicate a.toNat (-77) ++ xs.drop a.toNat)] := rfl
theorem out_toldS (o : CoreS) (M : MemSt) (s : Bool) : cToldS.out [.u (koA o), .u (koB o), .u (koC o), .u (koD o), .u (koE o), .u (koF o), .u (.mem M), .l M.W, .i M.W.length, .i M.k, .i M.a, .i M.o, .i M.n, .b M.h, .i M.N, .b s] = [.u (koA (o.may M s).1), .u (koB (o.may M s).1), .u (koC (o.may M s).1), .u (koD (o.may M s).1), .u (koE (o.may M s).1), .u (koF (o.may M s).1), .u (.mem (o.may M s).2), .l (o.may M s).2.W, .i (o.may M s).2.W.length, .i (o.may M s).2.k, .i (o.may M s).2.a, .i (o.may M s).2.o, .i (o.may M s).2.n, .b (o.may M s).2.h, .i (o.may M s).2.N, .b true] := by cases o <;> rfl
theorem out_toldS1 (x y m w a1 a2 a3 a4 a5 a6 a7 s : EV U) : cToldS1.out [x, y, m, w, a1, a2, a3, a4, a5, a6, a7, s] = [x, y, m, w, a1, a2, a3, a4, a5, a6, a7, .b true] := rfl
theorem out_toldS2 (x y m w a1 a2 a3 a4 a5 a6 a7 s : EV U) : cToldS2.out [x, y, m, w, a1, a2, a3, a4, a5, a6, a7, s] = [x, y, m, w, a1, a2, a3, a4, a5, a6, a7, .b true] := rfl
theorem out_toldS3 (x y m w a1 a2 a3 a4 a5 a6 a7 s : EV U) : cToldS3.out [x, y, m, w, a1, a2, a3, a4, a5, a6, a7, s] = [x, y, m, w, a1, a2, a3, a4, a5, a6, a7, .b true] := rfl
theorem out_newpo (a b n : Int) : cNewPo.out [.i a, .i b, .i n] = [.u (.pop (newPo a b n))] := rfl
theorem out_qnewpo (a b n : Int) : cQNewPo.out [.i a, .i b, .i n] = [.u (.rpop (newPo a b n))] := rfl
theorem out_newpu (a b n c : Int) : cNewPu.out [.i a, .i b, .i n, .i c] = [.u (.push (newPu a b n c))] := rfl
theorem out_qnewpu (a b n c : Int) : cQNewPu.out [.i a, .i b, .i n, .i c] = [.u (.rpush (newPu a b n c))] := rfl
theorem out_newal (a b n : Int) : cNewAl.out [.i a, .i b, .i n] = [.u (.all (newAl a b n))] := rfl
theorem out_qnewal (a b n : Int) : cQNewAl.out [.i a, .i b, .i n] = [.u (.rall (newAl a b n))] := rfl
theorem out_sfits (a b n s : Int) : cSFits.out [.i a, .i b, .i n, .i s] = [.i (fitsS a b n s)] := rfl
theorem out_qsfits (a b n s : Int) : cQSFits.out [.i a, .i b, .i n, .i s] = [.i (fitsS a b n s)] := rfl
theorem out_sfill (M : MemSt) (a b n : Int) : cSFill.out [.u (.mem M), .i a, .i b, .i n] = [.u (.mem (fillSt M a b n))] := rfl
theorem out_sawake : cSAwake.out [] = [.b true] := rfl
theorem out_rsfill (M : MemSt) (a b n : Int) : cRSFill.out [.l M.W, .i M.W.length, .i M.k, .i M.a, .i M.o, .i M.n, .b M.h, .i M.N, .i a, .i b, .i n] = [.l (fillSt M a b n).W, .i (fillSt M a b n).W.length, .i (fillSt M a b n).k, .i (fillSt M a b n).a, .i (fillSt M a b n).o, .i (fillSt M a b n).n, .b (fillSt M a b n).h, .i (fillSt M a b n).N] := rfl
theorem out_rnew (n : Int) : cRNew.out [.i n] = [.l (MemSt.new n).W, .i (MemSt.new n).W.length, .i (MemSt.new n).k, .i (MemSt.new n).a, .i (MemSt.new n).o, .i (MemSt.new n).n, .b (MemSt.new n).h, .i (MemSt.new n).N] := rfl
section
variable {M : MemSt} {k : Tree} {env : List (EV U)} {X : Cx U} {R : List (EV U) → List (EV U) → Prop} {ci : Nat} {β : List Bnd} {a b n : Int}
theorem st_schain (hc : X.cts[ci]? = some cSChain) (ha : β.map (Bnd.den env) = [.u (.mem M), .i a, .i b, .i n]) (hM : M.fine) (hn : n ≤ 4096)
    (hk : ∀ (c : List Int) (env' : List (EV U)), env ++ [.u (.mem M), .l (chainS M a b n ++ c), .i (chainS M a b n).length, .i (((chainS M a b n).length + c.length : Nat) : Int)] = env' → k.sat X R env') : (Tree.callm ci β k).sat X R env :=
  st_callm hc ha ⟨_, _, _, _, rfl, hM, hn⟩ (fun o env' ho he => by obtain ⟨c, rfl⟩ := ho; exact hk c env' he)
theorem st_rchain (hc : X.cts[ci]? = some cRChain) (ha : β.map (Bnd.den env) = [.l M.W, .i M.W.length, .i M.k, .i M.a, .i M.o, .i M.n, .b M.h, .i M.N, .i a, .i b, .i n]) (hM : M.fine) (hn : n ≤ 4096)
    (hk : ∀ (c : List Int) (env' : List (EV U)), env ++ [.l M.W, .i M.W.length, .i M.k, .i M.a, .i M.o, .i M.n, .b M.h, .i M.N, .l (chainS M a b n ++ c), .i (chainS M a b n).length, .i (((chainS M a b n).length + c.length : Nat) : Int)] = env' → k.sat X R env') : (Tree.callm ci β k).sat X R env :=
  st_callm hc ha ⟨_, _, _, _, rfl, hM, hn⟩ (fun o env' ho he => by obtain ⟨c, rfl⟩ := ho; exact hk c env' he)
end
section
variable {k : Tree} {env env' : List (EV U)} {X : Cx U} {R : List (EV U) → List (EV U) → Prop}
theorem mk_popNil (hX : X.objs = objs) (he : env ++ [.u .popNil] = env') (hk : k.sat X R env') : (Tree.ext (.mk 10 []) k).sat X R env := st_mk (T := popNilT) (by rw [hX]; rfl) rfl rfl he hk
theorem mk_rpopNil (hX : X.objs = objs) (he : env ++ [.u .rpopNil] = env') (hk : k.sat X R env') : (Tree.ext (.mk 12 []) k).sat X R env := st_mk (T := rpopNilT) (by rw [hX]; rfl) rfl rfl he hk
theorem mk_pushNil (hX : X.objs = objs) (he : env ++ [.u .pushNil] = env') (hk : k.sat X R env') : (Tree.ext (.mk 17 []) k).sat X R env := st_mk (T := pushNilT) (by rw [hX]; rfl) rfl rfl he hk
theorem mk_rpushNil (hX : X.objs = objs) (he : env ++ [.u .rpushNil] = env') (hk : k.sat X R env') : (Tree.ext (.mk 19 []) k).sat X R env := st_mk (T := rpushNilT) (by rw [hX]; rfl) rfl rfl he hk
theorem mk_allNil (hX : X.objs = objs) (he : env ++ [.u .allNil] = env') (hk : k.sat X R env') : (Tree.ext (.mk 24 []) k).sat X R env := st_mk (T := allNilT) (by rw [hX]; rfl) rfl rfl he hk
theorem mk_rallNil (hX : X.objs = objs) (he : env ++ [.u .rallNil] = env') (hk : k.sat X R env') : (Tree.ext (.mk 26 []) k).sat X R env := st_mk (T := rallNilT) (by rw [hX]; rfl) rfl rfl he hk
end
end Go.Proofs.Ytdabdbbgaekmdaa
