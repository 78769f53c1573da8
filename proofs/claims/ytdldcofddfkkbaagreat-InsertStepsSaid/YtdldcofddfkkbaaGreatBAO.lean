/- Texts of this proof. -/
import Derived.Test.YtdldcofddfkkbaaGreatB7O
import Derived.Test.YtdldcofddfkkbaaGreatB8O
import Derived.Test.YtdldcofddfkkbaaGreatB9O
import Derived.Test.YtdldcofddfkkbaaGreatLtO
namespace Go.Proofs.YtdldcofddfkkbaaGreat
set_option linter.unusedVariables false
set_option linter.unusedSimpArgs false
set_option linter.unusedSectionVars false
open Go Go.RowKit
def RetSt.ok (R : RetSt) : Prop := R.line = 9 ∨ 0 ≤ R.i ∧ R.i ≤ 65534
theorem topW_isW {i w : Int} (h : -1 ≤ i) (h1 : i ≤ 65534) : isW (topW i w) := by
 unfold topW
 exact ⟨by omega, by omega⟩
theorem idxW_lo' (s w : Int) : -1 ≤ idxW s w ∧ idxW s w ≤ 65534 := by
 unfold idxW; split <;> omega
theorem ret_ok {R : RetSt} {M : MemSt} (h : R.ok) : (R.step M).1.ok := by
 unfold RetSt.step
 split
 · rename_i e; exact .inr (h.resolve_left (by rw [e]; decide))
 · split
   · rename_i e
     have h' := h.resolve_left (by rw [e]; decide)
     split
     · exact .inr h'
     · split
       · exact .inr h'
       · show RetSt.ok (if _ then _ else _)
         split
         · exact .inl rfl
         · exact .inr h'
   · exact h
theorem ret_fine {R : RetSt} {M : MemSt} (h : R.ok) (hM : M.fine) : (R.step M).2.fine := by
 unfold RetSt.step
 split
 · exact fine_load hM _
 · split
   · rename_i e
     have h' := h.resolve_left (by rw [e]; decide)
     split
     · exact fine_load hM _
     · rename_i e1
       split
       · have := idxW_lo' (R.x 2) R.w
         exact fine_store hM ⟨by omega, by omega⟩
       · exact fine_cas hM (topW_isW (by omega) h'.2)
   · exact hM
theorem ret_len {R : RetSt} {M : MemSt} : (R.step M).2.W.length = M.W.length := by
 unfold RetSt.step
 split
 · exact len_load _ _
 · split
   · split
     · exact len_load _ _
     · split
       · exact len_store _ _ _
       · exact len_cas _ _ _ _
   · rfl
theorem rnew_ok {l : List Int} {s i : Int} (h : i ≤ 65534) : (RetSt.new l s i).ok := by
 unfold RetSt.new
 split
 · exact .inl rfl
 · exact .inr ⟨by show 0 ≤ i; omega, by show i ≤ 65534; omega⟩
def FindSt.good (F : FindSt) : Prop := isW F.cur ∧ isW F.w ∧ ∀ k : Nat, isW (F.S[k]?.getD 0)
theorem isW_0 : isW 0 := ⟨by decide, by decide⟩
theorem set_W {S : List Int} {x : Int} {n : Nat} (h : ∀ k : Nat, isW (S[k]?.getD 0)) (hx : isW x) : ∀ k : Nat, isW ((S.set n x)[k]?.getD 0) := by
 intro k
 rw [List.getElem?_set]
 split
 · split
   · exact hx
   · exact isW_0
 · exact h k
theorem f0_good : F0.good := ⟨isW_0, isW_0, fun k => isW_0⟩
theorem r0_ok : R0.ok := .inr ⟨by decide, by decide⟩
theorem new_good {t : List Int} {k h : Int} : (FindSt.new t k h).good := by
 refine ⟨isW_0, isW_0, fun k => ?_⟩
 show isW ((List.replicate h.toNat (0 : Int))[k]?.getD 0)
 rw [List.getElem?_replicate]
 split <;> exact isW_0
theorem fdone_good {F : FindSt} {r : Int} (h : F.good) : (F.done r).good := by
 obtain ⟨h1, h2, h3⟩ := h
 unfold FindSt.done
 split <;> exact ⟨isW_0, isW_0, set_W h3 h1⟩
theorem flooks_good {F : FindSt} {r : Int} (h : F.good) : (F.looks r).good := by
 unfold FindSt.looks
 split
 · exact fdone_good h
 · exact ⟨h.1, isW_0, h.2.2⟩
theorem fstep_good {F : FindSt} {M : MemSt} (h : F.good) (hM : M.fine) : (F.step M).1.good := by
 have ha : ∀ r, (F.anew r).good := fun r => ⟨isW_0, isW_0, h.2.2⟩
 unfold FindSt.step
 split
 · show FindSt.good (if _ then _ else _)
   split
   · exact ha _
   · exact flooks_good ⟨n_load hM _, isW_0, h.2.2⟩
 · split
   · exact ⟨h.1, n_load hM _, h.2.2⟩
   · split
     · show FindSt.good (if _ then _ else _)
       split
       · exact flooks_good ⟨wm h.2.1, isW_0, h.2.2⟩
       · exact ha _
     · split
       · show FindSt.good (if _ then _ else _)
         split
         · exact flooks_good ⟨h.2.1, isW_0, h.2.2⟩
         · exact fdone_good h
       · exact h
theorem step_fine {F : FindSt} {M : MemSt} (hM : M.fine) : (F.step M).2.fine := by
 unfold FindSt.step
 split
 · exact fine_load hM _
 · split
   · exact fine_load hM _
   · split
     · exact fine_cas hM ⟨by omega, by omega⟩
     · split
       · exact fine_load hM _
       · exact hM
theorem step_len {F : FindSt} {M : MemSt} : (F.step M).2.W.length = M.W.length := by
 unfold FindSt.step
 split
 · exact len_load _ _
 · split
   · exact len_load _ _
   · split
     · exact len_cas _ _ _ _
     · split
       · exact len_load _ _
       · rfl
def InsSt.ok (I : InsSt) : Prop := isW I.ref ∧ I.F.good ∧ I.R.ok ∧ I.i ≤ 65534
theorem over_ok {r : Int} : (InsSt.over r).ok := ⟨isW_0, f0_good, r0_ok, by show (0 : Int) ≤ 65534; decide⟩
theorem to_ok {I : InsSt} {n lv w r : Int} {F : FindSt} {is : Bool} (h : I.ok) (hF : F.good) : (I.to n lv w F r is).ok := ⟨h.1, hF, r0_ok, h.2.2.2⟩
theorem up_ok {I : InsSt} {lv r : Int} (h : I.ok) : (I.up lv r).ok := by
 unfold InsSt.up
 split
 · exact to_ok h f0_good
 · exact to_ok h h.2.1
theorem waits_ok {I : InsSt} {R : RetSt} {r : Int} (h : I.ok) (hR : R.ok) : (I.waits R r).ok := ⟨h.1, f0_good, hR, h.2.2.2⟩
theorem ite_ok {c : Prop} [Decidable c] {x y : InsSt} (hx : x.ok) (hy : y.ok) : (if c then x else y).ok := by split <;> assumption
theorem ins_ok {I : InsSt} {M : MemSt} (h : I.ok) (hM : M.fine) : (I.step M).1.ok := by
 have hs := fstep_good h.2.1 hM
 unfold InsSt.step
 by_cases e1 : I.line = 1
 · rw [if_pos e1]
   exact ite_ok (to_ok h hs) (to_ok h hs)
 rw [if_neg e1]
 by_cases e2 : I.line = 2
 · rw [if_pos e2]
   exact ite_ok (to_ok h h.2.1) (to_ok h h.2.1)
 rw [if_neg e2]
 by_cases e3 : I.line = 3
 · rw [if_pos e3]
   exact ite_ok (up_ok h) (to_ok h new_good)
 rw [if_neg e3]
 by_cases e4 : I.line = 4
 · rw [if_pos e4]
   exact ite_ok (to_ok h f0_good) (ite_ok (to_ok h h.2.1) (to_ok h h.2.1))
 rw [if_neg e4]
 by_cases e5 : I.line = 5
 · rw [if_pos e5]
   exact ite_ok (to_ok h h.2.1) (to_ok h f0_good)
 rw [if_neg e5]
 by_cases e6 : I.line = 6
 · rw [if_pos e6]
   exact ite_ok (up_ok h) (to_ok h new_good)
 rw [if_neg e6]
 by_cases e7 : I.line = 7
 · rw [if_pos e7]
   exact ite_ok (to_ok h hs) (to_ok h hs)
 rw [if_neg e7]
 by_cases e8 : I.line = 8
 · rw [if_pos e8]
   exact ite_ok (to_ok h new_good) (to_ok h h.2.1)
 rw [if_neg e8]
 by_cases e9 : I.line = 9
 · rw [if_pos e9]
   exact ite_ok (to_ok h new_good) (to_ok h f0_good)
 rw [if_neg e9]
 by_cases e10 : I.line = 10
 · rw [if_pos e10]
   exact ite_ok (to_ok h f0_good) (to_ok h hs)
 rw [if_neg e10]
 by_cases e11 : I.line = 11
 · rw [if_pos e11]
   exact ite_ok (waits_ok h (rnew_ok h.2.2.2)) over_ok
 rw [if_neg e11]
 by_cases e12 : I.line = 12
 · rw [if_pos e12]
   exact ite_ok over_ok (waits_ok h (ret_ok h.2.2.1))
 rw [if_neg e12]
 exact h
theorem ins_fine {I : InsSt} {M : MemSt} (h : I.ok) (hM : M.fine) : (I.step M).2.fine := by
 have hS : isW I.S := h.2.1.2.2 _
 unfold InsSt.step
 by_cases e1 : I.line = 1
 · rw [if_pos e1]
   exact step_fine hM
 rw [if_neg e1]
 by_cases e2 : I.line = 2
 · rw [if_pos e2]
   exact fine_store hM hS
 rw [if_neg e2]
 by_cases e3 : I.line = 3
 · rw [if_pos e3]
   exact fine_cas hM h.1
 rw [if_neg e3]
 by_cases e4 : I.line = 4
 · rw [if_pos e4]
   exact fine_load hM _
 rw [if_neg e4]
 by_cases e5 : I.line = 5
 · rw [if_pos e5]
   exact fine_cas hM hS
 rw [if_neg e5]
 by_cases e6 : I.line = 6
 · rw [if_pos e6]
   exact fine_cas hM h.1
 rw [if_neg e6]
 by_cases e7 : I.line = 7
 · rw [if_pos e7]
   exact step_fine hM
 rw [if_neg e7]
 by_cases e8 : I.line = 8
 · rw [if_pos e8]
   exact fine_load hM _
 rw [if_neg e8]
 by_cases e9 : I.line = 9
 · rw [if_pos e9]
   exact fine_load hM _
 rw [if_neg e9]
 by_cases e10 : I.line = 10
 · rw [if_pos e10]
   exact step_fine hM
 rw [if_neg e10]
 by_cases e11 : I.line = 11
 · rw [if_pos e11]
   exact fine_add hM _ _
 rw [if_neg e11]
 by_cases e12 : I.line = 12
 · rw [if_pos e12]
   exact ret_fine h.2.2.1 hM
 rw [if_neg e12]
 exact hM
theorem ins_len {I : InsSt} {M : MemSt} : (I.step M).2.W.length = M.W.length := by
 unfold InsSt.step
 by_cases e1 : I.line = 1
 · rw [if_pos e1]
   exact step_len
 rw [if_neg e1]
 by_cases e2 : I.line = 2
 · rw [if_pos e2]
   exact len_store _ _ _
 rw [if_neg e2]
 by_cases e3 : I.line = 3
 · rw [if_pos e3]
   exact len_cas _ _ _ _
 rw [if_neg e3]
 by_cases e4 : I.line = 4
 · rw [if_pos e4]
   exact len_load _ _
 rw [if_neg e4]
 by_cases e5 : I.line = 5
 · rw [if_pos e5]
   exact len_cas _ _ _ _
 rw [if_neg e5]
 by_cases e6 : I.line = 6
 · rw [if_pos e6]
   exact len_cas _ _ _ _
 rw [if_neg e6]
 by_cases e7 : I.line = 7
 · rw [if_pos e7]
   exact step_len
 rw [if_neg e7]
 by_cases e8 : I.line = 8
 · rw [if_pos e8]
   exact len_load _ _
 rw [if_neg e8]
 by_cases e9 : I.line = 9
 · rw [if_pos e9]
   exact len_load _ _
 rw [if_neg e9]
 by_cases e10 : I.line = 10
 · rw [if_pos e10]
   exact step_len
 rw [if_neg e10]
 by_cases e11 : I.line = 11
 · rw [if_pos e11]
   exact len_add _ _ _
 rw [if_neg e11]
 by_cases e12 : I.line = 12
 · rw [if_pos e12]
   exact ret_len
 rw [if_neg e12]
theorem inew_ok {t : List Int} {r k g n h a s : Int} (hr : isW r) : (InsSt.new t r k g n h a s).ok := by
 unfold InsSt.new
 split
 · exact ⟨hr, new_good, r0_ok, (idxW_lo' _ _).2⟩
 · exact ⟨isW_0, f0_good, r0_ok, by show (0 : Int) ≤ 65534; decide⟩
def actTs : List (Option IntKind) := [some .i64, some .i64, some .u64, some .u64, some .i64]
def isPre (ins : List (EV U)) : Prop := ∃ a0 a1 a2 a3 a4 a5 a6 a7 a8 a9 a10 a11 a12 s : Int, ∃ gi, ∃ ki : Nat, ∃ ci gl, ∃ kl : Nat, ∃ cl, ins = [.i a0, .i a1, .i a2, .i a3, .i a4, .i a5, .i a6, .i a7, .i a8, .i a9, .i a10, .i a11, .i a12, .i s, .f gi ki, .i ki, .i ci, .f gl kl, .i kl, .i cl] ∧ (∀ j, j < ki → isW (gi j 0)) ∧ (∀ j, j < kl → isW (gl j 2))
def cISteps : Ctr U :=
 { fn := 10, nin := 20, args := [twV 0, .int .i64 (.var 13), .slice 0 (.var 15) (.var 16), .slice 1 (.var 18) (.var 19)], heap := [.ro [some .u64] 14, .ro actTs 17]
   pre := isPre, nout := 1, out := fun _ => [.b true], ret := .bool (.var 20), post := [.ro [some .u64] 14, .ro actTs 17] }
def ctsHd : List (Ctr U) := [cPick, cDF15, cNew, cQNew, cTFill, cQTFill, cStore, cQStore, cINew, cQINew, cIStep, cQIStep, cIAlike, cLast, cQLast, cCount, cQCount, cWords, cQWords, cSameWords, boolC 46]
def cxHd (P : Program) (l : List (LoopS U)) : Cx U := { cx P ctsHd with join := true, loops := l }
def ihA (o : Option InsSt) : U := match o with | none => .insNil | some I => .ins I
def ihB (o : Option InsSt) : U := match o with | none => .rinsNil | some I => .rins I
def ihOk (o : Option InsSt) : Prop := ∀ I, o = some I → I.ok
def is1Inv (env : List (EV U)) : Prop := ∃ a0 a1 a2 a3 a4 a5 a6 a7 a8 a9 a10 a11 a12 s : Int, ∃ gi, ∃ ki : Nat, ∃ ci gl, ∃ kl : Nat, ∃ cl, ∃ x20 x21 x22 x23 x24 x25 x26 : EV U, ∃ M : MemSt, ∃ j : Int, env = [.i a0, .i a1, .i a2, .i a3, .i a4, .i a5, .i a6, .i a7, .i a8, .i a9, .i a10, .i a11, .i a12, .i s, .f gi ki, .i ki, .i ci, .f gl kl, .i kl, .i cl, x20, x21, x22, x23, x24, x25, x26, .u (.mem M), .u (.rmem M), .i j] ∧
 0 ≤ j ∧ j ≤ ki ∧ ki ≤ 130 ∧ kl ≤ 200 ∧ 1 ≤ M.W.length ∧ M.fine ∧ okT a0 a1 a2 a5 = true ∧ (∀ j, j < ki → isW (gi j 0)) ∧ (∀ j, j < kl → isW (gl j 2))
def is2Inv (env : List (EV U)) : Prop := ∃ a0 a1 a2 a3 a4 a5 a6 a7 a8 a9 a10 a11 a12 s : Int, ∃ gi, ∃ ki : Nat, ∃ ci gl, ∃ kl : Nat, ∃ cl, ∃ x20 x21 x22 x23 x24 x25 x26 x27 x28 x29 : EV U, ∃ M : MemSt, ∃ o0 o1 o2 : Option InsSt, ∃ j : Int, env = [.i a0, .i a1, .i a2, .i a3, .i a4, .i a5, .i a6, .i a7, .i a8, .i a9, .i a10, .i a11, .i a12, .i s, .f gi ki, .i ki, .i ci, .f gl kl, .i kl, .i cl, x20, x21, x22, x23, x24, x25, x26, x27, x28, x29, .u (.mem M), .u (.rmem M), .u (ihA o0), .u (ihB o0), .u (ihA o1), .u (ihB o1), .u (ihA o2), .u (ihB o2), .i j] ∧
 0 ≤ j ∧ j ≤ kl ∧ kl ≤ 200 ∧ 1 ≤ M.W.length ∧ M.fine ∧ okT a0 a1 a2 a5 = true ∧ (∀ j, j < kl → isW (gl j 2)) ∧ ihOk o0 ∧ ihOk o1 ∧ ihOk o2
def lIS1 : LoopS U :=
 { fn := 57, rid := 8, nv := 3, tm := [(12, .int .i64 (.var 29))], hp := [(4, .abs 27), (5, .abs 28)], reb := [], inv := is1Inv, mu := fun env => (gI env 15 - gI env 29).toNat }
def lIS2 : LoopS U :=
 { fn := 10, rid := 8, nv := 9, tm := [(12, .int .i64 (.var 38))]
   hp := [(4, .abs 30), (5, .abs 31), (6, .cells [.hnd 7, .hnd 8, .hnd 9, .hnd 10, .hnd 11, .hnd 12] 120), (7, .abs 32), (8, .abs 33), (9, .abs 34), (10, .abs 35), (11, .abs 36), (12, .abs 37)]
   reb := [(7, 44), (8, 60), (9, 44), (10, 60), (11, 44), (12, 60)], inv := is2Inv, mu := fun env => (gI env 18 - gI env 38).toNat }
end Go.Proofs.YtdldcofddfkkbaaGreat
