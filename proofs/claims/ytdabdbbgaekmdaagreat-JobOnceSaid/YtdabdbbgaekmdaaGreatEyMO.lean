/- Jobs, once: the law: contract, loops (printed by gen_db.py). -/
import Derived.Test.YtdabdbbgaekmdaaGreatEx0O
import Derived.Test.YtdabdbbgaekmdaaGreatEx1O
import Derived.Test.YtdabdbbgaekmdaaGreatEx2O
import Derived.Test.YtdabdbbgaekmdaaGreatB5O
namespace Go.Proofs.YtdabdbbgaekmdaaGreat
set_option linter.unusedVariables false
set_option linter.unusedSimpArgs false
set_option linter.unusedSectionVars false
open Go Go.RowKit
def cOnce : Ctr U :=
  { fn := 3, nin := 4, args := [.int .i64 (.var 0), .slice 0 (.var 2) (.var 3)], heap := [.ro [some .i64] 1]
    pre := fun ins => ∃ n g, ∃ k : Nat, ∃ c, ins = [.i n, .f g k, .i k, .i c], nout := 1, out := fun _ => [.b true], ret := .bool (.var 4), post := [.ro [some .i64] 1] }
def ctsEy : List (Ctr U) := [cPick, cNew, cJFill, boolC 5, cBeg0, cBeg1, cBeg2, cSteps0, cSteps1, cSteps2, cSChain, cJAll, cAmong]
def cxEy0 (P : Program) : Cx U := { cx P ctsEy with join := true, split := [(1000003, 3)] }
def onInv (env : List (EV U)) : Prop := ∃ sz : Int, ∃ gl, ∃ kl : Nat, ∃ cl p : Int, ∃ x6 x7 x8 : EV U, ∃ M o0 o1 o2 c0 c1 c2 T d cp, ∃ C : List Int, ∃ i : Int, env = [.i sz, .f gl kl, .i kl, .i cl, .b true, .i p, x6, x7, x8] ++ (crIns M (1 + p) o0 o1 o2 c0 c1 c2 T d cp ++ [.i i]) ∧ 0 ≤ i ∧ i ≤ kl ∧ kl ≤ 300 ∧ 0 ≤ p ∧ p < 5 ∧ JInv M (1 + p) i C T ⟨o0, c0, 0⟩ ⟨o1, c1, 1⟩ ⟨o2, c2, 2⟩ ∧ 2 * cp = ((flatP T ++ d).length : Int)
def lX1 : LoopS U :=
  { fn := 3, rid := 8, nv := 22, tm := [(7, .int .i64 (.var 30))]
    hp := [(2, .abs 14), (3, .cells [.hnd 8, .hnd 9, .hnd 10] 58), (4, .cells [.hnd 11, .hnd 12, .hnd 13] 59), (5, .cells [.hnd 14, .hnd 15, .hnd 16] 60), (6, .cells [.int .i64 (.var 24), .int .i64 (.var 25), .int .i64 (.var 26)] 3), (7, .cells [.int .i64 (.var 9), .int .i64 (.var 10), .int .i64 (.var 11), .int .i64 (.var 12), .int .i64 (.var 13), .hnd 2, .slice 3 (.lit 3) (.lit 3), .slice 4 (.lit 3) (.lit 3), .slice 5 (.lit 3) (.lit 3), .slice 6 (.lit 3) (.lit 3), .slice 17 (.var 28) (.var 29)] 40), (8, .abs 15), (9, .abs 16), (10, .abs 17), (11, .abs 18), (12, .abs 19), (13, .abs 20), (14, .abs 21), (15, .abs 22), (16, .abs 23), (17, .row .i64 100 27)]
    reb := [(8, 13), (9, 13), (10, 13), (11, 23), (12, 23), (13, 23), (14, 28), (15, 28), (16, 28), (17, 0)], inv := onInv, mu := fun env => (gI env 2 - gI env 30).toNat }
def onE0 (env : List (EV U)) : Prop := ∃ sz : Int, ∃ gl, ∃ kl : Nat, ∃ cl p : Int, ∃ x6 x7 x8 : EV U, ∃ y0 y1 y2 y3 y4 y5 y6 y7 y8 y9 y10 y11 y12 y13 y14 y15 y16 y17 y18 y19 y20 y21 : EV U, ∃ M o0 o1 o2 c0 c1 c2 T d cp, ∃ C : List Int, ∃ k kk : Int, env = [.i sz, .f gl kl, .i kl, .i cl, .b true, .i p, x6, x7, x8, y0, y1, y2, y3, y4, y5, y6, y7, y8, y9, y10, y11, y12, y13, y14, y15, y16, y17, y18, y19, y20, y21] ++ (crIns M (1 + p) o0 o1 o2 c0 c1 c2 T d cp ++ [.i k]) ∧ 0 ≤ k ∧ k + remJ M (1 + p) o0 ≤ 8 ∧ 0 ≤ kk ∧ kk ≤ 1000 + k ∧ 0 ≤ p ∧ p < 5 ∧ JInv M (1 + p) kk C T ⟨o0, c0, 0⟩ ⟨o1, c1, 1⟩ ⟨o2, c2, 2⟩ ∧ 2 * cp = ((flatP T ++ d).length : Int)
def lY0 : LoopS U :=
  { fn := 3, rid := 20, at_ := 31, nv := 22, tm := [(11, .int .i64 (.var 52))]
    hp := [(2, .abs 36), (3, .cells [.hnd 8, .hnd 9, .hnd 10] 58), (4, .cells [.hnd 11, .hnd 12, .hnd 13] 59), (5, .cells [.hnd 14, .hnd 15, .hnd 16] 60), (6, .cells [.int .i64 (.var 46), .int .i64 (.var 47), .int .i64 (.var 48)] 3), (7, .cells [.int .i64 (.var 31), .int .i64 (.var 32), .int .i64 (.var 33), .int .i64 (.var 34), .int .i64 (.var 35), .hnd 2, .slice 3 (.lit 3) (.lit 3), .slice 4 (.lit 3) (.lit 3), .slice 5 (.lit 3) (.lit 3), .slice 6 (.lit 3) (.lit 3), .slice 17 (.var 50) (.var 51)] 40), (8, .abs 37), (9, .abs 38), (10, .abs 39), (11, .abs 40), (12, .abs 41), (13, .abs 42), (14, .abs 43), (15, .abs 44), (16, .abs 45), (17, .row .i64 100 49)]
    reb := [(8, 13), (9, 13), (10, 13), (11, 23), (12, 23), (13, 23), (14, 28), (15, 28), (16, 28), (17, 0)], inv := onE0, mu := fun env => (8 - gI env 52).toNat }
def onE1 (env : List (EV U)) : Prop := ∃ sz : Int, ∃ gl, ∃ kl : Nat, ∃ cl p : Int, ∃ x6 x7 x8 : EV U, ∃ y0 y1 y2 y3 y4 y5 y6 y7 y8 y9 y10 y11 y12 y13 y14 y15 y16 y17 y18 y19 y20 y21 y22 y23 y24 y25 y26 y27 y28 y29 y30 y31 y32 y33 y34 y35 y36 y37 y38 y39 y40 y41 y42 y43 : EV U, ∃ M o0 o1 o2 c0 c1 c2 T d cp, ∃ C : List Int, ∃ k kk : Int, env = [.i sz, .f gl kl, .i kl, .i cl, .b true, .i p, x6, x7, x8, y0, y1, y2, y3, y4, y5, y6, y7, y8, y9, y10, y11, y12, y13, y14, y15, y16, y17, y18, y19, y20, y21, y22, y23, y24, y25, y26, y27, y28, y29, y30, y31, y32, y33, y34, y35, y36, y37, y38, y39, y40, y41, y42, y43] ++ (crIns M (1 + p) o0 o1 o2 c0 c1 c2 T d cp ++ [.i k]) ∧ 0 ≤ k ∧ k + remJ M (1 + p) o1 ≤ 8 ∧ 0 ≤ kk ∧ kk ≤ 2000 + k ∧ 0 ≤ p ∧ p < 5 ∧ o0 = .no ∧ JInv M (1 + p) kk C T ⟨o0, c0, 0⟩ ⟨o1, c1, 1⟩ ⟨o2, c2, 2⟩ ∧ 2 * cp = ((flatP T ++ d).length : Int)
def lY1 : LoopS U :=
  { fn := 3, rid := 20, at_ := 53, nv := 22, tm := [(11, .int .i64 (.var 74))]
    hp := [(2, .abs 58), (3, .cells [.hnd 8, .hnd 9, .hnd 10] 58), (4, .cells [.hnd 11, .hnd 12, .hnd 13] 59), (5, .cells [.hnd 14, .hnd 15, .hnd 16] 60), (6, .cells [.int .i64 (.var 68), .int .i64 (.var 69), .int .i64 (.var 70)] 3), (7, .cells [.int .i64 (.var 53), .int .i64 (.var 54), .int .i64 (.var 55), .int .i64 (.var 56), .int .i64 (.var 57), .hnd 2, .slice 3 (.lit 3) (.lit 3), .slice 4 (.lit 3) (.lit 3), .slice 5 (.lit 3) (.lit 3), .slice 6 (.lit 3) (.lit 3), .slice 17 (.var 72) (.var 73)] 40), (8, .abs 59), (9, .abs 60), (10, .abs 61), (11, .abs 62), (12, .abs 63), (13, .abs 64), (14, .abs 65), (15, .abs 66), (16, .abs 67), (17, .row .i64 100 71)]
    reb := [(8, 13), (9, 13), (10, 13), (11, 23), (12, 23), (13, 23), (14, 28), (15, 28), (16, 28), (17, 0)], inv := onE1, mu := fun env => (8 - gI env 74).toNat }
def onE2 (env : List (EV U)) : Prop := ∃ sz : Int, ∃ gl, ∃ kl : Nat, ∃ cl p : Int, ∃ x6 x7 x8 : EV U, ∃ y0 y1 y2 y3 y4 y5 y6 y7 y8 y9 y10 y11 y12 y13 y14 y15 y16 y17 y18 y19 y20 y21 y22 y23 y24 y25 y26 y27 y28 y29 y30 y31 y32 y33 y34 y35 y36 y37 y38 y39 y40 y41 y42 y43 y44 y45 y46 y47 y48 y49 y50 y51 y52 y53 y54 y55 y56 y57 y58 y59 y60 y61 y62 y63 y64 y65 : EV U, ∃ M o0 o1 o2 c0 c1 c2 T d cp, ∃ C : List Int, ∃ k kk : Int, env = [.i sz, .f gl kl, .i kl, .i cl, .b true, .i p, x6, x7, x8, y0, y1, y2, y3, y4, y5, y6, y7, y8, y9, y10, y11, y12, y13, y14, y15, y16, y17, y18, y19, y20, y21, y22, y23, y24, y25, y26, y27, y28, y29, y30, y31, y32, y33, y34, y35, y36, y37, y38, y39, y40, y41, y42, y43, y44, y45, y46, y47, y48, y49, y50, y51, y52, y53, y54, y55, y56, y57, y58, y59, y60, y61, y62, y63, y64, y65] ++ (crIns M (1 + p) o0 o1 o2 c0 c1 c2 T d cp ++ [.i k]) ∧ 0 ≤ k ∧ k + remJ M (1 + p) o2 ≤ 8 ∧ 0 ≤ kk ∧ kk ≤ 3000 + k ∧ 0 ≤ p ∧ p < 5 ∧ o0 = .no ∧ o1 = .no ∧ JInv M (1 + p) kk C T ⟨o0, c0, 0⟩ ⟨o1, c1, 1⟩ ⟨o2, c2, 2⟩ ∧ 2 * cp = ((flatP T ++ d).length : Int)
def lY2 : LoopS U :=
  { fn := 3, rid := 20, at_ := 75, nv := 22, tm := [(11, .int .i64 (.var 96))]
    hp := [(2, .abs 80), (3, .cells [.hnd 8, .hnd 9, .hnd 10] 58), (4, .cells [.hnd 11, .hnd 12, .hnd 13] 59), (5, .cells [.hnd 14, .hnd 15, .hnd 16] 60), (6, .cells [.int .i64 (.var 90), .int .i64 (.var 91), .int .i64 (.var 92)] 3), (7, .cells [.int .i64 (.var 75), .int .i64 (.var 76), .int .i64 (.var 77), .int .i64 (.var 78), .int .i64 (.var 79), .hnd 2, .slice 3 (.lit 3) (.lit 3), .slice 4 (.lit 3) (.lit 3), .slice 5 (.lit 3) (.lit 3), .slice 6 (.lit 3) (.lit 3), .slice 17 (.var 94) (.var 95)] 40), (8, .abs 81), (9, .abs 82), (10, .abs 83), (11, .abs 84), (12, .abs 85), (13, .abs 86), (14, .abs 87), (15, .abs 88), (16, .abs 89), (17, .row .i64 100 93)]
    reb := [(8, 13), (9, 13), (10, 13), (11, 23), (12, 23), (13, 23), (14, 28), (15, 28), (16, 28), (17, 0)], inv := onE2, mu := fun env => (8 - gI env 96).toNat }
def onF (env : List (EV U)) : Prop := ∃ sz : Int, ∃ gl, ∃ kl : Nat, ∃ cl p : Int, ∃ x6 x7 x8 : EV U, ∃ y0 y1 y2 y3 y4 y5 y6 y7 y8 y9 y10 y11 y12 y13 y14 y15 y16 y17 y18 y19 y20 y21 y22 y23 y24 y25 y26 y27 y28 y29 y30 y31 y32 y33 y34 y35 y36 y37 y38 y39 y40 y41 y42 y43 y44 y45 y46 y47 y48 y49 y50 y51 y52 y53 y54 y55 y56 y57 y58 y59 y60 y61 y62 y63 y64 y65 y66 y67 y68 y69 y70 y71 y72 y73 y74 y75 y76 y77 y78 y79 y80 y81 y82 y83 y84 y85 y86 y87 : EV U, ∃ M : MemSt, ∃ C cc d2 : List Int, ∃ ca cp2 i : Int, env = [.i sz, .f gl kl, .i kl, .i cl, .b true, .i p, x6, x7, x8, y0, y1, y2, y3, y4, y5, y6, y7, y8, y9, y10, y11, y12, y13, y14, y15, y16, y17, y18, y19, y20, y21, y22, y23, y24, y25, y26, y27, y28, y29, y30, y31, y32, y33, y34, y35, y36, y37, y38, y39, y40, y41, y42, y43, y44, y45, y46, y47, y48, y49, y50, y51, y52, y53, y54, y55, y56, y57, y58, y59, y60, y61, y62, y63, y64, y65, y66, y67, y68, y69, y70, y71, y72, y73, y74, y75, y76, y77, y78, y79, y80, y81, y82, y83, y84, y85, y86, y87] ++ [.u (.mem M), .l (C ++ cc), .i C.length, .i ca, .u (.mem M), .l (jobsL M (1 + (1 + p)) (1 + p).toNat ++ d2), .i (1 + p), .i cp2, .i ((C.filter (· < i)).length), .i i] ∧ 0 ≤ i ∧ i ≤ 1 + p ∧ 0 ≤ p ∧ p < 5 ∧ (M.W.length : Int) = 1 + 3 * (1 + p) ∧ C.Nodup ∧ (∀ x ∈ C, 0 ≤ x ∧ x < 1 + p) ∧ (∀ j, 0 ≤ j → j < 1 + p → (stw M (1 + p) j % 256 = 1 ↔ j ∈ C))
def lX3 : LoopS U :=
  { fn := 3, rid := 29, at_ := 105, nv := 2, tm := [(14, .int .i64 (.var 105)), (15, .int .i64 (.var 106))]
    hp := [], reb := [], inv := onF, mu := fun env => (gI env 103 - gI env 106).toNat }
def cxEy (P : Program) : Cx U := { cxEy0 P with loops := [lX1, lY0, lY1, lY2, lX3] }
end Go.Proofs.YtdabdbbgaekmdaaGreat
namespace Go.Proofs.YtdabdbbgaekmdaaGreat
set_option linter.unusedVariables false
set_option linter.unusedSimpArgs false
set_option linter.unusedSectionVars false
open Go Go.RowKit
theorem may_all : mayB 2 3 = true ∧ mayB 3 4 = true ∧ mayB 4 5 = true ∧ mayB 4 3 = true ∧ mayB 3 2 = true := ⟨by decide, by decide, by decide, by decide, by decide⟩
theorem beg_ok {M : MemSt} {n k x id m : Int} {C : List Int} {T : List (Int × Int)} {b c : CoT} (n1 : 1 ≤ n) (n5 : n ≤ 5) (i0 : 0 ≤ id) (i1 : id < 3) (J : JInv M n k C T ⟨.no, x, id⟩ b c) : JInv M n k C T ⟨begO n id m, 0, id⟩ b c := by
  obtain ⟨m1, m2, m3, m4, m5⟩ := may_all
  have h0 : 0 ≤ (m.tdiv 8).emod n := Int.emod_nonneg _ (by omega)
  have h1 : (m.tdiv 8).emod n < n := Int.emod_lt_of_pos _ (by omega)
  unfold begO
  repeat' split
  · exact begin_take J
  · exact begin_give n5 h0 h1 J
  all_goals exact begin_turn n5 h0 h1 (by assumption) i0 (by omega) J
theorem beg_kind {n id m : Int} : kindO (begO n id m) ≠ 0 := by
  unfold begO
  repeat' split
  all_goals (intro e; cases e)
theorem rem_pos {M : MemSt} {n ch id : Int} {o : CoSt} (h : coOk M n o ch id) (ho : kindO o ≠ 0) : 1 ≤ remJ M n o := by
  cases o with
  | no => exact absurd rfl ho
  | key _ => exact absurd rfl ho
  | kof _ => exact absurd rfl ho
  | take O => unfold remJ; repeat' split
              all_goals omega
  | give O => unfold remJ; repeat' split
              all_goals omega
  | turn O => unfold remJ; repeat' split
              all_goals omega
theorem rem_le7 {M : MemSt} {n : Int} {o : CoSt} : remJ M n o ≤ 7 := by
  cases o with
  | take O => unfold remJ; repeat' split
              all_goals omega
  | give O => unfold remJ; repeat' split
              all_goals omega
  | turn O => unfold remJ; repeat' split
              all_goals omega
  | no => show (0 : Int) ≤ 7; omega
  | key _ => show (0 : Int) ≤ 7; omega
  | kof _ => show (0 : Int) ≤ 7; omega
theorem pick3 {x : Int} (h : 0 ≤ x) : x.tmod 3 = 0 ∨ x.tmod 3 = 1 ∨ x.tmod 3 = 2 := by
  rw [Int.tmod_eq_emod_of_nonneg h]; omega
theorem filt_succ : ∀ {C : List Int} {i : Int}, C.Nodup → (C.filter (fun x => decide (x < i + 1))).length = (C.filter (fun x => decide (x < i))).length + (if i ∈ C then 1 else 0)
  | [], i, _ => rfl
  | x :: C, i, h => by
    rw [List.nodup_cons] at h
    have ih := filt_succ (i := i) h.2
    by_cases hx : x = i
    · subst hx
      rw [if_neg h.1] at ih
      rw [List.filter_cons_of_pos (by simp; omega), List.filter_cons_of_neg (by simp), if_pos (List.mem_cons_self ..), List.length_cons, ih]
    · have hm : (i ∈ x :: C) = (i ∈ C) := propext ⟨fun e => (List.mem_cons.1 e).resolve_left (fun e => hx e.symm), List.mem_cons_of_mem _⟩
      simp only [hm]
      by_cases hl : x < i
      · rw [List.filter_cons_of_pos (by simp; omega), List.filter_cons_of_pos (by simp; omega), List.length_cons, List.length_cons, ih]; omega
      · rw [List.filter_cons_of_neg (by simp; omega), List.filter_cons_of_neg (by simp; omega), ih]
theorem filt_none {C : List Int} (h : ∀ x ∈ C, 0 ≤ x) : (C.filter (fun x => decide (x < 0))).length = 0 := by
  rw [List.length_eq_zero_iff, List.filter_eq_nil_iff]
  intro x hx
  have := h x hx
  simp; omega
theorem filt_all {C : List Int} {n : Int} (h : ∀ x ∈ C, x < n) : C.filter (fun x => decide (x < n)) = C := by
  rw [List.filter_eq_self]
  intro x hx
  simp [h x hx]
theorem out_Among (xs : List Int) (a c x : Int) : cAmong.out [.l xs, .i a, .i c, .i x] = [.b (decide (x ∈ xs.take a.toNat))] := rfl
theorem out_filled (M : MemSt) (st ks t ls s : Int) : cJFill.out [.u (.mem M), .i st, .i ks, .i t, .i ls, .i s] = [.u (.mem (fill24 M st ks t ls s))] := rfl
section
variable {M : MemSt} {n m kk : Int} {o0 o1 o2 : CoSt} {c0 c1 c2 cp : Int} {T : List (Int × Int)} {d C : List Int} {k : Tree} {env : List (EV U)} {X : Cx U} {R : List (EV U) → List (EV U) → Prop} {ci : Nat} {β : List Bnd}
theorem st_chain {a b : Int} (hc : X.cts[ci]? = some cSChain) (ha : β.map (Bnd.den env) = [.u (.mem M), .i a, .i b, .i n]) (hM : M.fine) (hn : n ≤ 4096)
    (h : ∀ (cc : List Int) (env' : List (EV U)), env ++ [.u (.mem M), .l (chainS M a b n ++ cc), .i (chainS M a b n).length, .i (((chainS M a b n).length + cc.length : Nat) : Int)] = env' → k.sat X R env') : (Tree.callm ci β k).sat X R env := by
  refine st_callm hc ha ⟨_, _, _, _, rfl, hM, hn⟩ (fun o env' hr he => ?_)
  obtain ⟨cc, rfl⟩ := hr
  exact h cc env' he
theorem st_beg0 (hc : X.cts[ci]? = some cBeg0) (ha : β.map (Bnd.den env) = crIns M n .no o1 o2 c0 c1 c2 T d cp ++ [.i m]) (n1 : 1 ≤ n) (n5 : n ≤ 5) (m0 : 0 ≤ m) (m1 : m ≤ 1000) {env' : List (EV U)} (he : env ++ [.u (oA (begO n 0 m)), .u (oB (begO n 0 m)), .u (oC (begO n 0 m))] = env') (h : k.sat X R env') : (Tree.call ci β k).sat X R env :=
  st_call hc ha ⟨_, _, _, _, _, _, _, _, _, _, _, rfl, n1, n5, m0, m1⟩ rfl he h
theorem st_steps0 (hc : X.cts[ci]? = some cSteps0) (ha : β.map (Bnd.den env) = crIns M n o0 o1 o2 c0 c1 c2 T d cp) (J : JInv M n kk C T ⟨o0, c0, 0⟩ ⟨o1, c1, 1⟩ ⟨o2, c2, 2⟩) (hk : kindO o0 ≠ 0) (n1 : 1 ≤ n) (n5 : n ≤ 5) (hk0 : 0 ≤ kk) (hk5 : kk ≤ 500000) (hcp : 2 * cp = ((flatP T ++ d).length : Int))
    (h : ∀ (M' : MemSt) (o' : CoSt) (c' : Int) (T' : List (Int × Int)) (d' : List Int) (cp' : Int) (C' : List Int) (env' : List (EV U)), JInv M' n (kk + 1) C' T' ⟨o', c', 0⟩ ⟨o1, c1, 1⟩ ⟨o2, c2, 2⟩ → remJ M' n o' + 1 ≤ remJ M n o0 → 2 * cp' = ((flatP T' ++ d').length : Int) → env ++ outs9 M' o' c' T' d' cp' = env' → k.sat X R env') : (Tree.callm ci β k).sat X R env := by
  refine st_callm hc ha ⟨_, _, _, _, _, _, _, _, _, _, _, _, _, rfl, J, hk, n1, n5, hk0, hk5, hcp⟩ (fun o env' hr he => ?_)
  obtain ⟨M', o', c', T', d', cp', C', rfl, h1, h2, h3⟩ := hr _ _ _ _ _ _ _ _ _ _ _ _ _ rfl J
  exact h M' o' c' T' d' cp' C' env' h3 h2 h1 he
theorem st_beg1 (hc : X.cts[ci]? = some cBeg1) (ha : β.map (Bnd.den env) = crIns M n o0 .no o2 c0 c1 c2 T d cp ++ [.i m]) (n1 : 1 ≤ n) (n5 : n ≤ 5) (m0 : 0 ≤ m) (m1 : m ≤ 1000) {env' : List (EV U)} (he : env ++ [.u (oA (begO n 1 m)), .u (oB (begO n 1 m)), .u (oC (begO n 1 m))] = env') (h : k.sat X R env') : (Tree.call ci β k).sat X R env :=
  st_call hc ha ⟨_, _, _, _, _, _, _, _, _, _, _, rfl, n1, n5, m0, m1⟩ rfl he h
theorem st_steps1 (hc : X.cts[ci]? = some cSteps1) (ha : β.map (Bnd.den env) = crIns M n o0 o1 o2 c0 c1 c2 T d cp) (J : JInv M n kk C T ⟨o0, c0, 0⟩ ⟨o1, c1, 1⟩ ⟨o2, c2, 2⟩) (hk : kindO o1 ≠ 0) (n1 : 1 ≤ n) (n5 : n ≤ 5) (hk0 : 0 ≤ kk) (hk5 : kk ≤ 500000) (hcp : 2 * cp = ((flatP T ++ d).length : Int))
    (h : ∀ (M' : MemSt) (o' : CoSt) (c' : Int) (T' : List (Int × Int)) (d' : List Int) (cp' : Int) (C' : List Int) (env' : List (EV U)), JInv M' n (kk + 1) C' T' ⟨o0, c0, 0⟩ ⟨o', c', 1⟩ ⟨o2, c2, 2⟩ → remJ M' n o' + 1 ≤ remJ M n o1 → 2 * cp' = ((flatP T' ++ d').length : Int) → env ++ outs9 M' o' c' T' d' cp' = env' → k.sat X R env') : (Tree.callm ci β k).sat X R env := by
  refine st_callm hc ha ⟨_, _, _, _, _, _, _, _, _, _, _, _, _, rfl, J, hk, n1, n5, hk0, hk5, hcp⟩ (fun o env' hr he => ?_)
  obtain ⟨M', o', c', T', d', cp', C', rfl, h1, h2, h3⟩ := hr _ _ _ _ _ _ _ _ _ _ _ _ _ rfl J
  exact h M' o' c' T' d' cp' C' env' h3 h2 h1 he
theorem st_beg2 (hc : X.cts[ci]? = some cBeg2) (ha : β.map (Bnd.den env) = crIns M n o0 o1 .no c0 c1 c2 T d cp ++ [.i m]) (n1 : 1 ≤ n) (n5 : n ≤ 5) (m0 : 0 ≤ m) (m1 : m ≤ 1000) {env' : List (EV U)} (he : env ++ [.u (oA (begO n 2 m)), .u (oB (begO n 2 m)), .u (oC (begO n 2 m))] = env') (h : k.sat X R env') : (Tree.call ci β k).sat X R env :=
  st_call hc ha ⟨_, _, _, _, _, _, _, _, _, _, _, rfl, n1, n5, m0, m1⟩ rfl he h
theorem st_steps2 (hc : X.cts[ci]? = some cSteps2) (ha : β.map (Bnd.den env) = crIns M n o0 o1 o2 c0 c1 c2 T d cp) (J : JInv M n kk C T ⟨o0, c0, 0⟩ ⟨o1, c1, 1⟩ ⟨o2, c2, 2⟩) (hk : kindO o2 ≠ 0) (n1 : 1 ≤ n) (n5 : n ≤ 5) (hk0 : 0 ≤ kk) (hk5 : kk ≤ 500000) (hcp : 2 * cp = ((flatP T ++ d).length : Int))
    (h : ∀ (M' : MemSt) (o' : CoSt) (c' : Int) (T' : List (Int × Int)) (d' : List Int) (cp' : Int) (C' : List Int) (env' : List (EV U)), JInv M' n (kk + 1) C' T' ⟨o0, c0, 0⟩ ⟨o1, c1, 1⟩ ⟨o', c', 2⟩ → remJ M' n o' + 1 ≤ remJ M n o2 → 2 * cp' = ((flatP T' ++ d').length : Int) → env ++ outs9 M' o' c' T' d' cp' = env' → k.sat X R env') : (Tree.callm ci β k).sat X R env := by
  refine st_callm hc ha ⟨_, _, _, _, _, _, _, _, _, _, _, _, _, rfl, J, hk, n1, n5, hk0, hk5, hcp⟩ (fun o env' hr he => ?_)
  obtain ⟨M', o', c', T', d', cp', C', rfl, h1, h2, h3⟩ := hr _ _ _ _ _ _ _ _ _ _ _ _ _ rfl J
  exact h M' o' c' T' d' cp' C' env' h3 h2 h1 he
end
end Go.Proofs.YtdabdbbgaekmdaaGreat
