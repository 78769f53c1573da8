/- The walks of the statements of layer 1, the sixth part: WordOne. -/
import Derived.Test.YtbkaclkbjpdfnaaWlc
import Derived.Test.YtbkaclkbjpdfnaaWp
namespace Go.Proofs.Ytbkaclkbjpdfnaa
open Go.RowKit

theorem ref_facts (x : Int) (hx : isW x) : ∃ a b c, getRefV x = .agg #[.int .i64 a, .int .i64 b, .bool c] ∧ (getRefE x = 5 ∨ getRefE x = 0 ∧ isRef a b c x 0 = true ∧ isRef a b (!c) (marksW x (!c)) 0 = true) := by
  cases h : getRefOk x
  · obtain ⟨e1, e2⟩ := getRefV_no h
    exact ⟨_, _, _, e1, .inl e2⟩
  · obtain ⟨e1, e2⟩ := getRefV_yes h
    refine ⟨_, _, _, e1, .inr ⟨e2, ?_⟩⟩
    unfold getRefOk at h
    obtain ⟨h1, h2⟩ := of_decide_eq_true h
    unfold isRef
    rw [ref_turn _ _ _ h1, h2, h1]
    simp
theorem slot_facts (x : Int) (hx : isW x) : ∃ a b c, getSlotV x = .agg #[.int .i64 a, .bool b, .int .i64 c] ∧ (getSlotE x = 5 ∨ getSlotE x = 0 ∧ isSlot a b c x 0 = true) := by
  cases h : getSlotOk x
  · obtain ⟨e1, e2⟩ := getSlotV_no h
    exact ⟨_, _, _, e1, .inl e2⟩
  · obtain ⟨e1, e2⟩ := getSlotV_yes h
    refine ⟨_, _, _, e1, .inr ⟨e2, ?_⟩⟩
    unfold getSlotOk at h
    obtain ⟨h1, h2⟩ := of_decide_eq_true h
    unfold isSlot
    rw [h2, h1]
    simp
theorem key_facts (x : Int) (hx : isW x) : ∃ a b c, getKeyV x = .agg #[.int .i64 a, .int .i64 b, .int .i64 c] ∧ (getKeyE x = 5 ∨ getKeyE x = 0 ∧ isKey a b c x 0 = true) := by
  cases h : getKeyOk x
  · obtain ⟨e1, e2⟩ := getKeyV_no h
    exact ⟨_, _, _, e1, .inl e2⟩
  · obtain ⟨e1, e2⟩ := getKeyV_yes h
    refine ⟨_, _, _, e1, .inr ⟨e2, ?_⟩⟩
    obtain ⟨h1, h2⟩ := key_one x hx h
    unfold isKey
    rw [h2, h1]
    simp

set_option maxHeartbeats 8000000 in
theorem wordOne_walk (x : Int) (w : World) (hx : isW x) : Calls Try.prog 13 #[.int .u64 x] w fun e w' => e = .returned (.bool true) ∧ Below w.heap.size w w' := by
  obtain ⟨a1, b1, c1, hR, fR⟩ := ref_facts x hx
  obtain ⟨a2, b2, c2, hS, fS⟩ := slot_facts x hx
  obtain ⟨a3, b3, c3, hK, fK⟩ := key_facts x hx
  have HX := Lib.hid hx
  obtain ⟨m1, m2, m3⟩ := marks_facts x hx
  have HT : Hid (isTop (partW x 0 16 - 1) (partW x 16 48) x 0 = true) := by
    obtain ⟨t1, t2⟩ := top_one x hx
    show isTop _ _ _ _ = true
    unfold isTop; rw [t1, t2]; simp
  have HM := Lib.hid (And.intro m1 (And.intro m2 m3))
  have HM1 := Lib.hid (marksW_is x true)
  have HM2 := Lib.hid (marksW_is x false)
  clear hx m1 m2 m3
  generalize hE1 : getRefE x = E1 at fR
  generalize hE2 : getSlotE x = E2 at fS
  generalize hE3 : getKeyE x = E3 at fK
  have HR := Lib.hid (And.intro hR hE1)
  have HS := Lib.hid (And.intro hS hE2)
  have HK := Lib.hid (And.intro hK hE3)
  have HTV := Lib.hid (show getTopV x = .agg #[.int .i64 (partW x 0 16 - 1), .int .i64 (partW x 16 48)] from rfl)
  clear hR hE1 hS hE2 hK hE3
  have FR : ∀ P : Prop, (E1 = 5 → P) → (E1 = 0 → Hid (isRef a1 b1 c1 x 0 = true) → Hid (isRef a1 b1 (!c1) (marksW x (!c1)) 0 = true) → P) → P := by
    intro P h1 h2
    rcases fR with h | ⟨h, i1, i2⟩
    · exact h1 h
    · exact h2 h i1 i2
  have FS : ∀ P : Prop, (E2 = 5 → P) → (E2 = 0 → Hid (isSlot a2 b2 c2 x 0 = true) → P) → P := by
    intro P h1 h2
    rcases fS with h | ⟨h, i1⟩
    · exact h1 h
    · exact h2 h i1
  have FK : ∀ P : Prop, (E3 = 5 → P) → (E3 = 0 → Hid (isKey a3 b3 c3 x 0 = true) → P) → P := by
    intro P h1 h2
    rcases fK with h | ⟨h, i1⟩
    · exact h1 h
    · exact h2 h i1
  clear fR fS fK
  go_enter Try.func13, Try.ntmps13
  go_wp2_with fail
  refine (wordKnown_walk _).mono ?_
  rintro e w0 ⟨rfl, hB0⟩
  go_wp2_with fail
  refine (getRef_any _ _ HX.out).mono ?_
  rintro e w1 ⟨rfl, hb1⟩
  have hB1 : Below w.heap.size w w1 := kb_call hb1 (hB0)
  have hs1 := hB1.size
  clear hb1 hB0
  rw [HR.out.1, HR.out.2]
  go_wp2_with fail
  refine (getSlot_any _ _ HX.out).mono ?_
  rintro e w2 ⟨rfl, hb1⟩
  have q1_0 := k_call hb1 (a := ⟨w1.heap.size, 0, none⟩) (v := .int .i64 a1) (by go_simp)
  have q1_1 := k_call hb1 (a := ⟨w1.heap.size, 1, none⟩) (v := .int .i64 b1) (by go_simp)
  have q1_2 := k_call hb1 (a := ⟨w1.heap.size, 2, none⟩) (v := .bool c1) (by go_simp)
  have z0 := (hb1.frozen (p := ⟨w1.heap.size, 2, none⟩) (by simp)).trans (show _ = false by go_simp)
  have hB2 : Below w.heap.size w w2 := kb_call hb1 (kb_alloc hB1)
  clear hb1 hB1
  rw [HS.out.1, HS.out.2]
  go_wp2_with fail
  refine (getKey_any _ _ HX.out).mono ?_
  rintro e w3 ⟨rfl, hb1⟩
  have q1_0_ := k_call hb1 (k_alloc q1_0); clear q1_0
  have q1_0 := q1_0_; clear q1_0_
  have q1_1_ := k_call hb1 (k_alloc q1_1); clear q1_1
  have q1_1 := q1_1_; clear q1_1_
  have q1_2p := q1_2
  have q1_2_ := k_call hb1 (k_alloc q1_2); clear q1_2
  have q1_2 := q1_2_; clear q1_2_
  have q2_0 := k_call hb1 (a := ⟨w2.heap.size, 0, none⟩) (v := .int .i64 a2) (by go_simp)
  have q2_1 := k_call hb1 (a := ⟨w2.heap.size, 1, none⟩) (v := .bool b2) (by go_simp)
  have q2_2 := k_call hb1 (a := ⟨w2.heap.size, 2, none⟩) (v := .int .i64 c2) (by go_simp)
  have z0_ := (hb1.frozen (p := ⟨w1.heap.size, 2, none⟩) (by simp; have := World.block_lt_of_cell? _ _ q1_2p; simpa using Nat.lt_succ_of_lt this)).trans (show _ = false by rw [World.frozen?_alloc_old _ _ _ (Nat.ne_of_lt (World.block_lt_of_cell? _ _ q1_2p))]; exact z0); clear z0
  have z0 := z0_; clear z0_ q1_2p
  have hB3 : Below w.heap.size w w3 := kb_call hb1 (kb_alloc hB2)
  clear hb1 hB2
  rw [HK.out.1, HK.out.2]
  go_wp2_with fail
  refine (getTop_any _ _ HX.out).mono ?_
  rintro e w4 ⟨rfl, hb1⟩
  have q1_0_ := k_call hb1 (k_alloc q1_0); clear q1_0
  have q1_0 := q1_0_; clear q1_0_
  have q1_1_ := k_call hb1 (k_alloc q1_1); clear q1_1
  have q1_1 := q1_1_; clear q1_1_
  have q1_2p := q1_2
  have q1_2_ := k_call hb1 (k_alloc q1_2); clear q1_2
  have q1_2 := q1_2_; clear q1_2_
  have q2_0_ := k_call hb1 (k_alloc q2_0); clear q2_0
  have q2_0 := q2_0_; clear q2_0_
  have q2_1_ := k_call hb1 (k_alloc q2_1); clear q2_1
  have q2_1 := q2_1_; clear q2_1_
  have q2_2_ := k_call hb1 (k_alloc q2_2); clear q2_2
  have q2_2 := q2_2_; clear q2_2_
  have q3_0 := k_call hb1 (a := ⟨w3.heap.size, 0, none⟩) (v := .int .i64 a3) (by go_simp)
  have q3_1 := k_call hb1 (a := ⟨w3.heap.size, 1, none⟩) (v := .int .i64 b3) (by go_simp)
  have q3_2 := k_call hb1 (a := ⟨w3.heap.size, 2, none⟩) (v := .int .i64 c3) (by go_simp)
  have z0_ := (hb1.frozen (p := ⟨w1.heap.size, 2, none⟩) (by simp; have := World.block_lt_of_cell? _ _ q1_2p; simpa using Nat.lt_succ_of_lt this)).trans (show _ = false by rw [World.frozen?_alloc_old _ _ _ (Nat.ne_of_lt (World.block_lt_of_cell? _ _ q1_2p))]; exact z0); clear z0
  have z0 := z0_; clear z0_ q1_2p
  have hB4 : Below w.heap.size w w4 := kb_call hb1 (kb_alloc hB3)
  clear hb1 hB3
  rw [HTV.out]
  have z0_ := World.frozen?_alloc_old w4 (.cells #[.int .i64 (partW x 0 16 - 1), .int .i64 (partW x 16 48)] 25) _ (Nat.ne_of_lt (World.block_lt_of_cell? _ _ q1_2))
  rw [z0] at z0_; clear z0; have z0 := z0_; clear z0_
  have q1_0_ := k_alloc (o := (.cells #[.int .i64 (partW x 0 16 - 1), .int .i64 (partW x 16 48)] 25)) q1_0; clear q1_0; have q1_0 := q1_0_; clear q1_0_
  have q1_1_ := k_alloc (o := (.cells #[.int .i64 (partW x 0 16 - 1), .int .i64 (partW x 16 48)] 25)) q1_1; clear q1_1; have q1_1 := q1_1_; clear q1_1_
  have q1_2_ := k_alloc (o := (.cells #[.int .i64 (partW x 0 16 - 1), .int .i64 (partW x 16 48)] 25)) q1_2; clear q1_2; have q1_2 := q1_2_; clear q1_2_
  have q2_0_ := k_alloc (o := (.cells #[.int .i64 (partW x 0 16 - 1), .int .i64 (partW x 16 48)] 25)) q2_0; clear q2_0; have q2_0 := q2_0_; clear q2_0_
  have q2_1_ := k_alloc (o := (.cells #[.int .i64 (partW x 0 16 - 1), .int .i64 (partW x 16 48)] 25)) q2_1; clear q2_1; have q2_1 := q2_1_; clear q2_1_
  have q2_2_ := k_alloc (o := (.cells #[.int .i64 (partW x 0 16 - 1), .int .i64 (partW x 16 48)] 25)) q2_2; clear q2_2; have q2_2 := q2_2_; clear q2_2_
  have q3_0_ := k_alloc (o := (.cells #[.int .i64 (partW x 0 16 - 1), .int .i64 (partW x 16 48)] 25)) q3_0; clear q3_0; have q3_0 := q3_0_; clear q3_0_
  have q3_1_ := k_alloc (o := (.cells #[.int .i64 (partW x 0 16 - 1), .int .i64 (partW x 16 48)] 25)) q3_1; clear q3_1; have q3_1 := q3_1_; clear q3_1_
  have q3_2_ := k_alloc (o := (.cells #[.int .i64 (partW x 0 16 - 1), .int .i64 (partW x 16 48)] 25)) q3_2; clear q3_2; have q3_2 := q3_2_; clear q3_2_
  have q4_0 : (w4.alloc (.cells #[.int .i64 (partW x 0 16 - 1), .int .i64 (partW x 16 48)] 25)).cell? ⟨w4.heap.size, 0, none⟩ = some (.int .i64 (partW x 0 16 - 1)) := by go_simp
  have q4_1 : (w4.alloc (.cells #[.int .i64 (partW x 0 16 - 1), .int .i64 (partW x 16 48)] 25)).cell? ⟨w4.heap.size, 1, none⟩ = some (.int .i64 (partW x 16 48)) := by go_simp
  have hB5 := kb_alloc (o := (.cells #[.int .i64 (partW x 0 16 - 1), .int .i64 (partW x 16 48)] 25)) hB4
  clear hB4
  refine FR _ (fun e1 => ?_) (fun e1 i1 i2 => ?_)
  all_goals subst e1
  all_goals refine FS _ (fun e2 => ?_) (fun e2 j1 => ?_)
  all_goals subst e2
  all_goals refine FK _ (fun e3 => ?_) (fun e3 l1 => ?_)
  all_goals subst e3
  all_goals clear FR FS FK
  next =>
    go_wp2_with fail
    generalize (w4.alloc (.cells #[.int .i64 (partW x 0 16 - 1), .int .i64 (partW x 16 48)] 25)) = w5 at *
    generalize w4.heap.size = b4 at *
    have hB := hB5
    clear hB5
    go_wp2_with (first
      | (go_at_call 46; refine (lref_any _ _ _ _ _ _).mono ?_; rintro e w' ⟨rfl, hb1⟩; have zz := (hb1.frozen (p := ⟨w1.heap.size, 2, none⟩) (World.block_lt_of_cell? _ _ q1_2)).trans z0; clear z0; have z0 := zz; clear zz; have qq := k_call hb1 q1_0; clear q1_0; have q1_0 := qq; clear qq; have qq := k_call hb1 q1_1; clear q1_1; have q1_1 := qq; clear qq; have qq := k_call hb1 q1_2; clear q1_2; have q1_2 := qq; clear qq; have qq := k_call hb1 q2_0; clear q2_0; have q2_0 := qq; clear qq; have qq := k_call hb1 q2_1; clear q2_1; have q2_1 := qq; clear qq; have qq := k_call hb1 q2_2; clear q2_2; have q2_2 := qq; clear qq; have qq := k_call hb1 q3_0; clear q3_0; have q3_0 := qq; clear qq; have qq := k_call hb1 q3_1; clear q3_1; have q3_1 := qq; clear qq; have qq := k_call hb1 q3_2; clear q3_2; have q3_2 := qq; clear qq; have qq := k_call hb1 q4_0; clear q4_0; have q4_0 := qq; clear qq; have qq := k_call hb1 q4_1; clear q4_1; have q4_1 := qq; clear qq; have hBn := kb_call hb1 hB; clear hB hb1; have hB := hBn; clear hBn; rw [i1.out])
      | (go_at_call 50; refine (lslot_any _ _ _ _ _ _).mono ?_; rintro e w' ⟨rfl, hb1⟩; have zz := (hb1.frozen (p := ⟨w1.heap.size, 2, none⟩) (World.block_lt_of_cell? _ _ q1_2)).trans z0; clear z0; have z0 := zz; clear zz; have qq := k_call hb1 q1_0; clear q1_0; have q1_0 := qq; clear qq; have qq := k_call hb1 q1_1; clear q1_1; have q1_1 := qq; clear qq; have qq := k_call hb1 q1_2; clear q1_2; have q1_2 := qq; clear qq; have qq := k_call hb1 q2_0; clear q2_0; have q2_0 := qq; clear qq; have qq := k_call hb1 q2_1; clear q2_1; have q2_1 := qq; clear qq; have qq := k_call hb1 q2_2; clear q2_2; have q2_2 := qq; clear qq; have qq := k_call hb1 q3_0; clear q3_0; have q3_0 := qq; clear qq; have qq := k_call hb1 q3_1; clear q3_1; have q3_1 := qq; clear qq; have qq := k_call hb1 q3_2; clear q3_2; have q3_2 := qq; clear qq; have qq := k_call hb1 q4_0; clear q4_0; have q4_0 := qq; clear qq; have qq := k_call hb1 q4_1; clear q4_1; have q4_1 := qq; clear qq; have hBn := kb_call hb1 hB; clear hB hb1; have hB := hBn; clear hBn; rw [j1.out])
      | (go_at_call 51; refine (lkey_any _ _ _ _ _ _).mono ?_; rintro e w' ⟨rfl, hb1⟩; have zz := (hb1.frozen (p := ⟨w1.heap.size, 2, none⟩) (World.block_lt_of_cell? _ _ q1_2)).trans z0; clear z0; have z0 := zz; clear zz; have qq := k_call hb1 q1_0; clear q1_0; have q1_0 := qq; clear qq; have qq := k_call hb1 q1_1; clear q1_1; have q1_1 := qq; clear qq; have qq := k_call hb1 q1_2; clear q1_2; have q1_2 := qq; clear qq; have qq := k_call hb1 q2_0; clear q2_0; have q2_0 := qq; clear qq; have qq := k_call hb1 q2_1; clear q2_1; have q2_1 := qq; clear qq; have qq := k_call hb1 q2_2; clear q2_2; have q2_2 := qq; clear qq; have qq := k_call hb1 q3_0; clear q3_0; have q3_0 := qq; clear qq; have qq := k_call hb1 q3_1; clear q3_1; have q3_1 := qq; clear qq; have qq := k_call hb1 q3_2; clear q3_2; have q3_2 := qq; clear qq; have qq := k_call hb1 q4_0; clear q4_0; have q4_0 := qq; clear qq; have qq := k_call hb1 q4_1; clear q4_1; have q4_1 := qq; clear qq; have hBn := kb_call hb1 hB; clear hB hb1; have hB := hBn; clear hBn; rw [l1.out])
      | (go_at_call 61; refine (ltop_any _ _ _ _ _).mono ?_; rintro e w' ⟨rfl, hb1⟩; have zz := (hb1.frozen (p := ⟨w1.heap.size, 2, none⟩) (World.block_lt_of_cell? _ _ q1_2)).trans z0; clear z0; have z0 := zz; clear zz; have qq := k_call hb1 q1_0; clear q1_0; have q1_0 := qq; clear qq; have qq := k_call hb1 q1_1; clear q1_1; have q1_1 := qq; clear qq; have qq := k_call hb1 q1_2; clear q1_2; have q1_2 := qq; clear qq; have qq := k_call hb1 q2_0; clear q2_0; have q2_0 := qq; clear qq; have qq := k_call hb1 q2_1; clear q2_1; have q2_1 := qq; clear qq; have qq := k_call hb1 q2_2; clear q2_2; have q2_2 := qq; clear qq; have qq := k_call hb1 q3_0; clear q3_0; have q3_0 := qq; clear qq; have qq := k_call hb1 q3_1; clear q3_1; have q3_1 := qq; clear qq; have qq := k_call hb1 q3_2; clear q3_2; have q3_2 := qq; clear qq; have qq := k_call hb1 q4_0; clear q4_0; have q4_0 := qq; clear qq; have qq := k_call hb1 q4_1; clear q4_1; have q4_1 := qq; clear qq; have hBn := kb_call hb1 hB; clear hB hb1; have hB := hBn; clear hBn; rw [HT.out])
      | (go_at_call 52; refine (marks_any _ _ _ (by first | exact HX.out | exact HM1.out | exact HM2.out)).mono ?_; rintro e w' ⟨rfl, hb1⟩; have hBn := kb_call hb1 hB; clear hB hb1; have hB := hBn; clear hBn; try rw [HM.out.2.2])
      | (go_at_call 53; refine (marked_any _ _ (by first | exact HX.out | exact HM1.out | exact HM2.out)).mono ?_; rintro e w' ⟨rfl, rfl⟩; first | rw [HM.out.1] | rw [HM.out.2.1] | skip))
    go_ret
    exact ⟨rfl, hB⟩
  next =>
    go_wp2_with fail
    generalize (w4.alloc (.cells #[.int .i64 (partW x 0 16 - 1), .int .i64 (partW x 16 48)] 25)) = w5 at *
    generalize w4.heap.size = b4 at *
    have hB := hB5
    clear hB5
    go_wp2_with (first
      | (go_at_call 46; refine (lref_any _ _ _ _ _ _).mono ?_; rintro e w' ⟨rfl, hb1⟩; have zz := (hb1.frozen (p := ⟨w1.heap.size, 2, none⟩) (World.block_lt_of_cell? _ _ q1_2)).trans z0; clear z0; have z0 := zz; clear zz; have qq := k_call hb1 q1_0; clear q1_0; have q1_0 := qq; clear qq; have qq := k_call hb1 q1_1; clear q1_1; have q1_1 := qq; clear qq; have qq := k_call hb1 q1_2; clear q1_2; have q1_2 := qq; clear qq; have qq := k_call hb1 q2_0; clear q2_0; have q2_0 := qq; clear qq; have qq := k_call hb1 q2_1; clear q2_1; have q2_1 := qq; clear qq; have qq := k_call hb1 q2_2; clear q2_2; have q2_2 := qq; clear qq; have qq := k_call hb1 q3_0; clear q3_0; have q3_0 := qq; clear qq; have qq := k_call hb1 q3_1; clear q3_1; have q3_1 := qq; clear qq; have qq := k_call hb1 q3_2; clear q3_2; have q3_2 := qq; clear qq; have qq := k_call hb1 q4_0; clear q4_0; have q4_0 := qq; clear qq; have qq := k_call hb1 q4_1; clear q4_1; have q4_1 := qq; clear qq; have hBn := kb_call hb1 hB; clear hB hb1; have hB := hBn; clear hBn; rw [i1.out])
      | (go_at_call 50; refine (lslot_any _ _ _ _ _ _).mono ?_; rintro e w' ⟨rfl, hb1⟩; have zz := (hb1.frozen (p := ⟨w1.heap.size, 2, none⟩) (World.block_lt_of_cell? _ _ q1_2)).trans z0; clear z0; have z0 := zz; clear zz; have qq := k_call hb1 q1_0; clear q1_0; have q1_0 := qq; clear qq; have qq := k_call hb1 q1_1; clear q1_1; have q1_1 := qq; clear qq; have qq := k_call hb1 q1_2; clear q1_2; have q1_2 := qq; clear qq; have qq := k_call hb1 q2_0; clear q2_0; have q2_0 := qq; clear qq; have qq := k_call hb1 q2_1; clear q2_1; have q2_1 := qq; clear qq; have qq := k_call hb1 q2_2; clear q2_2; have q2_2 := qq; clear qq; have qq := k_call hb1 q3_0; clear q3_0; have q3_0 := qq; clear qq; have qq := k_call hb1 q3_1; clear q3_1; have q3_1 := qq; clear qq; have qq := k_call hb1 q3_2; clear q3_2; have q3_2 := qq; clear qq; have qq := k_call hb1 q4_0; clear q4_0; have q4_0 := qq; clear qq; have qq := k_call hb1 q4_1; clear q4_1; have q4_1 := qq; clear qq; have hBn := kb_call hb1 hB; clear hB hb1; have hB := hBn; clear hBn; rw [j1.out])
      | (go_at_call 51; refine (lkey_any _ _ _ _ _ _).mono ?_; rintro e w' ⟨rfl, hb1⟩; have zz := (hb1.frozen (p := ⟨w1.heap.size, 2, none⟩) (World.block_lt_of_cell? _ _ q1_2)).trans z0; clear z0; have z0 := zz; clear zz; have qq := k_call hb1 q1_0; clear q1_0; have q1_0 := qq; clear qq; have qq := k_call hb1 q1_1; clear q1_1; have q1_1 := qq; clear qq; have qq := k_call hb1 q1_2; clear q1_2; have q1_2 := qq; clear qq; have qq := k_call hb1 q2_0; clear q2_0; have q2_0 := qq; clear qq; have qq := k_call hb1 q2_1; clear q2_1; have q2_1 := qq; clear qq; have qq := k_call hb1 q2_2; clear q2_2; have q2_2 := qq; clear qq; have qq := k_call hb1 q3_0; clear q3_0; have q3_0 := qq; clear qq; have qq := k_call hb1 q3_1; clear q3_1; have q3_1 := qq; clear qq; have qq := k_call hb1 q3_2; clear q3_2; have q3_2 := qq; clear qq; have qq := k_call hb1 q4_0; clear q4_0; have q4_0 := qq; clear qq; have qq := k_call hb1 q4_1; clear q4_1; have q4_1 := qq; clear qq; have hBn := kb_call hb1 hB; clear hB hb1; have hB := hBn; clear hBn; rw [l1.out])
      | (go_at_call 61; refine (ltop_any _ _ _ _ _).mono ?_; rintro e w' ⟨rfl, hb1⟩; have zz := (hb1.frozen (p := ⟨w1.heap.size, 2, none⟩) (World.block_lt_of_cell? _ _ q1_2)).trans z0; clear z0; have z0 := zz; clear zz; have qq := k_call hb1 q1_0; clear q1_0; have q1_0 := qq; clear qq; have qq := k_call hb1 q1_1; clear q1_1; have q1_1 := qq; clear qq; have qq := k_call hb1 q1_2; clear q1_2; have q1_2 := qq; clear qq; have qq := k_call hb1 q2_0; clear q2_0; have q2_0 := qq; clear qq; have qq := k_call hb1 q2_1; clear q2_1; have q2_1 := qq; clear qq; have qq := k_call hb1 q2_2; clear q2_2; have q2_2 := qq; clear qq; have qq := k_call hb1 q3_0; clear q3_0; have q3_0 := qq; clear qq; have qq := k_call hb1 q3_1; clear q3_1; have q3_1 := qq; clear qq; have qq := k_call hb1 q3_2; clear q3_2; have q3_2 := qq; clear qq; have qq := k_call hb1 q4_0; clear q4_0; have q4_0 := qq; clear qq; have qq := k_call hb1 q4_1; clear q4_1; have q4_1 := qq; clear qq; have hBn := kb_call hb1 hB; clear hB hb1; have hB := hBn; clear hBn; rw [HT.out])
      | (go_at_call 52; refine (marks_any _ _ _ (by first | exact HX.out | exact HM1.out | exact HM2.out)).mono ?_; rintro e w' ⟨rfl, hb1⟩; have hBn := kb_call hb1 hB; clear hB hb1; have hB := hBn; clear hBn; try rw [HM.out.2.2])
      | (go_at_call 53; refine (marked_any _ _ (by first | exact HX.out | exact HM1.out | exact HM2.out)).mono ?_; rintro e w' ⟨rfl, rfl⟩; first | rw [HM.out.1] | rw [HM.out.2.1] | skip))
    go_ret
    exact ⟨rfl, hB⟩
  next =>
    go_wp2_with fail
    generalize (w4.alloc (.cells #[.int .i64 (partW x 0 16 - 1), .int .i64 (partW x 16 48)] 25)) = w5 at *
    generalize w4.heap.size = b4 at *
    have hB := hB5
    clear hB5
    go_wp2_with (first
      | (go_at_call 46; refine (lref_any _ _ _ _ _ _).mono ?_; rintro e w' ⟨rfl, hb1⟩; have zz := (hb1.frozen (p := ⟨w1.heap.size, 2, none⟩) (World.block_lt_of_cell? _ _ q1_2)).trans z0; clear z0; have z0 := zz; clear zz; have qq := k_call hb1 q1_0; clear q1_0; have q1_0 := qq; clear qq; have qq := k_call hb1 q1_1; clear q1_1; have q1_1 := qq; clear qq; have qq := k_call hb1 q1_2; clear q1_2; have q1_2 := qq; clear qq; have qq := k_call hb1 q2_0; clear q2_0; have q2_0 := qq; clear qq; have qq := k_call hb1 q2_1; clear q2_1; have q2_1 := qq; clear qq; have qq := k_call hb1 q2_2; clear q2_2; have q2_2 := qq; clear qq; have qq := k_call hb1 q3_0; clear q3_0; have q3_0 := qq; clear qq; have qq := k_call hb1 q3_1; clear q3_1; have q3_1 := qq; clear qq; have qq := k_call hb1 q3_2; clear q3_2; have q3_2 := qq; clear qq; have qq := k_call hb1 q4_0; clear q4_0; have q4_0 := qq; clear qq; have qq := k_call hb1 q4_1; clear q4_1; have q4_1 := qq; clear qq; have hBn := kb_call hb1 hB; clear hB hb1; have hB := hBn; clear hBn; rw [i1.out])
      | (go_at_call 50; refine (lslot_any _ _ _ _ _ _).mono ?_; rintro e w' ⟨rfl, hb1⟩; have zz := (hb1.frozen (p := ⟨w1.heap.size, 2, none⟩) (World.block_lt_of_cell? _ _ q1_2)).trans z0; clear z0; have z0 := zz; clear zz; have qq := k_call hb1 q1_0; clear q1_0; have q1_0 := qq; clear qq; have qq := k_call hb1 q1_1; clear q1_1; have q1_1 := qq; clear qq; have qq := k_call hb1 q1_2; clear q1_2; have q1_2 := qq; clear qq; have qq := k_call hb1 q2_0; clear q2_0; have q2_0 := qq; clear qq; have qq := k_call hb1 q2_1; clear q2_1; have q2_1 := qq; clear qq; have qq := k_call hb1 q2_2; clear q2_2; have q2_2 := qq; clear qq; have qq := k_call hb1 q3_0; clear q3_0; have q3_0 := qq; clear qq; have qq := k_call hb1 q3_1; clear q3_1; have q3_1 := qq; clear qq; have qq := k_call hb1 q3_2; clear q3_2; have q3_2 := qq; clear qq; have qq := k_call hb1 q4_0; clear q4_0; have q4_0 := qq; clear qq; have qq := k_call hb1 q4_1; clear q4_1; have q4_1 := qq; clear qq; have hBn := kb_call hb1 hB; clear hB hb1; have hB := hBn; clear hBn; rw [j1.out])
      | (go_at_call 51; refine (lkey_any _ _ _ _ _ _).mono ?_; rintro e w' ⟨rfl, hb1⟩; have zz := (hb1.frozen (p := ⟨w1.heap.size, 2, none⟩) (World.block_lt_of_cell? _ _ q1_2)).trans z0; clear z0; have z0 := zz; clear zz; have qq := k_call hb1 q1_0; clear q1_0; have q1_0 := qq; clear qq; have qq := k_call hb1 q1_1; clear q1_1; have q1_1 := qq; clear qq; have qq := k_call hb1 q1_2; clear q1_2; have q1_2 := qq; clear qq; have qq := k_call hb1 q2_0; clear q2_0; have q2_0 := qq; clear qq; have qq := k_call hb1 q2_1; clear q2_1; have q2_1 := qq; clear qq; have qq := k_call hb1 q2_2; clear q2_2; have q2_2 := qq; clear qq; have qq := k_call hb1 q3_0; clear q3_0; have q3_0 := qq; clear qq; have qq := k_call hb1 q3_1; clear q3_1; have q3_1 := qq; clear qq; have qq := k_call hb1 q3_2; clear q3_2; have q3_2 := qq; clear qq; have qq := k_call hb1 q4_0; clear q4_0; have q4_0 := qq; clear qq; have qq := k_call hb1 q4_1; clear q4_1; have q4_1 := qq; clear qq; have hBn := kb_call hb1 hB; clear hB hb1; have hB := hBn; clear hBn; rw [l1.out])
      | (go_at_call 61; refine (ltop_any _ _ _ _ _).mono ?_; rintro e w' ⟨rfl, hb1⟩; have zz := (hb1.frozen (p := ⟨w1.heap.size, 2, none⟩) (World.block_lt_of_cell? _ _ q1_2)).trans z0; clear z0; have z0 := zz; clear zz; have qq := k_call hb1 q1_0; clear q1_0; have q1_0 := qq; clear qq; have qq := k_call hb1 q1_1; clear q1_1; have q1_1 := qq; clear qq; have qq := k_call hb1 q1_2; clear q1_2; have q1_2 := qq; clear qq; have qq := k_call hb1 q2_0; clear q2_0; have q2_0 := qq; clear qq; have qq := k_call hb1 q2_1; clear q2_1; have q2_1 := qq; clear qq; have qq := k_call hb1 q2_2; clear q2_2; have q2_2 := qq; clear qq; have qq := k_call hb1 q3_0; clear q3_0; have q3_0 := qq; clear qq; have qq := k_call hb1 q3_1; clear q3_1; have q3_1 := qq; clear qq; have qq := k_call hb1 q3_2; clear q3_2; have q3_2 := qq; clear qq; have qq := k_call hb1 q4_0; clear q4_0; have q4_0 := qq; clear qq; have qq := k_call hb1 q4_1; clear q4_1; have q4_1 := qq; clear qq; have hBn := kb_call hb1 hB; clear hB hb1; have hB := hBn; clear hBn; rw [HT.out])
      | (go_at_call 52; refine (marks_any _ _ _ (by first | exact HX.out | exact HM1.out | exact HM2.out)).mono ?_; rintro e w' ⟨rfl, hb1⟩; have hBn := kb_call hb1 hB; clear hB hb1; have hB := hBn; clear hBn; try rw [HM.out.2.2])
      | (go_at_call 53; refine (marked_any _ _ (by first | exact HX.out | exact HM1.out | exact HM2.out)).mono ?_; rintro e w' ⟨rfl, rfl⟩; first | rw [HM.out.1] | rw [HM.out.2.1] | skip))
    go_ret
    exact ⟨rfl, hB⟩
  next =>
    go_wp2_with fail
    generalize (w4.alloc (.cells #[.int .i64 (partW x 0 16 - 1), .int .i64 (partW x 16 48)] 25)) = w5 at *
    generalize w4.heap.size = b4 at *
    have hB := hB5
    clear hB5
    go_wp2_with (first
      | (go_at_call 46; refine (lref_any _ _ _ _ _ _).mono ?_; rintro e w' ⟨rfl, hb1⟩; have zz := (hb1.frozen (p := ⟨w1.heap.size, 2, none⟩) (World.block_lt_of_cell? _ _ q1_2)).trans z0; clear z0; have z0 := zz; clear zz; have qq := k_call hb1 q1_0; clear q1_0; have q1_0 := qq; clear qq; have qq := k_call hb1 q1_1; clear q1_1; have q1_1 := qq; clear qq; have qq := k_call hb1 q1_2; clear q1_2; have q1_2 := qq; clear qq; have qq := k_call hb1 q2_0; clear q2_0; have q2_0 := qq; clear qq; have qq := k_call hb1 q2_1; clear q2_1; have q2_1 := qq; clear qq; have qq := k_call hb1 q2_2; clear q2_2; have q2_2 := qq; clear qq; have qq := k_call hb1 q3_0; clear q3_0; have q3_0 := qq; clear qq; have qq := k_call hb1 q3_1; clear q3_1; have q3_1 := qq; clear qq; have qq := k_call hb1 q3_2; clear q3_2; have q3_2 := qq; clear qq; have qq := k_call hb1 q4_0; clear q4_0; have q4_0 := qq; clear qq; have qq := k_call hb1 q4_1; clear q4_1; have q4_1 := qq; clear qq; have hBn := kb_call hb1 hB; clear hB hb1; have hB := hBn; clear hBn; rw [i1.out])
      | (go_at_call 50; refine (lslot_any _ _ _ _ _ _).mono ?_; rintro e w' ⟨rfl, hb1⟩; have zz := (hb1.frozen (p := ⟨w1.heap.size, 2, none⟩) (World.block_lt_of_cell? _ _ q1_2)).trans z0; clear z0; have z0 := zz; clear zz; have qq := k_call hb1 q1_0; clear q1_0; have q1_0 := qq; clear qq; have qq := k_call hb1 q1_1; clear q1_1; have q1_1 := qq; clear qq; have qq := k_call hb1 q1_2; clear q1_2; have q1_2 := qq; clear qq; have qq := k_call hb1 q2_0; clear q2_0; have q2_0 := qq; clear qq; have qq := k_call hb1 q2_1; clear q2_1; have q2_1 := qq; clear qq; have qq := k_call hb1 q2_2; clear q2_2; have q2_2 := qq; clear qq; have qq := k_call hb1 q3_0; clear q3_0; have q3_0 := qq; clear qq; have qq := k_call hb1 q3_1; clear q3_1; have q3_1 := qq; clear qq; have qq := k_call hb1 q3_2; clear q3_2; have q3_2 := qq; clear qq; have qq := k_call hb1 q4_0; clear q4_0; have q4_0 := qq; clear qq; have qq := k_call hb1 q4_1; clear q4_1; have q4_1 := qq; clear qq; have hBn := kb_call hb1 hB; clear hB hb1; have hB := hBn; clear hBn; rw [j1.out])
      | (go_at_call 51; refine (lkey_any _ _ _ _ _ _).mono ?_; rintro e w' ⟨rfl, hb1⟩; have zz := (hb1.frozen (p := ⟨w1.heap.size, 2, none⟩) (World.block_lt_of_cell? _ _ q1_2)).trans z0; clear z0; have z0 := zz; clear zz; have qq := k_call hb1 q1_0; clear q1_0; have q1_0 := qq; clear qq; have qq := k_call hb1 q1_1; clear q1_1; have q1_1 := qq; clear qq; have qq := k_call hb1 q1_2; clear q1_2; have q1_2 := qq; clear qq; have qq := k_call hb1 q2_0; clear q2_0; have q2_0 := qq; clear qq; have qq := k_call hb1 q2_1; clear q2_1; have q2_1 := qq; clear qq; have qq := k_call hb1 q2_2; clear q2_2; have q2_2 := qq; clear qq; have qq := k_call hb1 q3_0; clear q3_0; have q3_0 := qq; clear qq; have qq := k_call hb1 q3_1; clear q3_1; have q3_1 := qq; clear qq; have qq := k_call hb1 q3_2; clear q3_2; have q3_2 := qq; clear qq; have qq := k_call hb1 q4_0; clear q4_0; have q4_0 := qq; clear qq; have qq := k_call hb1 q4_1; clear q4_1; have q4_1 := qq; clear qq; have hBn := kb_call hb1 hB; clear hB hb1; have hB := hBn; clear hBn; rw [l1.out])
      | (go_at_call 61; refine (ltop_any _ _ _ _ _).mono ?_; rintro e w' ⟨rfl, hb1⟩; have zz := (hb1.frozen (p := ⟨w1.heap.size, 2, none⟩) (World.block_lt_of_cell? _ _ q1_2)).trans z0; clear z0; have z0 := zz; clear zz; have qq := k_call hb1 q1_0; clear q1_0; have q1_0 := qq; clear qq; have qq := k_call hb1 q1_1; clear q1_1; have q1_1 := qq; clear qq; have qq := k_call hb1 q1_2; clear q1_2; have q1_2 := qq; clear qq; have qq := k_call hb1 q2_0; clear q2_0; have q2_0 := qq; clear qq; have qq := k_call hb1 q2_1; clear q2_1; have q2_1 := qq; clear qq; have qq := k_call hb1 q2_2; clear q2_2; have q2_2 := qq; clear qq; have qq := k_call hb1 q3_0; clear q3_0; have q3_0 := qq; clear qq; have qq := k_call hb1 q3_1; clear q3_1; have q3_1 := qq; clear qq; have qq := k_call hb1 q3_2; clear q3_2; have q3_2 := qq; clear qq; have qq := k_call hb1 q4_0; clear q4_0; have q4_0 := qq; clear qq; have qq := k_call hb1 q4_1; clear q4_1; have q4_1 := qq; clear qq; have hBn := kb_call hb1 hB; clear hB hb1; have hB := hBn; clear hBn; rw [HT.out])
      | (go_at_call 52; refine (marks_any _ _ _ (by first | exact HX.out | exact HM1.out | exact HM2.out)).mono ?_; rintro e w' ⟨rfl, hb1⟩; have hBn := kb_call hb1 hB; clear hB hb1; have hB := hBn; clear hBn; try rw [HM.out.2.2])
      | (go_at_call 53; refine (marked_any _ _ (by first | exact HX.out | exact HM1.out | exact HM2.out)).mono ?_; rintro e w' ⟨rfl, rfl⟩; first | rw [HM.out.1] | rw [HM.out.2.1] | skip))
    go_ret
    exact ⟨rfl, hB⟩
  next =>
    go_wp2_with fail
    generalize (w4.alloc (.cells #[.int .i64 (partW x 0 16 - 1), .int .i64 (partW x 16 48)] 25)) = w5 at *
    generalize w4.heap.size = b4 at *
    have hB := hB5
    clear hB5
    go_wp2_with (first
      | (go_at_call 46; refine (lref_any _ _ _ _ _ _).mono ?_; rintro e w' ⟨rfl, hb1⟩; have zz := (hb1.frozen (p := ⟨w1.heap.size, 2, none⟩) (World.block_lt_of_cell? _ _ q1_2)).trans z0; clear z0; have z0 := zz; clear zz; have qq := k_call hb1 q1_0; clear q1_0; have q1_0 := qq; clear qq; have qq := k_call hb1 q1_1; clear q1_1; have q1_1 := qq; clear qq; have qq := k_call hb1 q1_2; clear q1_2; have q1_2 := qq; clear qq; have qq := k_call hb1 q2_0; clear q2_0; have q2_0 := qq; clear qq; have qq := k_call hb1 q2_1; clear q2_1; have q2_1 := qq; clear qq; have qq := k_call hb1 q2_2; clear q2_2; have q2_2 := qq; clear qq; have qq := k_call hb1 q3_0; clear q3_0; have q3_0 := qq; clear qq; have qq := k_call hb1 q3_1; clear q3_1; have q3_1 := qq; clear qq; have qq := k_call hb1 q3_2; clear q3_2; have q3_2 := qq; clear qq; have qq := k_call hb1 q4_0; clear q4_0; have q4_0 := qq; clear qq; have qq := k_call hb1 q4_1; clear q4_1; have q4_1 := qq; clear qq; have hBn := kb_call hb1 hB; clear hB hb1; have hB := hBn; clear hBn; rw [i1.out])
      | (go_at_call 50; refine (lslot_any _ _ _ _ _ _).mono ?_; rintro e w' ⟨rfl, hb1⟩; have zz := (hb1.frozen (p := ⟨w1.heap.size, 2, none⟩) (World.block_lt_of_cell? _ _ q1_2)).trans z0; clear z0; have z0 := zz; clear zz; have qq := k_call hb1 q1_0; clear q1_0; have q1_0 := qq; clear qq; have qq := k_call hb1 q1_1; clear q1_1; have q1_1 := qq; clear qq; have qq := k_call hb1 q1_2; clear q1_2; have q1_2 := qq; clear qq; have qq := k_call hb1 q2_0; clear q2_0; have q2_0 := qq; clear qq; have qq := k_call hb1 q2_1; clear q2_1; have q2_1 := qq; clear qq; have qq := k_call hb1 q2_2; clear q2_2; have q2_2 := qq; clear qq; have qq := k_call hb1 q3_0; clear q3_0; have q3_0 := qq; clear qq; have qq := k_call hb1 q3_1; clear q3_1; have q3_1 := qq; clear qq; have qq := k_call hb1 q3_2; clear q3_2; have q3_2 := qq; clear qq; have qq := k_call hb1 q4_0; clear q4_0; have q4_0 := qq; clear qq; have qq := k_call hb1 q4_1; clear q4_1; have q4_1 := qq; clear qq; have hBn := kb_call hb1 hB; clear hB hb1; have hB := hBn; clear hBn; rw [j1.out])
      | (go_at_call 51; refine (lkey_any _ _ _ _ _ _).mono ?_; rintro e w' ⟨rfl, hb1⟩; have zz := (hb1.frozen (p := ⟨w1.heap.size, 2, none⟩) (World.block_lt_of_cell? _ _ q1_2)).trans z0; clear z0; have z0 := zz; clear zz; have qq := k_call hb1 q1_0; clear q1_0; have q1_0 := qq; clear qq; have qq := k_call hb1 q1_1; clear q1_1; have q1_1 := qq; clear qq; have qq := k_call hb1 q1_2; clear q1_2; have q1_2 := qq; clear qq; have qq := k_call hb1 q2_0; clear q2_0; have q2_0 := qq; clear qq; have qq := k_call hb1 q2_1; clear q2_1; have q2_1 := qq; clear qq; have qq := k_call hb1 q2_2; clear q2_2; have q2_2 := qq; clear qq; have qq := k_call hb1 q3_0; clear q3_0; have q3_0 := qq; clear qq; have qq := k_call hb1 q3_1; clear q3_1; have q3_1 := qq; clear qq; have qq := k_call hb1 q3_2; clear q3_2; have q3_2 := qq; clear qq; have qq := k_call hb1 q4_0; clear q4_0; have q4_0 := qq; clear qq; have qq := k_call hb1 q4_1; clear q4_1; have q4_1 := qq; clear qq; have hBn := kb_call hb1 hB; clear hB hb1; have hB := hBn; clear hBn; rw [l1.out])
      | (go_at_call 61; refine (ltop_any _ _ _ _ _).mono ?_; rintro e w' ⟨rfl, hb1⟩; have zz := (hb1.frozen (p := ⟨w1.heap.size, 2, none⟩) (World.block_lt_of_cell? _ _ q1_2)).trans z0; clear z0; have z0 := zz; clear zz; have qq := k_call hb1 q1_0; clear q1_0; have q1_0 := qq; clear qq; have qq := k_call hb1 q1_1; clear q1_1; have q1_1 := qq; clear qq; have qq := k_call hb1 q1_2; clear q1_2; have q1_2 := qq; clear qq; have qq := k_call hb1 q2_0; clear q2_0; have q2_0 := qq; clear qq; have qq := k_call hb1 q2_1; clear q2_1; have q2_1 := qq; clear qq; have qq := k_call hb1 q2_2; clear q2_2; have q2_2 := qq; clear qq; have qq := k_call hb1 q3_0; clear q3_0; have q3_0 := qq; clear qq; have qq := k_call hb1 q3_1; clear q3_1; have q3_1 := qq; clear qq; have qq := k_call hb1 q3_2; clear q3_2; have q3_2 := qq; clear qq; have qq := k_call hb1 q4_0; clear q4_0; have q4_0 := qq; clear qq; have qq := k_call hb1 q4_1; clear q4_1; have q4_1 := qq; clear qq; have hBn := kb_call hb1 hB; clear hB hb1; have hB := hBn; clear hBn; rw [HT.out])
      | (go_at_call 52; refine (marks_any _ _ _ (by first | exact HX.out | exact HM1.out | exact HM2.out)).mono ?_; rintro e w' ⟨rfl, hb1⟩; have hBn := kb_call hb1 hB; clear hB hb1; have hB := hBn; clear hBn; try rw [HM.out.2.2])
      | (go_at_call 53; refine (marked_any _ _ (by first | exact HX.out | exact HM1.out | exact HM2.out)).mono ?_; rintro e w' ⟨rfl, rfl⟩; first | rw [HM.out.1] | rw [HM.out.2.1] | skip))
    go_region_held3 (fun W => W.cell? ⟨w1.heap.size, 0, none⟩ = some (.int .i64 a1) ∧ W.cell? ⟨w1.heap.size, 1, none⟩ = some (.int .i64 b1) ∧ W.cell? ⟨w1.heap.size, 2, none⟩ = some (.bool (!c1)) ∧ Below w.heap.size w W) (((try go_split_ands); (repeat' apply And.intro) <;> (first | (with_reducible assumption) | ((repeat (first | (with_reducible assumption) | exact Below.refl _ _ | (with_reducible refine kb_drew ?_) | (with_reducible refine kb_drewN ?_) | (with_reducible refine k_drewN ?_) | (with_reducible refine kb_alloc ?_) | (with_reducible refine kc_alloc ?_ (by simp only [World.size_alloc]; omega)) | (with_reducible refine k_drew ?_) | (with_reducible refine k_alloc ?_) | (with_reducible refine Below.setCell ?_ (by first | (simp; done) | (simp only; omega)) _) | (with_reducible refine kb_call (by with_reducible assumption) ?_) | (with_reducible refine kc_call (by with_reducible assumption) ?_ (by simp only [World.size_alloc]; omega)) | (with_reducible refine k_call (by with_reducible assumption) ?_))); done) | (with_reducible exact k_realloc (by with_reducible assumption) (by simp only; omega)) | (go_simp; done) | (simp [*]; done))))
      (first
        | (go_at_call 52; refine (marks_any _ _ _ HX.out).mono ?_; rintro e w' ⟨rfl, hb1⟩)
        | (go_at_call 46; refine (lref_any _ _ _ _ _ _).mono ?_; rintro e w' ⟨rfl, hb1⟩; rw [i2.out]))
    have hBn := (by with_reducible assumption : (_ ∧ _ ∧ _ ∧ Below w.heap.size _ _)).2.2.2
    clear hB q1_0 q1_1 q1_2 q2_0 q2_1 q2_2 q3_0 q3_1 q3_2 q4_0 q4_1 z0 hb1
    have hB := hBn
    clear hBn
    go_wp2_with (first
      | (go_at_call 52; refine (marks_any _ _ _ (by first | exact HX.out | exact HM1.out | exact HM2.out)).mono ?_; rintro e w' ⟨rfl, hb1⟩; have hBn := kb_call hb1 hB; clear hB hb1; have hB := hBn; clear hBn; try rw [HM.out.2.2])
      | (go_at_call 53; refine (marked_any _ _ (by first | exact HX.out | exact HM1.out | exact HM2.out)).mono ?_; rintro e w' ⟨rfl, rfl⟩; first | rw [HM.out.1] | rw [HM.out.2.1] | skip))
    go_ret
    exact ⟨rfl, hB⟩
  next =>
    go_wp2_with fail
    generalize (w4.alloc (.cells #[.int .i64 (partW x 0 16 - 1), .int .i64 (partW x 16 48)] 25)) = w5 at *
    generalize w4.heap.size = b4 at *
    have hB := hB5
    clear hB5
    go_wp2_with (first
      | (go_at_call 46; refine (lref_any _ _ _ _ _ _).mono ?_; rintro e w' ⟨rfl, hb1⟩; have zz := (hb1.frozen (p := ⟨w1.heap.size, 2, none⟩) (World.block_lt_of_cell? _ _ q1_2)).trans z0; clear z0; have z0 := zz; clear zz; have qq := k_call hb1 q1_0; clear q1_0; have q1_0 := qq; clear qq; have qq := k_call hb1 q1_1; clear q1_1; have q1_1 := qq; clear qq; have qq := k_call hb1 q1_2; clear q1_2; have q1_2 := qq; clear qq; have qq := k_call hb1 q2_0; clear q2_0; have q2_0 := qq; clear qq; have qq := k_call hb1 q2_1; clear q2_1; have q2_1 := qq; clear qq; have qq := k_call hb1 q2_2; clear q2_2; have q2_2 := qq; clear qq; have qq := k_call hb1 q3_0; clear q3_0; have q3_0 := qq; clear qq; have qq := k_call hb1 q3_1; clear q3_1; have q3_1 := qq; clear qq; have qq := k_call hb1 q3_2; clear q3_2; have q3_2 := qq; clear qq; have qq := k_call hb1 q4_0; clear q4_0; have q4_0 := qq; clear qq; have qq := k_call hb1 q4_1; clear q4_1; have q4_1 := qq; clear qq; have hBn := kb_call hb1 hB; clear hB hb1; have hB := hBn; clear hBn; rw [i1.out])
      | (go_at_call 50; refine (lslot_any _ _ _ _ _ _).mono ?_; rintro e w' ⟨rfl, hb1⟩; have zz := (hb1.frozen (p := ⟨w1.heap.size, 2, none⟩) (World.block_lt_of_cell? _ _ q1_2)).trans z0; clear z0; have z0 := zz; clear zz; have qq := k_call hb1 q1_0; clear q1_0; have q1_0 := qq; clear qq; have qq := k_call hb1 q1_1; clear q1_1; have q1_1 := qq; clear qq; have qq := k_call hb1 q1_2; clear q1_2; have q1_2 := qq; clear qq; have qq := k_call hb1 q2_0; clear q2_0; have q2_0 := qq; clear qq; have qq := k_call hb1 q2_1; clear q2_1; have q2_1 := qq; clear qq; have qq := k_call hb1 q2_2; clear q2_2; have q2_2 := qq; clear qq; have qq := k_call hb1 q3_0; clear q3_0; have q3_0 := qq; clear qq; have qq := k_call hb1 q3_1; clear q3_1; have q3_1 := qq; clear qq; have qq := k_call hb1 q3_2; clear q3_2; have q3_2 := qq; clear qq; have qq := k_call hb1 q4_0; clear q4_0; have q4_0 := qq; clear qq; have qq := k_call hb1 q4_1; clear q4_1; have q4_1 := qq; clear qq; have hBn := kb_call hb1 hB; clear hB hb1; have hB := hBn; clear hBn; rw [j1.out])
      | (go_at_call 51; refine (lkey_any _ _ _ _ _ _).mono ?_; rintro e w' ⟨rfl, hb1⟩; have zz := (hb1.frozen (p := ⟨w1.heap.size, 2, none⟩) (World.block_lt_of_cell? _ _ q1_2)).trans z0; clear z0; have z0 := zz; clear zz; have qq := k_call hb1 q1_0; clear q1_0; have q1_0 := qq; clear qq; have qq := k_call hb1 q1_1; clear q1_1; have q1_1 := qq; clear qq; have qq := k_call hb1 q1_2; clear q1_2; have q1_2 := qq; clear qq; have qq := k_call hb1 q2_0; clear q2_0; have q2_0 := qq; clear qq; have qq := k_call hb1 q2_1; clear q2_1; have q2_1 := qq; clear qq; have qq := k_call hb1 q2_2; clear q2_2; have q2_2 := qq; clear qq; have qq := k_call hb1 q3_0; clear q3_0; have q3_0 := qq; clear qq; have qq := k_call hb1 q3_1; clear q3_1; have q3_1 := qq; clear qq; have qq := k_call hb1 q3_2; clear q3_2; have q3_2 := qq; clear qq; have qq := k_call hb1 q4_0; clear q4_0; have q4_0 := qq; clear qq; have qq := k_call hb1 q4_1; clear q4_1; have q4_1 := qq; clear qq; have hBn := kb_call hb1 hB; clear hB hb1; have hB := hBn; clear hBn; rw [l1.out])
      | (go_at_call 61; refine (ltop_any _ _ _ _ _).mono ?_; rintro e w' ⟨rfl, hb1⟩; have zz := (hb1.frozen (p := ⟨w1.heap.size, 2, none⟩) (World.block_lt_of_cell? _ _ q1_2)).trans z0; clear z0; have z0 := zz; clear zz; have qq := k_call hb1 q1_0; clear q1_0; have q1_0 := qq; clear qq; have qq := k_call hb1 q1_1; clear q1_1; have q1_1 := qq; clear qq; have qq := k_call hb1 q1_2; clear q1_2; have q1_2 := qq; clear qq; have qq := k_call hb1 q2_0; clear q2_0; have q2_0 := qq; clear qq; have qq := k_call hb1 q2_1; clear q2_1; have q2_1 := qq; clear qq; have qq := k_call hb1 q2_2; clear q2_2; have q2_2 := qq; clear qq; have qq := k_call hb1 q3_0; clear q3_0; have q3_0 := qq; clear qq; have qq := k_call hb1 q3_1; clear q3_1; have q3_1 := qq; clear qq; have qq := k_call hb1 q3_2; clear q3_2; have q3_2 := qq; clear qq; have qq := k_call hb1 q4_0; clear q4_0; have q4_0 := qq; clear qq; have qq := k_call hb1 q4_1; clear q4_1; have q4_1 := qq; clear qq; have hBn := kb_call hb1 hB; clear hB hb1; have hB := hBn; clear hBn; rw [HT.out])
      | (go_at_call 52; refine (marks_any _ _ _ (by first | exact HX.out | exact HM1.out | exact HM2.out)).mono ?_; rintro e w' ⟨rfl, hb1⟩; have hBn := kb_call hb1 hB; clear hB hb1; have hB := hBn; clear hBn; try rw [HM.out.2.2])
      | (go_at_call 53; refine (marked_any _ _ (by first | exact HX.out | exact HM1.out | exact HM2.out)).mono ?_; rintro e w' ⟨rfl, rfl⟩; first | rw [HM.out.1] | rw [HM.out.2.1] | skip))
    go_region_held3 (fun W => W.cell? ⟨w1.heap.size, 0, none⟩ = some (.int .i64 a1) ∧ W.cell? ⟨w1.heap.size, 1, none⟩ = some (.int .i64 b1) ∧ W.cell? ⟨w1.heap.size, 2, none⟩ = some (.bool (!c1)) ∧ Below w.heap.size w W) (((try go_split_ands); (repeat' apply And.intro) <;> (first | (with_reducible assumption) | ((repeat (first | (with_reducible assumption) | exact Below.refl _ _ | (with_reducible refine kb_drew ?_) | (with_reducible refine kb_drewN ?_) | (with_reducible refine k_drewN ?_) | (with_reducible refine kb_alloc ?_) | (with_reducible refine kc_alloc ?_ (by simp only [World.size_alloc]; omega)) | (with_reducible refine k_drew ?_) | (with_reducible refine k_alloc ?_) | (with_reducible refine Below.setCell ?_ (by first | (simp; done) | (simp only; omega)) _) | (with_reducible refine kb_call (by with_reducible assumption) ?_) | (with_reducible refine kc_call (by with_reducible assumption) ?_ (by simp only [World.size_alloc]; omega)) | (with_reducible refine k_call (by with_reducible assumption) ?_))); done) | (with_reducible exact k_realloc (by with_reducible assumption) (by simp only; omega)) | (go_simp; done) | (simp [*]; done))))
      (first
        | (go_at_call 52; refine (marks_any _ _ _ HX.out).mono ?_; rintro e w' ⟨rfl, hb1⟩)
        | (go_at_call 46; refine (lref_any _ _ _ _ _ _).mono ?_; rintro e w' ⟨rfl, hb1⟩; rw [i2.out]))
    have hBn := (by with_reducible assumption : (_ ∧ _ ∧ _ ∧ Below w.heap.size _ _)).2.2.2
    clear hB q1_0 q1_1 q1_2 q2_0 q2_1 q2_2 q3_0 q3_1 q3_2 q4_0 q4_1 z0 hb1
    have hB := hBn
    clear hBn
    go_wp2_with (first
      | (go_at_call 52; refine (marks_any _ _ _ (by first | exact HX.out | exact HM1.out | exact HM2.out)).mono ?_; rintro e w' ⟨rfl, hb1⟩; have hBn := kb_call hb1 hB; clear hB hb1; have hB := hBn; clear hBn; try rw [HM.out.2.2])
      | (go_at_call 53; refine (marked_any _ _ (by first | exact HX.out | exact HM1.out | exact HM2.out)).mono ?_; rintro e w' ⟨rfl, rfl⟩; first | rw [HM.out.1] | rw [HM.out.2.1] | skip))
    go_ret
    exact ⟨rfl, hB⟩
  next =>
    go_wp2_with fail
    generalize (w4.alloc (.cells #[.int .i64 (partW x 0 16 - 1), .int .i64 (partW x 16 48)] 25)) = w5 at *
    generalize w4.heap.size = b4 at *
    have hB := hB5
    clear hB5
    go_wp2_with (first
      | (go_at_call 46; refine (lref_any _ _ _ _ _ _).mono ?_; rintro e w' ⟨rfl, hb1⟩; have zz := (hb1.frozen (p := ⟨w1.heap.size, 2, none⟩) (World.block_lt_of_cell? _ _ q1_2)).trans z0; clear z0; have z0 := zz; clear zz; have qq := k_call hb1 q1_0; clear q1_0; have q1_0 := qq; clear qq; have qq := k_call hb1 q1_1; clear q1_1; have q1_1 := qq; clear qq; have qq := k_call hb1 q1_2; clear q1_2; have q1_2 := qq; clear qq; have qq := k_call hb1 q2_0; clear q2_0; have q2_0 := qq; clear qq; have qq := k_call hb1 q2_1; clear q2_1; have q2_1 := qq; clear qq; have qq := k_call hb1 q2_2; clear q2_2; have q2_2 := qq; clear qq; have qq := k_call hb1 q3_0; clear q3_0; have q3_0 := qq; clear qq; have qq := k_call hb1 q3_1; clear q3_1; have q3_1 := qq; clear qq; have qq := k_call hb1 q3_2; clear q3_2; have q3_2 := qq; clear qq; have qq := k_call hb1 q4_0; clear q4_0; have q4_0 := qq; clear qq; have qq := k_call hb1 q4_1; clear q4_1; have q4_1 := qq; clear qq; have hBn := kb_call hb1 hB; clear hB hb1; have hB := hBn; clear hBn; rw [i1.out])
      | (go_at_call 50; refine (lslot_any _ _ _ _ _ _).mono ?_; rintro e w' ⟨rfl, hb1⟩; have zz := (hb1.frozen (p := ⟨w1.heap.size, 2, none⟩) (World.block_lt_of_cell? _ _ q1_2)).trans z0; clear z0; have z0 := zz; clear zz; have qq := k_call hb1 q1_0; clear q1_0; have q1_0 := qq; clear qq; have qq := k_call hb1 q1_1; clear q1_1; have q1_1 := qq; clear qq; have qq := k_call hb1 q1_2; clear q1_2; have q1_2 := qq; clear qq; have qq := k_call hb1 q2_0; clear q2_0; have q2_0 := qq; clear qq; have qq := k_call hb1 q2_1; clear q2_1; have q2_1 := qq; clear qq; have qq := k_call hb1 q2_2; clear q2_2; have q2_2 := qq; clear qq; have qq := k_call hb1 q3_0; clear q3_0; have q3_0 := qq; clear qq; have qq := k_call hb1 q3_1; clear q3_1; have q3_1 := qq; clear qq; have qq := k_call hb1 q3_2; clear q3_2; have q3_2 := qq; clear qq; have qq := k_call hb1 q4_0; clear q4_0; have q4_0 := qq; clear qq; have qq := k_call hb1 q4_1; clear q4_1; have q4_1 := qq; clear qq; have hBn := kb_call hb1 hB; clear hB hb1; have hB := hBn; clear hBn; rw [j1.out])
      | (go_at_call 51; refine (lkey_any _ _ _ _ _ _).mono ?_; rintro e w' ⟨rfl, hb1⟩; have zz := (hb1.frozen (p := ⟨w1.heap.size, 2, none⟩) (World.block_lt_of_cell? _ _ q1_2)).trans z0; clear z0; have z0 := zz; clear zz; have qq := k_call hb1 q1_0; clear q1_0; have q1_0 := qq; clear qq; have qq := k_call hb1 q1_1; clear q1_1; have q1_1 := qq; clear qq; have qq := k_call hb1 q1_2; clear q1_2; have q1_2 := qq; clear qq; have qq := k_call hb1 q2_0; clear q2_0; have q2_0 := qq; clear qq; have qq := k_call hb1 q2_1; clear q2_1; have q2_1 := qq; clear qq; have qq := k_call hb1 q2_2; clear q2_2; have q2_2 := qq; clear qq; have qq := k_call hb1 q3_0; clear q3_0; have q3_0 := qq; clear qq; have qq := k_call hb1 q3_1; clear q3_1; have q3_1 := qq; clear qq; have qq := k_call hb1 q3_2; clear q3_2; have q3_2 := qq; clear qq; have qq := k_call hb1 q4_0; clear q4_0; have q4_0 := qq; clear qq; have qq := k_call hb1 q4_1; clear q4_1; have q4_1 := qq; clear qq; have hBn := kb_call hb1 hB; clear hB hb1; have hB := hBn; clear hBn; rw [l1.out])
      | (go_at_call 61; refine (ltop_any _ _ _ _ _).mono ?_; rintro e w' ⟨rfl, hb1⟩; have zz := (hb1.frozen (p := ⟨w1.heap.size, 2, none⟩) (World.block_lt_of_cell? _ _ q1_2)).trans z0; clear z0; have z0 := zz; clear zz; have qq := k_call hb1 q1_0; clear q1_0; have q1_0 := qq; clear qq; have qq := k_call hb1 q1_1; clear q1_1; have q1_1 := qq; clear qq; have qq := k_call hb1 q1_2; clear q1_2; have q1_2 := qq; clear qq; have qq := k_call hb1 q2_0; clear q2_0; have q2_0 := qq; clear qq; have qq := k_call hb1 q2_1; clear q2_1; have q2_1 := qq; clear qq; have qq := k_call hb1 q2_2; clear q2_2; have q2_2 := qq; clear qq; have qq := k_call hb1 q3_0; clear q3_0; have q3_0 := qq; clear qq; have qq := k_call hb1 q3_1; clear q3_1; have q3_1 := qq; clear qq; have qq := k_call hb1 q3_2; clear q3_2; have q3_2 := qq; clear qq; have qq := k_call hb1 q4_0; clear q4_0; have q4_0 := qq; clear qq; have qq := k_call hb1 q4_1; clear q4_1; have q4_1 := qq; clear qq; have hBn := kb_call hb1 hB; clear hB hb1; have hB := hBn; clear hBn; rw [HT.out])
      | (go_at_call 52; refine (marks_any _ _ _ (by first | exact HX.out | exact HM1.out | exact HM2.out)).mono ?_; rintro e w' ⟨rfl, hb1⟩; have hBn := kb_call hb1 hB; clear hB hb1; have hB := hBn; clear hBn; try rw [HM.out.2.2])
      | (go_at_call 53; refine (marked_any _ _ (by first | exact HX.out | exact HM1.out | exact HM2.out)).mono ?_; rintro e w' ⟨rfl, rfl⟩; first | rw [HM.out.1] | rw [HM.out.2.1] | skip))
    go_region_held3 (fun W => W.cell? ⟨w1.heap.size, 0, none⟩ = some (.int .i64 a1) ∧ W.cell? ⟨w1.heap.size, 1, none⟩ = some (.int .i64 b1) ∧ W.cell? ⟨w1.heap.size, 2, none⟩ = some (.bool (!c1)) ∧ Below w.heap.size w W) (((try go_split_ands); (repeat' apply And.intro) <;> (first | (with_reducible assumption) | ((repeat (first | (with_reducible assumption) | exact Below.refl _ _ | (with_reducible refine kb_drew ?_) | (with_reducible refine kb_drewN ?_) | (with_reducible refine k_drewN ?_) | (with_reducible refine kb_alloc ?_) | (with_reducible refine kc_alloc ?_ (by simp only [World.size_alloc]; omega)) | (with_reducible refine k_drew ?_) | (with_reducible refine k_alloc ?_) | (with_reducible refine Below.setCell ?_ (by first | (simp; done) | (simp only; omega)) _) | (with_reducible refine kb_call (by with_reducible assumption) ?_) | (with_reducible refine kc_call (by with_reducible assumption) ?_ (by simp only [World.size_alloc]; omega)) | (with_reducible refine k_call (by with_reducible assumption) ?_))); done) | (with_reducible exact k_realloc (by with_reducible assumption) (by simp only; omega)) | (go_simp; done) | (simp [*]; done))))
      (first
        | (go_at_call 52; refine (marks_any _ _ _ HX.out).mono ?_; rintro e w' ⟨rfl, hb1⟩)
        | (go_at_call 46; refine (lref_any _ _ _ _ _ _).mono ?_; rintro e w' ⟨rfl, hb1⟩; rw [i2.out]))
    have hBn := (by with_reducible assumption : (_ ∧ _ ∧ _ ∧ Below w.heap.size _ _)).2.2.2
    clear hB q1_0 q1_1 q1_2 q2_0 q2_1 q2_2 q3_0 q3_1 q3_2 q4_0 q4_1 z0 hb1
    have hB := hBn
    clear hBn
    go_wp2_with (first
      | (go_at_call 52; refine (marks_any _ _ _ (by first | exact HX.out | exact HM1.out | exact HM2.out)).mono ?_; rintro e w' ⟨rfl, hb1⟩; have hBn := kb_call hb1 hB; clear hB hb1; have hB := hBn; clear hBn; try rw [HM.out.2.2])
      | (go_at_call 53; refine (marked_any _ _ (by first | exact HX.out | exact HM1.out | exact HM2.out)).mono ?_; rintro e w' ⟨rfl, rfl⟩; first | rw [HM.out.1] | rw [HM.out.2.1] | skip))
    go_ret
    exact ⟨rfl, hB⟩
  next =>
    go_wp2_with fail
    generalize (w4.alloc (.cells #[.int .i64 (partW x 0 16 - 1), .int .i64 (partW x 16 48)] 25)) = w5 at *
    generalize w4.heap.size = b4 at *
    have hB := hB5
    clear hB5
    go_wp2_with (first
      | (go_at_call 46; refine (lref_any _ _ _ _ _ _).mono ?_; rintro e w' ⟨rfl, hb1⟩; have zz := (hb1.frozen (p := ⟨w1.heap.size, 2, none⟩) (World.block_lt_of_cell? _ _ q1_2)).trans z0; clear z0; have z0 := zz; clear zz; have qq := k_call hb1 q1_0; clear q1_0; have q1_0 := qq; clear qq; have qq := k_call hb1 q1_1; clear q1_1; have q1_1 := qq; clear qq; have qq := k_call hb1 q1_2; clear q1_2; have q1_2 := qq; clear qq; have qq := k_call hb1 q2_0; clear q2_0; have q2_0 := qq; clear qq; have qq := k_call hb1 q2_1; clear q2_1; have q2_1 := qq; clear qq; have qq := k_call hb1 q2_2; clear q2_2; have q2_2 := qq; clear qq; have qq := k_call hb1 q3_0; clear q3_0; have q3_0 := qq; clear qq; have qq := k_call hb1 q3_1; clear q3_1; have q3_1 := qq; clear qq; have qq := k_call hb1 q3_2; clear q3_2; have q3_2 := qq; clear qq; have qq := k_call hb1 q4_0; clear q4_0; have q4_0 := qq; clear qq; have qq := k_call hb1 q4_1; clear q4_1; have q4_1 := qq; clear qq; have hBn := kb_call hb1 hB; clear hB hb1; have hB := hBn; clear hBn; rw [i1.out])
      | (go_at_call 50; refine (lslot_any _ _ _ _ _ _).mono ?_; rintro e w' ⟨rfl, hb1⟩; have zz := (hb1.frozen (p := ⟨w1.heap.size, 2, none⟩) (World.block_lt_of_cell? _ _ q1_2)).trans z0; clear z0; have z0 := zz; clear zz; have qq := k_call hb1 q1_0; clear q1_0; have q1_0 := qq; clear qq; have qq := k_call hb1 q1_1; clear q1_1; have q1_1 := qq; clear qq; have qq := k_call hb1 q1_2; clear q1_2; have q1_2 := qq; clear qq; have qq := k_call hb1 q2_0; clear q2_0; have q2_0 := qq; clear qq; have qq := k_call hb1 q2_1; clear q2_1; have q2_1 := qq; clear qq; have qq := k_call hb1 q2_2; clear q2_2; have q2_2 := qq; clear qq; have qq := k_call hb1 q3_0; clear q3_0; have q3_0 := qq; clear qq; have qq := k_call hb1 q3_1; clear q3_1; have q3_1 := qq; clear qq; have qq := k_call hb1 q3_2; clear q3_2; have q3_2 := qq; clear qq; have qq := k_call hb1 q4_0; clear q4_0; have q4_0 := qq; clear qq; have qq := k_call hb1 q4_1; clear q4_1; have q4_1 := qq; clear qq; have hBn := kb_call hb1 hB; clear hB hb1; have hB := hBn; clear hBn; rw [j1.out])
      | (go_at_call 51; refine (lkey_any _ _ _ _ _ _).mono ?_; rintro e w' ⟨rfl, hb1⟩; have zz := (hb1.frozen (p := ⟨w1.heap.size, 2, none⟩) (World.block_lt_of_cell? _ _ q1_2)).trans z0; clear z0; have z0 := zz; clear zz; have qq := k_call hb1 q1_0; clear q1_0; have q1_0 := qq; clear qq; have qq := k_call hb1 q1_1; clear q1_1; have q1_1 := qq; clear qq; have qq := k_call hb1 q1_2; clear q1_2; have q1_2 := qq; clear qq; have qq := k_call hb1 q2_0; clear q2_0; have q2_0 := qq; clear qq; have qq := k_call hb1 q2_1; clear q2_1; have q2_1 := qq; clear qq; have qq := k_call hb1 q2_2; clear q2_2; have q2_2 := qq; clear qq; have qq := k_call hb1 q3_0; clear q3_0; have q3_0 := qq; clear qq; have qq := k_call hb1 q3_1; clear q3_1; have q3_1 := qq; clear qq; have qq := k_call hb1 q3_2; clear q3_2; have q3_2 := qq; clear qq; have qq := k_call hb1 q4_0; clear q4_0; have q4_0 := qq; clear qq; have qq := k_call hb1 q4_1; clear q4_1; have q4_1 := qq; clear qq; have hBn := kb_call hb1 hB; clear hB hb1; have hB := hBn; clear hBn; rw [l1.out])
      | (go_at_call 61; refine (ltop_any _ _ _ _ _).mono ?_; rintro e w' ⟨rfl, hb1⟩; have zz := (hb1.frozen (p := ⟨w1.heap.size, 2, none⟩) (World.block_lt_of_cell? _ _ q1_2)).trans z0; clear z0; have z0 := zz; clear zz; have qq := k_call hb1 q1_0; clear q1_0; have q1_0 := qq; clear qq; have qq := k_call hb1 q1_1; clear q1_1; have q1_1 := qq; clear qq; have qq := k_call hb1 q1_2; clear q1_2; have q1_2 := qq; clear qq; have qq := k_call hb1 q2_0; clear q2_0; have q2_0 := qq; clear qq; have qq := k_call hb1 q2_1; clear q2_1; have q2_1 := qq; clear qq; have qq := k_call hb1 q2_2; clear q2_2; have q2_2 := qq; clear qq; have qq := k_call hb1 q3_0; clear q3_0; have q3_0 := qq; clear qq; have qq := k_call hb1 q3_1; clear q3_1; have q3_1 := qq; clear qq; have qq := k_call hb1 q3_2; clear q3_2; have q3_2 := qq; clear qq; have qq := k_call hb1 q4_0; clear q4_0; have q4_0 := qq; clear qq; have qq := k_call hb1 q4_1; clear q4_1; have q4_1 := qq; clear qq; have hBn := kb_call hb1 hB; clear hB hb1; have hB := hBn; clear hBn; rw [HT.out])
      | (go_at_call 52; refine (marks_any _ _ _ (by first | exact HX.out | exact HM1.out | exact HM2.out)).mono ?_; rintro e w' ⟨rfl, hb1⟩; have hBn := kb_call hb1 hB; clear hB hb1; have hB := hBn; clear hBn; try rw [HM.out.2.2])
      | (go_at_call 53; refine (marked_any _ _ (by first | exact HX.out | exact HM1.out | exact HM2.out)).mono ?_; rintro e w' ⟨rfl, rfl⟩; first | rw [HM.out.1] | rw [HM.out.2.1] | skip))
    go_region_held3 (fun W => W.cell? ⟨w1.heap.size, 0, none⟩ = some (.int .i64 a1) ∧ W.cell? ⟨w1.heap.size, 1, none⟩ = some (.int .i64 b1) ∧ W.cell? ⟨w1.heap.size, 2, none⟩ = some (.bool (!c1)) ∧ Below w.heap.size w W) (((try go_split_ands); (repeat' apply And.intro) <;> (first | (with_reducible assumption) | ((repeat (first | (with_reducible assumption) | exact Below.refl _ _ | (with_reducible refine kb_drew ?_) | (with_reducible refine kb_drewN ?_) | (with_reducible refine k_drewN ?_) | (with_reducible refine kb_alloc ?_) | (with_reducible refine kc_alloc ?_ (by simp only [World.size_alloc]; omega)) | (with_reducible refine k_drew ?_) | (with_reducible refine k_alloc ?_) | (with_reducible refine Below.setCell ?_ (by first | (simp; done) | (simp only; omega)) _) | (with_reducible refine kb_call (by with_reducible assumption) ?_) | (with_reducible refine kc_call (by with_reducible assumption) ?_ (by simp only [World.size_alloc]; omega)) | (with_reducible refine k_call (by with_reducible assumption) ?_))); done) | (with_reducible exact k_realloc (by with_reducible assumption) (by simp only; omega)) | (go_simp; done) | (simp [*]; done))))
      (first
        | (go_at_call 52; refine (marks_any _ _ _ HX.out).mono ?_; rintro e w' ⟨rfl, hb1⟩)
        | (go_at_call 46; refine (lref_any _ _ _ _ _ _).mono ?_; rintro e w' ⟨rfl, hb1⟩; rw [i2.out]))
    have hBn := (by with_reducible assumption : (_ ∧ _ ∧ _ ∧ Below w.heap.size _ _)).2.2.2
    clear hB q1_0 q1_1 q1_2 q2_0 q2_1 q2_2 q3_0 q3_1 q3_2 q4_0 q4_1 z0 hb1
    have hB := hBn
    clear hBn
    go_wp2_with (first
      | (go_at_call 52; refine (marks_any _ _ _ (by first | exact HX.out | exact HM1.out | exact HM2.out)).mono ?_; rintro e w' ⟨rfl, hb1⟩; have hBn := kb_call hb1 hB; clear hB hb1; have hB := hBn; clear hBn; try rw [HM.out.2.2])
      | (go_at_call 53; refine (marked_any _ _ (by first | exact HX.out | exact HM1.out | exact HM2.out)).mono ?_; rintro e w' ⟨rfl, rfl⟩; first | rw [HM.out.1] | rw [HM.out.2.1] | skip))
    go_ret
    exact ⟨rfl, hB⟩
end Go.Proofs.Ytbkaclkbjpdfnaa
