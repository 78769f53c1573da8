/- The walks of the statements of layer 1, the eighth part: WordBack. -/
import Derived.Test.YtbkaclkbjpdfnaaWlf
namespace Go.Proofs.Ytbkaclkbjpdfnaa
open Go.RowKit

set_option maxRecDepth 100000 in
set_option maxHeartbeats 8000000 in
theorem wordBack_walk (i g : Int) (m : Bool) (i2 g2 : Int) (m2 : Bool) (l : Int) (f : Bool) (v : Int) (l2 : Int) (f2 : Bool) (v2 : Int) (j t j2 t2 : Int) (w : World) :
    Calls Try.prog 12 #[.agg #[.int .i64 i, .int .i64 g, .bool m], .agg #[.int .i64 i2, .int .i64 g2, .bool m2], .agg #[.int .i64 l, .bool f, .int .i64 v], .agg #[.int .i64 l2, .bool f2, .int .i64 v2], .agg #[.int .i64 j, .int .i64 t], .agg #[.int .i64 j2, .int .i64 t2]] w
      fun e w' => e = .returned (.bool true) ∧ Below w.heap.size w w' := by
  obtain ⟨r1, a1, b1, c1, r2, r3⟩ := ref_round i g m
  obtain ⟨s1, a2, b2, c2, s2, s3⟩ := slot_round l f v
  obtain ⟨t1, t3⟩ := top_round j t
  have ri := ref_inj i g m i2 g2 m2
  have si := slot_inj l f v l2 f2 v2
  have ti := top_inj j t j2 t2
  have re : i = i2 → g = g2 → m = m2 → refW i g m = refW i2 g2 m2 := by rintro rfl rfl rfl; rfl
  have se : l = l2 → f = f2 → v = v2 → slotW l f v = slotW l2 f2 v2 := by rintro rfl rfl rfl; rfl
  have te : j = j2 → t = t2 → topwW j t = topwW j2 t2 := by rintro rfl rfl; rfl
  have hTV : getTopV (topwW j t) = .agg #[.int .i64 (partW (topwW j t) 0 16 - 1), .int .i64 (partW (topwW j t) 16 48)] := rfl
  generalize hA : refW i g m = A at *
  generalize hA2 : refW i2 g2 m2 = A2 at *
  generalize hE : refE i g = E at *
  generalize hE2 : refE i2 g2 = E2 at *
  generalize hG : getRefE A = G at *
  generalize hB : slotW l f v = B at *
  generalize hB2 : slotW l2 f2 v2 = B2 at *
  generalize hF : slotE l f v = F at *
  generalize hF2 : slotE l2 f2 v2 = F2 at *
  generalize hH : getSlotE B = H at *
  generalize hC : topwW j t = C at *
  generalize hC2 : topwW j2 t2 = C2 at *
  generalize hD : topE j t = D at *
  generalize hD2 : topE j2 t2 = D2 at *
  generalize hp : partW C 0 16 - 1 = p at *
  generalize hq : partW C 16 48 = q at *
  have K1 := Lib.hid (And.intro hA hE)
  have K2 := Lib.hid (And.intro hA2 hE2)
  have K3 := Lib.hid (And.intro r2 hG)
  have K4 := Lib.hid r1
  have K5 := Lib.hid r3
  have K6 := Lib.hid (And.intro ri re)
  have L1 := Lib.hid (And.intro hB hF)
  have L2 := Lib.hid (And.intro hB2 hF2)
  have L3 := Lib.hid (And.intro s2 hH)
  have L4 := Lib.hid s1
  have L5 := Lib.hid s3
  have L6 := Lib.hid (And.intro si se)
  have M1 := Lib.hid (And.intro hC hD)
  have M2 := Lib.hid (And.intro hC2 hD2)
  have M3 := Lib.hid hTV
  have M4 := Lib.hid t1
  have M5 := Lib.hid t3
  have M6 := Lib.hid (And.intro ti te)
  clear hA hA2 hE hE2 hG hB hB2 hF hF2 hH hC hC2 hD hD2 hp hq r1 r2 r3 s1 s2 s3 t1 t3 ri si ti re se te hTV
  go_enter Try.func12, Try.ntmps12
  go_upto_region 5 with (first
    | (go_at_call 9; refine (wordKnown_walk _).mono ?_; rintro e w' ⟨rfl, hb1⟩; have hB : Below (w.heap.size + 6) (w.alloc (.cells #[.int .i64 i, .int .i64 g, .bool m] 23) |>.alloc (.cells #[.int .i64 i2, .int .i64 g2, .bool m2] 23) |>.alloc (.cells #[.int .i64 l, .bool f, .int .i64 v] 27) |>.alloc (.cells #[.int .i64 l2, .bool f2, .int .i64 v2] 27) |>.alloc (.cells #[.int .i64 j, .int .i64 t] 25) |>.alloc (.cells #[.int .i64 j2, .int .i64 t2] 25)) w' := hb1.mono (by simp); have hc := bel_cell hB; clear hb1)
    | (go_at_call 14; refine (putRef_any _ _ _ _).mono ?_; rintro e w' ⟨rfl, hb1⟩; have hBn : Below (w.heap.size + 6) _ w' := (kc_call hb1 (by (repeat (first | (with_reducible assumption) | exact Below.refl _ _ | (with_reducible refine kb_drew ?_) | (with_reducible refine kb_drewN ?_) | (with_reducible refine k_drewN ?_) | (with_reducible refine kb_alloc ?_) | (with_reducible refine kc_alloc ?_ (by simp only [World.size_alloc]; omega)) | (with_reducible refine k_drew ?_) | (with_reducible refine k_alloc ?_) | (with_reducible refine Below.setCell ?_ (by first | (simp; done) | (simp only; omega)) _) | (with_reducible refine kb_call (by with_reducible assumption) ?_) | (with_reducible refine kc_call (by with_reducible assumption) ?_ (by simp only [World.size_alloc]; omega)) | (with_reducible refine k_call (by with_reducible assumption) ?_)))) (by simp)); clear hB hc hb1; have hB := hBn; have hc := bel_cell hB; clear hBn; first | rw [K1.out.1, K1.out.2] | rw [K2.out.1, K2.out.2])
    | (go_at_call 47; refine (getRef_any _ _ K4.out).mono ?_; rintro e w' ⟨rfl, hb1⟩; have hBn : Below (w.heap.size + 6) _ w' := (kc_call hb1 (by (repeat (first | (with_reducible assumption) | exact Below.refl _ _ | (with_reducible refine kb_drew ?_) | (with_reducible refine kb_drewN ?_) | (with_reducible refine k_drewN ?_) | (with_reducible refine kb_alloc ?_) | (with_reducible refine kc_alloc ?_ (by simp only [World.size_alloc]; omega)) | (with_reducible refine k_drew ?_) | (with_reducible refine k_alloc ?_) | (with_reducible refine Below.setCell ?_ (by first | (simp; done) | (simp only; omega)) _) | (with_reducible refine kb_call (by with_reducible assumption) ?_) | (with_reducible refine kc_call (by with_reducible assumption) ?_ (by simp only [World.size_alloc]; omega)) | (with_reducible refine k_call (by with_reducible assumption) ?_)))) (by simp)); clear hB hc hb1; have hB := hBn; have hc := bel_cell hB; clear hBn; rw [K3.out.1, K3.out.2]))
  have hca := fun o => bel_cell (kc_alloc (o := o) hB (by simp))
  go_cut [71] (fun s71 wx => s71 = .bool false ∧ Below (w.heap.size + 6) (w.alloc (.cells #[.int .i64 i, .int .i64 g, .bool m] 23) |>.alloc (.cells #[.int .i64 i2, .int .i64 g2, .bool m2] 23) |>.alloc (.cells #[.int .i64 l, .bool f, .int .i64 v] 27) |>.alloc (.cells #[.int .i64 l2, .bool f2, .int .i64 v2] 27) |>.alloc (.cells #[.int .i64 j, .int .i64 t] 25) |>.alloc (.cells #[.int .i64 j2, .int .i64 t2] 25)) wx)
  case first =>
    rcases K5.out with h0 | ⟨h0, h1, h2, h3, h4⟩
    · go_wp2_with fail
      go_meet
      exact ⟨rfl, by (repeat (first | (with_reducible assumption) | exact Below.refl _ _ | (with_reducible refine kb_drew ?_) | (with_reducible refine kb_drewN ?_) | (with_reducible refine k_drewN ?_) | (with_reducible refine kb_alloc ?_) | (with_reducible refine kc_alloc ?_ (by simp only [World.size_alloc]; omega)) | (with_reducible refine k_drew ?_) | (with_reducible refine k_alloc ?_) | (with_reducible refine Below.setCell ?_ (by first | (simp; done) | (simp only; omega)) _) | (with_reducible refine kb_call (by with_reducible assumption) ?_) | (with_reducible refine kc_call (by with_reducible assumption) ?_ (by simp only [World.size_alloc]; omega)) | (with_reducible refine k_call (by with_reducible assumption) ?_)))⟩
    · subst h0
      obtain rfl := h1.symm
      obtain rfl := h2.symm
      obtain rfl := h3.symm
      subst h4
      by_cases k0 : E2 = 0
      · subst k0
        by_cases k1 : i = i2
        case neg =>
          have n1 : (i == i2) = false := by simp [k1]
          have n2 : (A == A2) = false := by
            simp; intro e; exact k1 (K6.out.1 rfl rfl e).1
          clear k1
          go_wp2_with fail
          go_meet
          exact ⟨rfl, by (repeat (first | (with_reducible assumption) | exact Below.refl _ _ | (with_reducible refine kb_drew ?_) | (with_reducible refine kb_drewN ?_) | (with_reducible refine k_drewN ?_) | (with_reducible refine kb_alloc ?_) | (with_reducible refine kc_alloc ?_ (by simp only [World.size_alloc]; omega)) | (with_reducible refine k_drew ?_) | (with_reducible refine k_alloc ?_) | (with_reducible refine Below.setCell ?_ (by first | (simp; done) | (simp only; omega)) _) | (with_reducible refine kb_call (by with_reducible assumption) ?_) | (with_reducible refine kc_call (by with_reducible assumption) ?_ (by simp only [World.size_alloc]; omega)) | (with_reducible refine k_call (by with_reducible assumption) ?_)))⟩
        case pos =>
          subst k1
          by_cases k2 : g = g2
          case neg =>
            have n1 : (g == g2) = false := by simp [k2]
            have n2 : (A == A2) = false := by
              simp; intro e; exact k2 (K6.out.1 rfl rfl e).2.1
            clear k2
            go_wp2_with fail
            go_meet
            exact ⟨rfl, by (repeat (first | (with_reducible assumption) | exact Below.refl _ _ | (with_reducible refine kb_drew ?_) | (with_reducible refine kb_drewN ?_) | (with_reducible refine k_drewN ?_) | (with_reducible refine kb_alloc ?_) | (with_reducible refine kc_alloc ?_ (by simp only [World.size_alloc]; omega)) | (with_reducible refine k_drew ?_) | (with_reducible refine k_alloc ?_) | (with_reducible refine Below.setCell ?_ (by first | (simp; done) | (simp only; omega)) _) | (with_reducible refine kb_call (by with_reducible assumption) ?_) | (with_reducible refine kc_call (by with_reducible assumption) ?_ (by simp only [World.size_alloc]; omega)) | (with_reducible refine k_call (by with_reducible assumption) ?_)))⟩
          case pos =>
            subst k2
            by_cases k3 : m = m2
            case neg =>
              have n1 : (m == m2) = false := by simp [k3]
              have n2 : (A == A2) = false := by
                simp; intro e; exact k3 (K6.out.1 rfl rfl e).2.2
              clear k3
              go_wp2_with fail
              go_meet
              exact ⟨rfl, by (repeat (first | (with_reducible assumption) | exact Below.refl _ _ | (with_reducible refine kb_drew ?_) | (with_reducible refine kb_drewN ?_) | (with_reducible refine k_drewN ?_) | (with_reducible refine kb_alloc ?_) | (with_reducible refine kc_alloc ?_ (by simp only [World.size_alloc]; omega)) | (with_reducible refine k_drew ?_) | (with_reducible refine k_alloc ?_) | (with_reducible refine Below.setCell ?_ (by first | (simp; done) | (simp only; omega)) _) | (with_reducible refine kb_call (by with_reducible assumption) ?_) | (with_reducible refine kc_call (by with_reducible assumption) ?_ (by simp only [World.size_alloc]; omega)) | (with_reducible refine k_call (by with_reducible assumption) ?_)))⟩
            case pos =>
              subst k3
              obtain rfl : A = A2 := K6.out.2 rfl rfl rfl
              go_wp2_with fail
              go_meet
              exact ⟨rfl, by (repeat (first | (with_reducible assumption) | exact Below.refl _ _ | (with_reducible refine kb_drew ?_) | (with_reducible refine kb_drewN ?_) | (with_reducible refine k_drewN ?_) | (with_reducible refine kb_alloc ?_) | (with_reducible refine kc_alloc ?_ (by simp only [World.size_alloc]; omega)) | (with_reducible refine k_drew ?_) | (with_reducible refine k_alloc ?_) | (with_reducible refine Below.setCell ?_ (by first | (simp; done) | (simp only; omega)) _) | (with_reducible refine kb_call (by with_reducible assumption) ?_) | (with_reducible refine kc_call (by with_reducible assumption) ?_ (by simp only [World.size_alloc]; omega)) | (with_reducible refine k_call (by with_reducible assumption) ?_)))⟩
      · go_wp2_with fail
        go_meet
        exact ⟨rfl, by (repeat (first | (with_reducible assumption) | exact Below.refl _ _ | (with_reducible refine kb_drew ?_) | (with_reducible refine kb_drewN ?_) | (with_reducible refine k_drewN ?_) | (with_reducible refine kb_alloc ?_) | (with_reducible refine kc_alloc ?_ (by simp only [World.size_alloc]; omega)) | (with_reducible refine k_drew ?_) | (with_reducible refine k_alloc ?_) | (with_reducible refine Below.setCell ?_ (by first | (simp; done) | (simp only; omega)) _) | (with_reducible refine kb_call (by with_reducible assumption) ?_) | (with_reducible refine kc_call (by with_reducible assumption) ?_ (by simp only [World.size_alloc]; omega)) | (with_reducible refine k_call (by with_reducible assumption) ?_)))⟩
  case rest =>
    clear hca hB hc
    obtain ⟨rfl, hB⟩ := hcut
    have hc := bel_cell hB
    go_upto_region 10 with (first
      | (go_at_call 18; refine (putSlot_any _ _ _ _).mono ?_; rintro e w' ⟨rfl, hb1⟩; have hBn : Below (w.heap.size + 6) _ w' := (kc_call hb1 (by (repeat (first | (with_reducible assumption) | exact Below.refl _ _ | (with_reducible refine kb_drew ?_) | (with_reducible refine kb_drewN ?_) | (with_reducible refine k_drewN ?_) | (with_reducible refine kb_alloc ?_) | (with_reducible refine kc_alloc ?_ (by simp only [World.size_alloc]; omega)) | (with_reducible refine k_drew ?_) | (with_reducible refine k_alloc ?_) | (with_reducible refine Below.setCell ?_ (by first | (simp; done) | (simp only; omega)) _) | (with_reducible refine kb_call (by with_reducible assumption) ?_) | (with_reducible refine kc_call (by with_reducible assumption) ?_ (by simp only [World.size_alloc]; omega)) | (with_reducible refine k_call (by with_reducible assumption) ?_)))) (by simp)); clear hB hc hb1; have hB := hBn; have hc := bel_cell hB; clear hBn; first | rw [L1.out.1, L1.out.2] | rw [L2.out.1, L2.out.2])
      | (go_at_call 48; refine (getSlot_any _ _ L4.out).mono ?_; rintro e w' ⟨rfl, hb1⟩; have hBn : Below (w.heap.size + 6) _ w' := (kc_call hb1 (by (repeat (first | (with_reducible assumption) | exact Below.refl _ _ | (with_reducible refine kb_drew ?_) | (with_reducible refine kb_drewN ?_) | (with_reducible refine k_drewN ?_) | (with_reducible refine kb_alloc ?_) | (with_reducible refine kc_alloc ?_ (by simp only [World.size_alloc]; omega)) | (with_reducible refine k_drew ?_) | (with_reducible refine k_alloc ?_) | (with_reducible refine Below.setCell ?_ (by first | (simp; done) | (simp only; omega)) _) | (with_reducible refine kb_call (by with_reducible assumption) ?_) | (with_reducible refine kc_call (by with_reducible assumption) ?_ (by simp only [World.size_alloc]; omega)) | (with_reducible refine k_call (by with_reducible assumption) ?_)))) (by simp)); clear hB hc hb1; have hB := hBn; have hc := bel_cell hB; clear hBn; rw [L3.out.1, L3.out.2]))
    have hca := fun o => bel_cell (kc_alloc (o := o) hB (by simp))
    go_cut [110] (fun s110 wx => s110 = .bool false ∧ Below (w.heap.size + 6) (w.alloc (.cells #[.int .i64 i, .int .i64 g, .bool m] 23) |>.alloc (.cells #[.int .i64 i2, .int .i64 g2, .bool m2] 23) |>.alloc (.cells #[.int .i64 l, .bool f, .int .i64 v] 27) |>.alloc (.cells #[.int .i64 l2, .bool f2, .int .i64 v2] 27) |>.alloc (.cells #[.int .i64 j, .int .i64 t] 25) |>.alloc (.cells #[.int .i64 j2, .int .i64 t2] 25)) wx)
    case first =>
      rcases L5.out with h0 | ⟨h0, h1, h2, h3, h4⟩
      · go_wp2_with fail
        go_meet
        exact ⟨rfl, by (repeat (first | (with_reducible assumption) | exact Below.refl _ _ | (with_reducible refine kb_drew ?_) | (with_reducible refine kb_drewN ?_) | (with_reducible refine k_drewN ?_) | (with_reducible refine kb_alloc ?_) | (with_reducible refine kc_alloc ?_ (by simp only [World.size_alloc]; omega)) | (with_reducible refine k_drew ?_) | (with_reducible refine k_alloc ?_) | (with_reducible refine Below.setCell ?_ (by first | (simp; done) | (simp only; omega)) _) | (with_reducible refine kb_call (by with_reducible assumption) ?_) | (with_reducible refine kc_call (by with_reducible assumption) ?_ (by simp only [World.size_alloc]; omega)) | (with_reducible refine k_call (by with_reducible assumption) ?_)))⟩
      · subst h0
        obtain rfl := h1.symm
        obtain rfl := h2.symm
        obtain rfl := h3.symm
        subst h4
        by_cases k0 : F2 = 0
        · subst k0
          by_cases k1 : l = l2
          case neg =>
            have n1 : (l == l2) = false := by simp [k1]
            have n2 : (B == B2) = false := by
              simp; intro e; exact k1 (L6.out.1 rfl rfl e).1
            clear k1
            go_wp2_with fail
            go_meet
            exact ⟨rfl, by (repeat (first | (with_reducible assumption) | exact Below.refl _ _ | (with_reducible refine kb_drew ?_) | (with_reducible refine kb_drewN ?_) | (with_reducible refine k_drewN ?_) | (with_reducible refine kb_alloc ?_) | (with_reducible refine kc_alloc ?_ (by simp only [World.size_alloc]; omega)) | (with_reducible refine k_drew ?_) | (with_reducible refine k_alloc ?_) | (with_reducible refine Below.setCell ?_ (by first | (simp; done) | (simp only; omega)) _) | (with_reducible refine kb_call (by with_reducible assumption) ?_) | (with_reducible refine kc_call (by with_reducible assumption) ?_ (by simp only [World.size_alloc]; omega)) | (with_reducible refine k_call (by with_reducible assumption) ?_)))⟩
          case pos =>
            subst k1
            by_cases k2 : f = f2
            case neg =>
              have n1 : (f == f2) = false := by simp [k2]
              have n2 : (B == B2) = false := by
                simp; intro e; exact k2 (L6.out.1 rfl rfl e).2.1
              clear k2
              go_wp2_with fail
              go_meet
              exact ⟨rfl, by (repeat (first | (with_reducible assumption) | exact Below.refl _ _ | (with_reducible refine kb_drew ?_) | (with_reducible refine kb_drewN ?_) | (with_reducible refine k_drewN ?_) | (with_reducible refine kb_alloc ?_) | (with_reducible refine kc_alloc ?_ (by simp only [World.size_alloc]; omega)) | (with_reducible refine k_drew ?_) | (with_reducible refine k_alloc ?_) | (with_reducible refine Below.setCell ?_ (by first | (simp; done) | (simp only; omega)) _) | (with_reducible refine kb_call (by with_reducible assumption) ?_) | (with_reducible refine kc_call (by with_reducible assumption) ?_ (by simp only [World.size_alloc]; omega)) | (with_reducible refine k_call (by with_reducible assumption) ?_)))⟩
            case pos =>
              subst k2
              by_cases k3 : v = v2
              case neg =>
                have n1 : (v == v2) = false := by simp [k3]
                have n2 : (B == B2) = false := by
                  simp; intro e; exact k3 (L6.out.1 rfl rfl e).2.2
                clear k3
                go_wp2_with fail
                go_meet
                exact ⟨rfl, by (repeat (first | (with_reducible assumption) | exact Below.refl _ _ | (with_reducible refine kb_drew ?_) | (with_reducible refine kb_drewN ?_) | (with_reducible refine k_drewN ?_) | (with_reducible refine kb_alloc ?_) | (with_reducible refine kc_alloc ?_ (by simp only [World.size_alloc]; omega)) | (with_reducible refine k_drew ?_) | (with_reducible refine k_alloc ?_) | (with_reducible refine Below.setCell ?_ (by first | (simp; done) | (simp only; omega)) _) | (with_reducible refine kb_call (by with_reducible assumption) ?_) | (with_reducible refine kc_call (by with_reducible assumption) ?_ (by simp only [World.size_alloc]; omega)) | (with_reducible refine k_call (by with_reducible assumption) ?_)))⟩
              case pos =>
                subst k3
                obtain rfl : B = B2 := L6.out.2 rfl rfl rfl
                go_wp2_with fail
                go_meet
                exact ⟨rfl, by (repeat (first | (with_reducible assumption) | exact Below.refl _ _ | (with_reducible refine kb_drew ?_) | (with_reducible refine kb_drewN ?_) | (with_reducible refine k_drewN ?_) | (with_reducible refine kb_alloc ?_) | (with_reducible refine kc_alloc ?_ (by simp only [World.size_alloc]; omega)) | (with_reducible refine k_drew ?_) | (with_reducible refine k_alloc ?_) | (with_reducible refine Below.setCell ?_ (by first | (simp; done) | (simp only; omega)) _) | (with_reducible refine kb_call (by with_reducible assumption) ?_) | (with_reducible refine kc_call (by with_reducible assumption) ?_ (by simp only [World.size_alloc]; omega)) | (with_reducible refine k_call (by with_reducible assumption) ?_)))⟩
        · go_wp2_with fail
          go_meet
          exact ⟨rfl, by (repeat (first | (with_reducible assumption) | exact Below.refl _ _ | (with_reducible refine kb_drew ?_) | (with_reducible refine kb_drewN ?_) | (with_reducible refine k_drewN ?_) | (with_reducible refine kb_alloc ?_) | (with_reducible refine kc_alloc ?_ (by simp only [World.size_alloc]; omega)) | (with_reducible refine k_drew ?_) | (with_reducible refine k_alloc ?_) | (with_reducible refine Below.setCell ?_ (by first | (simp; done) | (simp only; omega)) _) | (with_reducible refine kb_call (by with_reducible assumption) ?_) | (with_reducible refine kc_call (by with_reducible assumption) ?_ (by simp only [World.size_alloc]; omega)) | (with_reducible refine k_call (by with_reducible assumption) ?_)))⟩
    case rest =>
      clear hca hB hc
      obtain ⟨rfl, hB⟩ := hcut
      have hc := bel_cell hB
      go_upto_region 15 with (first
        | (go_at_call 16; refine (putTop_any _ _ _).mono ?_; rintro e w' ⟨rfl, hb1⟩; have hBn : Below (w.heap.size + 6) _ w' := (kc_call hb1 (by (repeat (first | (with_reducible assumption) | exact Below.refl _ _ | (with_reducible refine kb_drew ?_) | (with_reducible refine kb_drewN ?_) | (with_reducible refine k_drewN ?_) | (with_reducible refine kb_alloc ?_) | (with_reducible refine kc_alloc ?_ (by simp only [World.size_alloc]; omega)) | (with_reducible refine k_drew ?_) | (with_reducible refine k_alloc ?_) | (with_reducible refine Below.setCell ?_ (by first | (simp; done) | (simp only; omega)) _) | (with_reducible refine kb_call (by with_reducible assumption) ?_) | (with_reducible refine kc_call (by with_reducible assumption) ?_ (by simp only [World.size_alloc]; omega)) | (with_reducible refine k_call (by with_reducible assumption) ?_)))) (by simp)); clear hB hc hb1; have hB := hBn; have hc := bel_cell hB; clear hBn; first | rw [M1.out.1, M1.out.2] | rw [M2.out.1, M2.out.2])
        | (go_at_call 55; refine (getTop_any _ _ M4.out).mono ?_; rintro e w' ⟨rfl, hb1⟩; have hBn : Below (w.heap.size + 6) _ w' := (kc_call hb1 (by (repeat (first | (with_reducible assumption) | exact Below.refl _ _ | (with_reducible refine kb_drew ?_) | (with_reducible refine kb_drewN ?_) | (with_reducible refine k_drewN ?_) | (with_reducible refine kb_alloc ?_) | (with_reducible refine kc_alloc ?_ (by simp only [World.size_alloc]; omega)) | (with_reducible refine k_drew ?_) | (with_reducible refine k_alloc ?_) | (with_reducible refine Below.setCell ?_ (by first | (simp; done) | (simp only; omega)) _) | (with_reducible refine kb_call (by with_reducible assumption) ?_) | (with_reducible refine kc_call (by with_reducible assumption) ?_ (by simp only [World.size_alloc]; omega)) | (with_reducible refine k_call (by with_reducible assumption) ?_)))) (by simp)); clear hB hc hb1; have hB := hBn; have hc := bel_cell hB; clear hBn; rw [M3.out]))
      have hca := fun o => bel_cell (kc_alloc (o := o) hB (by simp))
      rcases M5.out with h0 | ⟨h0, h1, h2⟩
      · go_wp2
        go_ret
        exact ⟨rfl, Below.trans (b := (w.alloc (.cells #[.int .i64 i, .int .i64 g, .bool m] 23) |>.alloc (.cells #[.int .i64 i2, .int .i64 g2, .bool m2] 23) |>.alloc (.cells #[.int .i64 l, .bool f, .int .i64 v] 27) |>.alloc (.cells #[.int .i64 l2, .bool f2, .int .i64 v2] 27) |>.alloc (.cells #[.int .i64 j, .int .i64 t] 25) |>.alloc (.cells #[.int .i64 _, .int .i64 _] 25))) (by (repeat (first | (with_reducible assumption) | exact Below.refl _ _ | (with_reducible refine kb_drew ?_) | (with_reducible refine kb_drewN ?_) | (with_reducible refine k_drewN ?_) | (with_reducible refine kb_alloc ?_) | (with_reducible refine kc_alloc ?_ (by simp only [World.size_alloc]; omega)) | (with_reducible refine k_drew ?_) | (with_reducible refine k_alloc ?_) | (with_reducible refine Below.setCell ?_ (by first | (simp; done) | (simp only; omega)) _) | (with_reducible refine kb_call (by with_reducible assumption) ?_) | (with_reducible refine kc_call (by with_reducible assumption) ?_ (by simp only [World.size_alloc]; omega)) | (with_reducible refine k_call (by with_reducible assumption) ?_)))) ((kc_alloc hB (by simp)).mono (by omega))⟩
      · subst h0
        obtain rfl := h1.symm
        obtain rfl := h2.symm
        by_cases k0 : D2 = 0
        · subst k0
          by_cases k1 : j = j2
          case neg =>
            have n1 : (j == j2) = false := by simp [k1]
            have n2 : (C == C2) = false := by
              simp; intro e; exact k1 (M6.out.1 rfl rfl e).1
            clear k1
            go_wp2
            go_ret
            exact ⟨rfl, Below.trans (b := (w.alloc (.cells #[.int .i64 i, .int .i64 g, .bool m] 23) |>.alloc (.cells #[.int .i64 i2, .int .i64 g2, .bool m2] 23) |>.alloc (.cells #[.int .i64 l, .bool f, .int .i64 v] 27) |>.alloc (.cells #[.int .i64 l2, .bool f2, .int .i64 v2] 27) |>.alloc (.cells #[.int .i64 j, .int .i64 t] 25) |>.alloc (.cells #[.int .i64 _, .int .i64 _] 25))) (by (repeat (first | (with_reducible assumption) | exact Below.refl _ _ | (with_reducible refine kb_drew ?_) | (with_reducible refine kb_drewN ?_) | (with_reducible refine k_drewN ?_) | (with_reducible refine kb_alloc ?_) | (with_reducible refine kc_alloc ?_ (by simp only [World.size_alloc]; omega)) | (with_reducible refine k_drew ?_) | (with_reducible refine k_alloc ?_) | (with_reducible refine Below.setCell ?_ (by first | (simp; done) | (simp only; omega)) _) | (with_reducible refine kb_call (by with_reducible assumption) ?_) | (with_reducible refine kc_call (by with_reducible assumption) ?_ (by simp only [World.size_alloc]; omega)) | (with_reducible refine k_call (by with_reducible assumption) ?_)))) ((kc_alloc hB (by simp)).mono (by omega))⟩
          case pos =>
            subst k1
            by_cases k2 : t = t2
            case neg =>
              have n1 : (t == t2) = false := by simp [k2]
              have n2 : (C == C2) = false := by
                simp; intro e; exact k2 (M6.out.1 rfl rfl e).2
              clear k2
              go_wp2
              go_ret
              exact ⟨rfl, Below.trans (b := (w.alloc (.cells #[.int .i64 i, .int .i64 g, .bool m] 23) |>.alloc (.cells #[.int .i64 i2, .int .i64 g2, .bool m2] 23) |>.alloc (.cells #[.int .i64 l, .bool f, .int .i64 v] 27) |>.alloc (.cells #[.int .i64 l2, .bool f2, .int .i64 v2] 27) |>.alloc (.cells #[.int .i64 j, .int .i64 t] 25) |>.alloc (.cells #[.int .i64 _, .int .i64 _] 25))) (by (repeat (first | (with_reducible assumption) | exact Below.refl _ _ | (with_reducible refine kb_drew ?_) | (with_reducible refine kb_drewN ?_) | (with_reducible refine k_drewN ?_) | (with_reducible refine kb_alloc ?_) | (with_reducible refine kc_alloc ?_ (by simp only [World.size_alloc]; omega)) | (with_reducible refine k_drew ?_) | (with_reducible refine k_alloc ?_) | (with_reducible refine Below.setCell ?_ (by first | (simp; done) | (simp only; omega)) _) | (with_reducible refine kb_call (by with_reducible assumption) ?_) | (with_reducible refine kc_call (by with_reducible assumption) ?_ (by simp only [World.size_alloc]; omega)) | (with_reducible refine k_call (by with_reducible assumption) ?_)))) ((kc_alloc hB (by simp)).mono (by omega))⟩
            case pos =>
              subst k2
              obtain rfl : C = C2 := M6.out.2 rfl rfl
              go_wp2
              go_ret
              exact ⟨rfl, Below.trans (b := (w.alloc (.cells #[.int .i64 i, .int .i64 g, .bool m] 23) |>.alloc (.cells #[.int .i64 i2, .int .i64 g2, .bool m2] 23) |>.alloc (.cells #[.int .i64 l, .bool f, .int .i64 v] 27) |>.alloc (.cells #[.int .i64 l2, .bool f2, .int .i64 v2] 27) |>.alloc (.cells #[.int .i64 j, .int .i64 t] 25) |>.alloc (.cells #[.int .i64 _, .int .i64 _] 25))) (by (repeat (first | (with_reducible assumption) | exact Below.refl _ _ | (with_reducible refine kb_drew ?_) | (with_reducible refine kb_drewN ?_) | (with_reducible refine k_drewN ?_) | (with_reducible refine kb_alloc ?_) | (with_reducible refine kc_alloc ?_ (by simp only [World.size_alloc]; omega)) | (with_reducible refine k_drew ?_) | (with_reducible refine k_alloc ?_) | (with_reducible refine Below.setCell ?_ (by first | (simp; done) | (simp only; omega)) _) | (with_reducible refine kb_call (by with_reducible assumption) ?_) | (with_reducible refine kc_call (by with_reducible assumption) ?_ (by simp only [World.size_alloc]; omega)) | (with_reducible refine k_call (by with_reducible assumption) ?_)))) ((kc_alloc hB (by simp)).mono (by omega))⟩
        · go_wp2
          go_ret
          exact ⟨rfl, Below.trans (b := (w.alloc (.cells #[.int .i64 i, .int .i64 g, .bool m] 23) |>.alloc (.cells #[.int .i64 i2, .int .i64 g2, .bool m2] 23) |>.alloc (.cells #[.int .i64 l, .bool f, .int .i64 v] 27) |>.alloc (.cells #[.int .i64 l2, .bool f2, .int .i64 v2] 27) |>.alloc (.cells #[.int .i64 j, .int .i64 t] 25) |>.alloc (.cells #[.int .i64 _, .int .i64 _] 25))) (by (repeat (first | (with_reducible assumption) | exact Below.refl _ _ | (with_reducible refine kb_drew ?_) | (with_reducible refine kb_drewN ?_) | (with_reducible refine k_drewN ?_) | (with_reducible refine kb_alloc ?_) | (with_reducible refine kc_alloc ?_ (by simp only [World.size_alloc]; omega)) | (with_reducible refine k_drew ?_) | (with_reducible refine k_alloc ?_) | (with_reducible refine Below.setCell ?_ (by first | (simp; done) | (simp only; omega)) _) | (with_reducible refine kb_call (by with_reducible assumption) ?_) | (with_reducible refine kc_call (by with_reducible assumption) ?_ (by simp only [World.size_alloc]; omega)) | (with_reducible refine k_call (by with_reducible assumption) ?_)))) ((kc_alloc hB (by simp)).mono (by omega))⟩
end Go.Proofs.Ytbkaclkbjpdfnaa
