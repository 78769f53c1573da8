/- Facts of arenas, limbos and towers that may be (printed by gen_q.py). -/
import Derived.Test.YtbmbiiiacajolaaGreatPb
import Derived.KernelRfl
namespace Go.Proofs.YtbmbiiiacajolaaGreat
set_option linter.unusedVariables false
set_option linter.unusedSimpArgs false
set_option linter.unusedSectionVars false
open Go Go.RowKit

theorem he_step {a b : Int} {k : Nat} {six : List Int} : six ++ runP a b (k + 1) = (six ++ runP a b k) ++ [IntKind.i64.wrap (a + k), IntKind.i64.wrap (b + k)] := by rw [runP, List.append_assoc]
theorem he_step1 {a : Int} {k : Nat} {six : List Int} : six ++ runI a (k + 1) = (six ++ runI a k) ++ [IntKind.i64.wrap (a + k)] := by rw [runI, List.append_assoc]
theorem out_Snd15 (n h k t l s g w m ea ep ec tp : Int) : cSnd15.out [.i n, .i h, .i k, .i t, .i l, .i s, .i g, .i w, .i m, .i ea, .i ep, .i ec, .i tp] = [.b (okT n h k s)] := rfl
theorem get_at {L : List Int} {k : Int} (h0 : 0 ≤ k) (h1 : k < L.length) : L[k.toNat]?.getD 0 ∈ L ∧ L.take (k + 1).toNat = L.take k.toNat ++ [L[k.toNat]?.getD 0] := by
  have hk : k.toNat < L.length := by omega
  rw [List.getElem?_eq_getElem hk]
  refine ⟨List.getElem_mem hk, ?_⟩
  rw [show (k + 1).toNat = k.toNat + 1 by omega, List.take_succ_eq_append_getElem hk]
  rfl
theorem fits10_facts {t l s c : Int} (h : fits10 t l s c = 0) : 1 ≤ s ∧ s ≤ 4096 ∧ 0 ≤ t ∧ t < c ∧ 0 ≤ l ∧ l + s ≤ c ∧ 1 ≤ c ∧ c ≤ 4096 := by
  unfold fits10 at h
  by_cases h1 : c < 1 ∨ 4096 < c
  · rw [if_pos h1] at h; omega
  · rw [if_neg h1] at h
    by_cases h0 : s < 1 ∨ 4096 < s
    · rw [if_pos (by omega)] at h; omega
    · have e1 : IntKind.i64.wrap (c - s) = c - s := wrap_small (by omega) (by omega)
      rw [e1] at h
      by_cases h2 : t < 0 ∨ c ≤ t ∨ l < 0 ∨ c - s < l
      · rw [if_pos (by omega)] at h; omega
      · omega
theorem fits12_facts {t p n c : Int} (h : fits12 t p n c = 0) : 1 ≤ n ∧ n ≤ 64 ∧ 0 ≤ t ∧ t < c ∧ 0 ≤ p ∧ p + n ≤ c := by
  unfold fits12 at h
  by_cases h1 : c < 1 ∨ 4096 < c
  · rw [if_pos h1] at h; omega
  · rw [if_neg h1] at h
    by_cases h0 : n < 1 ∨ 64 < n
    · rw [if_pos (by omega)] at h; omega
    · have e1 : IntKind.i64.wrap (c - n) = c - n := wrap_small (by omega) (by omega)
      rw [e1] at h
      by_cases h2 : t < 0 ∨ c ≤ t ∨ p < 0 ∨ c - n < p
      · rw [if_pos (by omega)] at h; omega
      · omega
theorem mul_le {s a : Int} (h : 1 ≤ a ∧ a ≤ 4 ∧ 1 ≤ s ∧ s ≤ 128) : 0 ≤ s * (4 + a) ∧ s * (4 + a) ≤ 1024 := by
  obtain ⟨h1, h2, h3, h4⟩ := h
  have : a = 1 ∨ a = 2 ∨ a = 3 ∨ a = 4 := by omega
  rcases this with rfl | rfl | rfl | rfl <;> omega
theorem okT_facts {n h w s : Int} (hk : okT n h w s = true) : 1 ≤ w ∧ w ≤ 4 ∧ 1 ≤ s ∧ s ≤ 128 ∧ 0 ≤ n ∧ n < 4096 ∧ 0 ≤ h ∧ h < 4096 := of_decide_eq_true hk
set_option maxRecDepth 100000
def hsSnd15 : List (Nat × Nat × List Nat) := []
def tSnd15 : Tree := (.br (.cmp .geq (.var 2) (.lit 1))
 (.br (.cmp .leq (.var 2) (.lit 4))
 (.br (.cmp .geq (.var 5) (.lit 1))
 (.br (.cmp .leq (.var 5) (.lit 128))
 (.br (.cmp .geq (.var 0) (.lit 0))
 (.br (.cmp .lss (.var 0) (.lit 4096))
 (.br (.cmp .geq (.var 1) (.lit 0))
 (.ret [.bx (.cmp .lss (.var 1) (.lit 4096))])
 (.ret [.bx (.lit false)]))
 (.ret [.bx (.lit false)]))
 (.ret [.bx (.lit false)]))
 (.ret [.bx (.lit false)]))
 (.ret [.bx (.lit false)]))
 (.ret [.bx (.lit false)]))
 (.ret [.bx (.lit false)]))
theorem rSnd15 : runCtr { (cx Tryz.prog []) with hints := hsSnd15 } 20 cSnd15 [] [] = tSnd15 := by kernel_rfl

theorem vSnd15 (P : Program) (hs : List (Nat × Nat × List Nat)) : ∀ ins, ins.length = cSnd15.nin → cSnd15.pre ins → tSnd15.sat { cx P [] with hints := hs } (ctrR cSnd15) ins := by
  rintro ins _ ⟨n, h, k, t, l, s, g, w, m, ea, ep, ec, tp, rfl⟩
  simp only [Tree.sat, Bx.den, Ex.den, Bnd.den, gI, gB, gL, gF, gN, gNil, List.map_cons, List.map_nil, List.cons_append, List.nil_append, List.getElem?_cons_zero, List.getElem?_cons_succ, List.getD, Option.getD_some, cmp_eql_t, cmp_eql_f, cmp_neq_t, cmp_neq_f, cmp_lss_t, cmp_lss_f, cmp_leq_t, cmp_leq_f, cmp_gtr_t, cmp_gtr_f, cmp_geq_t, cmp_geq_f, Bool.not_eq_true', Bool.not_eq_false', Bool.and_eq_true, Bool.and_eq_false_iff, binDen, ctrR, Ctr.may, List.take_succ_cons, List.take_zero, Option.some.injEq, EV.u.injEq, tSnd15, cx, cSnd15, okT, true_and, and_true, ne_eq, not_true_eq_false, not_false_eq_true, false_implies, true_implies, implies_true, List.append_assoc]
  repeat' (first | with_reducible apply And.intro | intro _)
  all_goals first
    | omega
    | (refine congrArg (fun b => [EV.b b]) ?_; rw [Bool.eq_iff_iff]; simp only [decide_eq_true_eq, Bool.false_eq_true, cmp_lss_t, false_iff, true_iff, eq_self]; omega)
theorem hSnd15 : cSnd15.Holds objs Tryz.prog := runCtr_holds (X := { cx Tryz.prog [] with hints := hsSnd15 }) objsOk mixed noCts (callable _ Tryz.func82 (by kernel_rfl) (by kernel_rfl)) (by rintro ins _ ⟨_, _, _, _, _, _, _, _, _, _, _, _, _, rfl⟩; rfl) (by rw [rSnd15]; exact vSnd15 _ _)
section
variable {k : Tree} {env : List (EV U)} {X : Cx U} {R : List (EV U) → List (EV U) → Prop}
theorem st_rowP {i : Nat} {e x : Ex} {V vc : List Int} {y : Int} (hl : gL env i = V ++ vc) (hn : e.den env = (V.length : Int)) (hx : x.den env = y)
    (hk : ∀ (r : List Int) (env' : List (EV U)), env ++ [.l ((V ++ [y]) ++ r), .i (((V ++ [y]).length + r.length : Nat) : Int)] = env' → k.sat X R env') : (Tree.app (some i) e x k).sat X R env := by
  intro r
  refine hk r _ ?_
  simp only
  rw [hl, hn, hx, Int.toNat_natCast, List.take_left' rfl, List.length_append, List.append_assoc]
  rfl
end
end Go.Proofs.YtbmbiiiacajolaaGreat
