/- The calculus within a round of a loop over a function: what is shown for activations of functions, turned. No program is named here. -/
import Derived.Test.YtjohihkbampbgaaSm
import Derived.OrdersIn
import Derived.RangeFuncIn
import Derived.RangeFuncLeaves
import Derived.RangeFuncRecord
namespace Go.Proofs.Ytjohihkbampbgaa
set_option linter.unusedVariables false
set_option linter.unusedSimpArgs false
set_option linter.unusedSectionVars false
open Go

/-- all is let in; the frame is a round's, or none's -/
def fR (ro : Option Nat) : Fence := { Fence.wide with round := ro }
section
variable {P : Program} {ro : Option Nat} {Q : Exit → Act → World → Prop} {N : Act → World → Prop} {ops : Array Oper}
theorem callsR {f : FuncId} {args : Array Value} {w : World} {R : Ending → World → Prop} {n : Nat} (h : Calls P f args w R) : CallsIn (fR ro) n P f args w R := (callsIn_wide (n := n)).2 h
theorem callsR' {f : FuncId} {args : Array Value} {w : World} {R : Ending → World → Prop} {n : Nat} (h : CallsIn (fR ro) n P f args w R) : Calls P f args w R := (callsIn_wide (n := n)).1 h
theorem rowsR {row : String} {args : Array Value} {w : World} {R : Value → World → Prop} {n : Nat} (h : Rows P row args w R) : RowsIn (fR ro) n P row args w R := fun c cs _ =>
  let ⟨v, w', r, s⟩ := h c cs; ⟨v, w', r, stepsIn_wide.2 s⟩
theorem depthR : (fR ro).depth.isSome = true → 1 ≤ 0 := fun h => by cases h
theorem operR {o : Oper} {a : Act} {w : World} (hd : ∀ c, o.op ≠ .defer c) (h : o.wp P a w N Q) : o.wpIn (fR ro) 0 P a w N Q := by
  refine ⟨fun _ _ => trivial, ?_⟩
  rw [show (fR ro).round = ro from rfl, Oper.semAt_eq ro _ _ hd]
  unfold Oper.wp at h
  generalize (execOp a.eval o).run P w = r at *
  cases r with
  | ok x w' =>
    cases x <;> simp only [Oper.upon] at h <;> simp only [Oper.uponIn]
    case value v => exact h
    case skip => exact h
    case defer d => exact h
    case enter f args => exact ⟨depthR, CallsIn.mono (callsR h) fun e w'' he => by cases e <;> exact he⟩
    case row row args => exact ⟨depthR, rowsR h⟩
  | halt x w' => cases x <;> simp only [Oper.upon] at h <;> simp only [Oper.uponIn] <;> exact h

def wpListR (ro : Option Nat) (P : Program) (ops : Array Oper) (Q : Exit → Act → World → Prop) : List Oper → Act → World → Prop
  | [], a, w => Q .normal a w
  | o :: rest, a, w => if Region.wanted o (yielded ops a.tmps) = true then o.wpIn (fR ro) 0 P a w (wpListR ro P ops Q rest) Q else wpListR ro P ops Q rest (a.put o.dst undef) w
theorem wpListR_ops : ∀ (l : List Oper) (k : Nat) (a : Act) (w : World), (∀ j, j < l.length → ops[k + j]? = l[j]?) → wpListR ro P ops Q l a w → wpOpsIn (fR ro) 0 P ops Q (List.range' k l.length) a w
  | [], _, _, _, _, h => h
  | o :: rest, k, a, w, hl, h => by
    have h0 : ops[k]? = some o := by have := hl 0 (by simp); simpa using this
    have hr : ∀ j, j < rest.length → ops[k + 1 + j]? = rest[j]? := fun j hj => by
      have := hl (j + 1) (by simp; omega)
      rw [show k + 1 + j = k + (j + 1) by omega]; simpa using this
    simp only [List.length_cons, List.range'_succ, wpOpsIn, h0]
    simp only [wpListR] at h
    split at h
    · rename_i hw
      rw [if_pos hw]
      exact Oper.wpIn_mono (fun a w h => wpListR_ops rest (k + 1) a w hr h) h
    · rename_i hw
      rw [if_neg hw]
      exact ⟨fun _ _ => trivial, wpListR_ops rest (k + 1) _ w hr h⟩
theorem wpIn_region_list {id : Nat} {a : Act} {w : World} (h : wpListR ro P ops Q ops.toList a w) : (Code.region id ops false).wpIn (fR ro) 0 P Q a w := by
  refine wpIn_region ?_
  have := wpListR_ops ops.toList 0 a w (fun j hj => by simp) h
  simpa [List.range_eq_range'] using this
theorem wpAnyR {md : Region.Mode} (hd : ∀ (i : Nat) (o : Oper), ops[i]? = some o → ∀ c, o.op ≠ .defer c) (hQ : ¬ LetsOut Q) : ∀ (fuel : Nat) (listed : Array Bool) (a : Act) (w : World), wpAny P md ops Q fuel listed a w → wpAnyIn (fR ro) 0 P md ops Q fuel listed a w
  | 0, _, _, _, h => h
  | fuel + 1, listed, a, w, h => by
    refine ⟨h.1, fun i hi => ?_⟩
    have h2 := h.2 i hi
    unfold wpOp at h2
    unfold wpOpIn
    split at h2
    · rename_i ho; rw [ho]; exact wpAnyR hd hQ fuel _ a w h2
    · rename_i o ho
      rw [ho]
      dsimp only
      split at h2
      · rename_i hw
        rw [if_pos hw]
        rcases h2 with h2 | ⟨_, h2⟩
        · exact Oper.wpIn_mono (fun a w h => wpAnyR hd hQ fuel _ a w h) (operR (hd i o ho) h2)
        · exact absurd h2 hQ
      · rename_i hw
        rw [if_neg hw]
        exact ⟨fun _ _ => trivial, wpAnyR hd hQ fuel _ _ w h2⟩
theorem wpIn_region_held {id : Nat} {a : Act} {w : World} {S : World → Prop} (hm : P.follows .mixedOrders = true) (hd : ∀ (i : Nat) (o : Oper), ops[i]? = some o → ∀ c, o.op ≠ .defer c) (hQ : ¬ LetsOut Q)
    (h : wpAnyH P .any ops Q S ops.size (Array.replicate ops.size false) a { w with drawn := w.drawn + 1 }) : (Code.region id ops true).wpIn (fR ro) 0 P Q a w :=
  wpIn_region_any hm (wpAnyR hd hQ _ _ _ _ (wpAny_of_held _ _ _ _ h))

/-- a loop, told by what is remembered of it -/
theorem wpIn_loop_g {F : Fence} {n : Nat} {a : Act} {w : World} {c : Code} {G : Type} (I : G → Act → World → Prop) (μ : G → Nat) (g0 : G) (h₀ : I g0 a w)
    (round : ∀ g a w, I g a w → c.wpIn F n P (Exit.then (fun a' w' => ∃ g', I g' a' w' ∧ μ g' < μ g) Q) a w) : (Code.loop c).wpIn F n P Q a w := by
  intro b k cs hro hb hr
  have key : ∀ j g a w, μ g = j → I g a w →
      ∃ e a' w', Q e a' w' ∧ ArrivesIn (Machine.fenced P F) P (lone (b.atR a (.code c :: .inLoop c :: k)) cs w) b k cs e a' w' := by
    intro j
    induction j using Nat.strongRecOn with
    | _ j ih =>
      intro g a w hn hI
      obtain ⟨e, a₁, w₁, hq, harr⟩ := round g a w hI b (.inLoop c :: k) cs hro hb hr
      cases e with
      | normal =>
        obtain ⟨g₁, hI₁, hlt⟩ := hq
        obtain ⟨e₂, a₂, w₂, hq₂, harr₂⟩ := ih (μ g₁) (hn ▸ hlt) g₁ a₁ w₁ rfl hI₁
        exact ⟨e₂, a₂, w₂, hq₂, .of_steps (StepsIn.trans harr (.one (fenced_calm hb hr rfl) stepR_inLoop)) harr₂⟩
      | exit id => exact ⟨_, a₁, w₁, hq, .pass (x := .inLoop c) rfl (fun _ _ => .inl (by simp)) harr⟩
      | goto l => exact ⟨_, a₁, w₁, hq, .pass (x := .inLoop c) rfl (fun _ _ => .inl (by simp)) harr⟩
      | ret => exact ⟨_, a₁, w₁, hq, .pass (x := .inLoop c) rfl (fun _ _ => .inl (by simp)) harr⟩
      | panic ch => exact ⟨_, a₁, w₁, hq, .pass (x := .inLoop c) rfl (fun _ _ => .inl (by simp)) harr⟩
      | outgrown => exact ⟨_, a₁, w₁, hq, .pass (x := .inLoop c) rfl (fun _ _ => .inl (by simp)) harr⟩
  obtain ⟨e, a', w', hq, harr⟩ := key _ g0 a w rfl h₀
  exact ⟨e, a', w', hq, .of_steps (.one (fenced_calm hb hr rfl) stepR_loop) harr⟩

section
variable {b : Frame} {a : Act} {k : List Item} {cs : List Frame} {w : World}
theorem stepR_scope {c : Code} : step P (lone (b.atR a (.code (.scope c) :: k)) cs w) = .next (lone (b.atR a (.code c :: .inScope c :: k)) cs w) :=
  step_lone_go (by simp [stepG, stepG.exec, Frame.atR])
theorem stepR_inScope {c : Code} : step P (lone (b.atR a (.inScope c :: k)) cs w) = .next (lone (b.atR a k) cs w) :=
  step_lone_go (by simp [stepG, stepG.exec, Frame.atR])
theorem wpIn_scope_straight {F : Fence} {n : Nat} {c : Code} (h : c.wpIn F n P (Exit.noGoto Q) a w) : (Code.scope c).wpIn F n P Q a w := by
  intro b k cs hro hb hr
  obtain ⟨e, a₁, w₁, hq, harr⟩ := h b (.inScope c :: k) cs hro hb hr
  have h0 : ∀ {m'}, StepsIn (Machine.fenced P F) P (lone (b.atR a (.code c :: .inScope c :: k)) cs w) m' → StepsIn (Machine.fenced P F) P (lone (b.atR a (.code (.scope c) :: k)) cs w) m' := fun h =>
    .head (fenced_calm hb hr rfl) stepR_scope h
  cases e with
  | normal => exact ⟨.normal, a₁, w₁, hq, h0 (StepsIn.trans harr (.one (fenced_calm hb hr rfl) stepR_inScope))⟩
  | exit id => exact ⟨.exit id, a₁, w₁, hq, fun k' hk => h0 (harr.1 k' (by simp [exitTo, hk])), fun h1 hk => let ⟨k₁, h2, h3⟩ := harr.2 h1 (by simp [exitTo, hk]); ⟨k₁, h2, h0 h3⟩⟩
  | goto l => exact hq.elim
  | ret => exact ⟨_, a₁, w₁, hq, .of_steps (h0 (.refl _)) harr⟩
  | panic ch => exact ⟨_, a₁, w₁, hq, .of_steps (h0 (.refl _)) harr⟩
  | outgrown => exact ⟨_, a₁, w₁, hq, .of_steps (h0 (.refl _)) harr⟩
end
end
end Go.Proofs.Ytjohihkbampbgaa
