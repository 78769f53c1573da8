/- Texts of this proof. -/
import Derived.Test.YtbmbiiiacajolaaSlK
import Derived.OrdersIn
import Derived.RangeFuncIn
import Derived.RangeFuncLeaves
import Derived.RangeFuncRecord
namespace Go.Proofs.Ytbmbiiiacajolaa
set_option linter.unusedVariables false
set_option linter.unusedSimpArgs false
set_option linter.unusedSectionVars false
open Go
section
variable {U : Type} [Nil U]
def Ctr.Holds (objs : List (ObjT U)) (P : Program) (c : Ctr U) : Prop :=
 Callable P c.fn ∧ (∀ ins outs, ins.length = c.nin → c.pre ins → c.may ins outs → outs.length = c.nout) ∧
 ∀ (ins : List (EV U)) (ρ : List Value) (w : World) (vals : List Value) (F : Nat → Prop), ins.length = c.nin → c.pre ins → DenL ins ρ c.args vals → Sat objs w F ins ρ c.heap w →
   Calls P c.fn vals.toArray w fun e w' => ∃ r ρ' outs, c.may ins outs ∧ e = .returned r ∧ Den (ins ++ outs) (ρ ++ ρ') c.ret r ∧ Sat objs w F (ins ++ outs) (ρ ++ ρ') c.post w'
theorem nodup_inj : ∀ {σ : List Nat}, nodup σ = true → ∀ (i j a : Nat), σ[i]? = some a → σ[j]? = some a → i = j
 | [], _, i, _, _, h, _ => by simp at h
 | x :: σ, hn, i, j, a, hi, hj => by
   simp only [nodup, Bool.and_eq_true, Bool.not_eq_true', List.contains_eq_mem, decide_eq_false_iff_not] at hn
   cases i with
   | zero =>
     cases j with
     | zero => rfl
     | succ j => simp at hi hj; subst hi; exact absurd (List.mem_of_getElem? hj) hn.1
   | succ i =>
     cases j with
     | zero => simp at hi hj; subst hj; exact absurd (List.mem_of_getElem? hi) hn.1
     | succ j => simp at hi hj; rw [nodup_inj hn.2 i j a hi hj]
theorem substHp_spec {β : List Bnd} {σ : List Nat} (hnd : ∀ (i j a : Nat), σ[i]? = some a → σ[j]? = some a → i = j) (hp : List HE) : ∀ (ts : List HE) (n : Nat) (hp' : List HE), substHp β σ hp n ts = some hp' →
 hp'.length = hp.length ∧ (∀ m, (∀ j, j < ts.length → σ[n + j]? ≠ some m) → hp'[m]? = hp[m]?) ∧
 ∀ (j : Nat) (t : HE), ts[j]? = some t → ∃ a, σ[n + j]? = some a ∧ ((∃ ks i, t = .ro ks i) ∧ (∃ ks i, hp[a]? = some (.ro ks i)) ∧ hp'[a]? = hp[a]? ∨ (∀ ks i, t ≠ .ro ks i) ∧ ∃ h, t.subst β σ = some h ∧ (a < hp.length → hp'[a]? = some h))
 | [], n, hp', h => by
   simp only [substHp, Option.some.injEq] at h
   subst h
   exact ⟨rfl, fun _ _ => rfl, by simp⟩
 | t :: ts, n, hp', h => by
   by_cases hro : ∃ ks i, t = .ro ks i
   · obtain ⟨ks, i, rfl⟩ := hro
     simp only [substHp] at h
     split at h
     · rename_i a ha
       split at h
       · rename_i ks' i' hpa
         obtain ⟨h1, h2, h3⟩ := substHp_spec hnd hp ts (n + 1) hp' h
         have hne : ∀ j, j < ts.length → σ[n + 1 + j]? ≠ some a := fun j _ e => by have := hnd _ _ _ ha e; omega
         refine ⟨h1, fun m hm => h2 m fun j hj => ?_, fun j u hu => ?_⟩
         · have := hm (j + 1) (by simp; omega); rwa [show n + (j + 1) = n + 1 + j by omega] at this
         · cases j with
           | zero => simp at hu; subst hu; exact ⟨a, ha, .inl ⟨⟨_, _, rfl⟩, ⟨_, _, hpa⟩, h2 a hne⟩⟩
           | succ j => obtain ⟨b, e1, e2⟩ := h3 j u (by simpa using hu); exact ⟨b, by rw [← e1]; congr 1; omega, e2⟩
       · cases h
     · cases h
   · have hro' : ∀ ks i, t ≠ .ro ks i := fun ks i e => hro ⟨ks, i, e⟩
     have hdef : substHp β σ hp n (t :: ts) = match σ[n]?, t.subst β σ with
      | some a, some h => (substHp β σ hp (n + 1) ts).map fun hp' => hp'.set a h
      | _, _ => none := by cases t <;> first | rfl | exact absurd rfl (hro' _ _)
     rw [hdef] at h
     split at h
     · rename_i a e ha he
       simp only [Option.map_eq_some_iff] at h
       obtain ⟨hp1, hh, rfl⟩ := h
       obtain ⟨h1, h2, h3⟩ := substHp_spec hnd hp ts (n + 1) hp1 hh
       refine ⟨by simp [h1], fun m hm => ?_, fun j u hu => ?_⟩
       · have hma : a ≠ m := fun e => hm 0 (by simp) (by simpa [e] using ha)
         rw [List.getElem?_set_ne hma]
         exact h2 m fun j hj => by have := hm (j + 1) (by simp; omega); rwa [show n + (j + 1) = n + 1 + j by omega] at this
       · cases j with
         | zero => simp at hu; subst hu; exact ⟨a, ha, .inr ⟨hro', e, he, fun hlt => by rw [List.getElem?_set_self (by omega)]⟩⟩
         | succ j =>
           obtain ⟨b, e1, e2⟩ := h3 j u (by simpa using hu)
           have hba : a ≠ b := fun e => by subst e; have := hnd _ _ _ ha e1; omega
           refine ⟨b, by rw [← e1]; congr 1; omega, ?_⟩
           rw [List.getElem?_set_ne hba]
           exact e2
     · cases h
theorem substNew_spec {β : List Bnd} {σ : List Nat} : ∀ (ts : List HE) (hs : List HE), substNew β σ ts = some hs → hs.length = ts.length ∧ ∀ (j : Nat) (t : HE), ts[j]? = some t → (∀ ks i, t ≠ .ro ks i) ∧ ∃ h, t.subst β σ = some h ∧ hs[j]? = some h
 | [], hs, h => by simp [substNew] at h; subst h; exact ⟨rfl, by simp⟩
 | t :: ts, hs, h => by
   by_cases hro : ∃ ks i, t = .ro ks i
   · obtain ⟨ks, i, rfl⟩ := hro; simp [substNew] at h
   · have hro' : ∀ ks i, t ≠ .ro ks i := fun ks i e => hro ⟨ks, i, e⟩
     have hdef : substNew β σ (t :: ts) = (t.subst β σ).bind fun h => (substNew β σ ts).map (h :: ·) := by cases t <;> first | rfl | exact absurd rfl (hro' _ _)
     rw [hdef] at h
     simp only [Option.bind_eq_some_iff, Option.map_eq_some_iff] at h
     obtain ⟨x, hx, y, hy, rfl⟩ := h
     obtain ⟨h1, h2⟩ := substNew_spec ts y hy
     refine ⟨by simp [h1], fun j u hu => ?_⟩
     cases j with
     | zero => simp at hu; subst hu; exact ⟨hro', x, hx, rfl⟩
     | succ j => simpa using h2 j u (by simpa using hu)
theorem chkHp_spec {β : List Bnd} {σ : List Nat} {hp : List HE} : ∀ (ts : List HE) (n : Nat), chkHp β σ hp n ts = true → ∀ (j : Nat) (t : HE), ts[j]? = some t → ∃ a h, σ[n + j]? = some a ∧ hp[a]? = some h ∧ t.subst β σ = some h
 | [], n, _, j, t, h => by simp at h
 | t :: ts, n, hc, j, u, hu => by
   simp only [chkHp, Bool.and_eq_true] at hc
   obtain ⟨h1, h2⟩ := hc
   cases j with
   | zero =>
     simp at hu
     subst hu
     split at h1
     · rename_i a ha
       split at h1
       · rename_i h h' e1 e2
         simp only [Bool.and_eq_true] at h1
         exact ⟨a, h, ha, e1, by rw [e2, HE.beq_eq h1.1]⟩
       · cases h1
     · cases h1
   | succ j =>
     obtain ⟨a, h, e1, e2, e3⟩ := chkHp_spec ts (n + 1) h2 j u (by simpa using hu)
     exact ⟨a, h, by rw [← e1]; congr 1; omega, e2, e3⟩
theorem ArgsRel.den {env : List (EV U)} {ρ : List Value} : ∀ {args : List SV} {vals : List Value}, ArgsRel env ρ args vals → SV.sureL args = true → DenL env ρ args vals
 | [], vals, h, _ => by
   have := h.1
   cases vals with
   | nil => exact DenL.nil
   | cons _ _ => simp at this
 | v :: args, vals, h, hs => by
   obtain ⟨h1, h2⟩ := h
   simp only [SV.sureL, Bool.and_eq_true] at hs
   cases vals with
   | nil => simp at h1
   | cons c vals =>
     have h0 := h2 0
     simp at h0
     exact DenL.cons (h0.den (sure_ne hs.1)) (ArgsRel.den ⟨by simpa using h1, fun i => by simpa [List.getD] using h2 (i + 1)⟩ hs.2)
variable {objs : List (ObjT U)} {w0 : World} {F : Nat → Prop} {w : World} {env : List (EV U)} {ρ : List Value} {hp : List HE}
def inForm (σ : List Nat) (S : Nat → Nat → Prop) (x : Nat) : Prop := ∃ (j a : Nat), σ[j]? = some a ∧ S a x
theorem Sat.form {S : Nat → Nat → Prop} {β : List Bnd} {σ : List Nat} {ts : List HE} (hS : Own objs w0 F env ρ hp w S) (hf : Fr w0 F w) (hnd : nodup σ = true) (hlen : σ.length = ts.length) (hchk : chkHp β σ hp 0 ts = true) :
 Sat objs w (inForm σ S) (β.map (Bnd.den env)) (σ.map (hv ρ)) ts w := by
 have inj := nodup_inj hnd
 refine ⟨by simp [hlen], ⟨fun j x => ∃ a, σ[j]? = some a ∧ S a x, ⟨fun j t ht => ?_, fun i j x ⟨a, ha, hx⟩ ⟨b, hb, hy⟩ => ?_, fun j x ⟨a, ha, hx⟩ => ?_⟩⟩, ⟨rfl, rfl, rfl, Nat.le_refl _, fun _ _ _ => rfl⟩⟩
 · obtain ⟨a, h, e1, e2, e3⟩ := chkHp_spec ts 0 hchk j t ht
   rw [Nat.zero_add] at e1
   rw [hv_map ρ e1]
   have hfun : (fun x => ∃ a, σ[j]? = some a ∧ S a x) = S a := by
    funext x
    apply propext
    constructor
    · rintro ⟨b, hb, hx⟩; rw [e1] at hb; injection hb with hb; subst hb; exact hx
    · intro hx; exact ⟨a, e1, hx⟩
   rw [hfun]
   exact (hS.holds a h e2).form hf (fun x ⟨j, b, _, hx⟩ => (hS.dom b x hx).2.2) e3
 · have := hS.disj a b x hx hy
   subst this
   exact inj i j a ha hb
 · exact ⟨by rw [← hlen]; exact (List.getElem?_eq_some_iff.1 ha).1, (hS.dom a x hx).2.1, .inl ⟨j, a, ha, hx⟩⟩
theorem Sat.unform {S : Nat → Nat → Prop} {β' : List Bnd} {σ σ' : List Nat} {ts us : List HE} {w' : World} {ρ2 : List Value} {hp1 hp2 : List HE} {o : List (EV U)}
 (hlρ : ρ.length = hp.length) (hS : Own objs w0 F env ρ hp w S) (hf : Fr w0 F w) (hnd : nodup σ = true) (hσl : σ.all (· < hp.length) = true) (hlen : σ.length = ts.length)
 (hσ' : σ' = σ ++ (List.range us.length).map (hp.length + ·))
 (hb : β'.all (Bnd.inScope (env ++ o).length) = true) (h1 : substHp β' σ' hp 0 ts = some hp1) (h2 : substNew β' σ' us = some hp2)
 (hs : Sat objs w (inForm σ S) (β'.map (Bnd.den (env ++ o))) (σ'.map (hv (ρ ++ ρ2))) (ts ++ us) w') (hρ2 : ρ2.length = us.length) :
 Sat objs w0 F (env ++ o) (ρ ++ ρ2) (hp1 ++ hp2) w' := by
 have inj := nodup_inj hnd
 have inj' : ∀ (i j a : Nat), σ'[i]? = some a → σ'[j]? = some a → i = j := by
  intro i j a hi hj
  have low : ∀ (i a : Nat), σ[i]? = some a → a < hp.length := fun i a h => by simpa using List.all_eq_true.1 hσl a (List.mem_of_getElem? h)
  have part : ∀ (i a : Nat), σ'[i]? = some a → (σ[i]? = some a ∧ i < σ.length) ∨ (σ.length ≤ i ∧ a = hp.length + (i - σ.length)) := by
   intro i a h
   rw [hσ'] at h
   by_cases hi : i < σ.length
   · rw [List.getElem?_append_left hi] at h; exact .inl ⟨h, hi⟩
   · rw [List.getElem?_append_right (by omega)] at h
     simp only [List.getElem?_map, Option.map_eq_some_iff] at h
     obtain ⟨k, hk, rfl⟩ := h
     have hk2 := (List.getElem?_eq_some_iff.1 hk)
     obtain ⟨hk3, hk4⟩ := hk2
     simp at hk4
     exact .inr ⟨by omega, by omega⟩
  rcases part i a hi with ⟨a1, a2⟩ | ⟨a1, a2⟩ <;> rcases part j a hj with ⟨b1, b2⟩ | ⟨b1, b2⟩
  · exact inj i j a a1 b1
  · have := low i a a1; omega
  · have := low j a b1; omega
  · omega
 obtain ⟨g1, g2, g3⟩ := substHp_spec inj' hp ts 0 hp1 h1
 obtain ⟨k1, k2⟩ := substNew_spec us hp2 h2
 obtain ⟨Sp, hSp⟩ := hs.own
 have hnames : σ'.all (· < (ρ ++ ρ2).length) = true := by
  rw [List.all_eq_true]
  intro a ha
  rw [hσ'] at ha
  simp only [List.length_append, decide_eq_true_eq]
  rcases List.mem_append.1 ha with h | h
  · have := List.all_eq_true.1 hσl a h; simp at this; omega
  · simp only [List.mem_map, List.mem_range] at h
    obtain ⟨k, hk, rfl⟩ := h
    omega
 have hpos : ∀ j, j < us.length → σ'[ts.length + j]? = some (hp.length + j) := fun j hj => by
  rw [hσ', List.getElem?_append_right (by omega)]
  simp [hlen, hj]
 have hold : ∀ j, j < ts.length → ∃ a, σ'[j]? = some a ∧ σ[j]? = some a ∧ a < hp.length := fun j hj => by
  have hj' : j < σ.length := by omega
  refine ⟨σ[j], ?_, List.getElem?_eq_getElem hj', by simpa using List.all_eq_true.1 hσl _ (List.getElem_mem hj')⟩
  rw [hσ', List.getElem?_append_left hj', List.getElem?_eq_getElem hj']
 let S2 : Nat → Nat → Prop := fun n x => (∃ j : Nat, σ'[j]? = some n ∧ Sp j x) ∨ ((∀ j : Nat, σ'[j]? ≠ some n) ∧ S n x)
 have hS2 : ∀ (j n : Nat), σ'[j]? = some n → S2 n = Sp j := fun j n h => by
  funext x
  apply propext
  constructor
  · rintro (⟨i, hi, hx⟩ | ⟨hno, _⟩)
    · rw [inj' i j n hi h] at hx; exact hx
    · exact absurd h (hno j)
  · intro hx; exact .inl ⟨j, h, hx⟩
 have hSn : ∀ n, (∀ j : Nat, σ'[j]? ≠ some n) → S2 n = S n := fun n h => by
  funext x
  apply propext
  constructor
  · rintro (⟨i, hi, hx⟩ | ⟨_, hx⟩)
    · exact absurd hi (h i)
    · exact hx
  · intro hx; exact .inr ⟨h, hx⟩
 have hframe : ∀ n, (∀ j : Nat, σ[j]? ≠ some n) → ∀ x, S n x → w'.heap[x]? = w.heap[x]? := fun n hn x hx =>
  hs.frame.block x (hS.dom n x hx).2.1 fun ⟨j, a, ha, hxa⟩ => by
   have := hS.disj n a x hx hxa
   subst this
   exact hn j ha
 have hfr : Fr w0 F w' := ⟨hs.frame.os.trans hf.os, hs.frame.tape.trans hf.tape, hs.frame.output.trans hf.output, Nat.le_trans hf.size hs.frame.size, fun x hx hF => by
  rw [hs.frame.block x (Nat.lt_of_lt_of_le hx hf.size) fun ⟨j, a, ha, hxa⟩ => by
   rcases (hS.dom a x hxa).2.2 with h | h
   · exact hF h
   · omega]
  exact hf.block x hx hF⟩
 refine ⟨by simp [g1, k1, hlρ, hρ2], ⟨S2, ⟨fun n e hn => ?_, fun n m x hx hy => ?_, fun n x hx => ?_⟩⟩, hfr⟩
 · by_cases hin : ∃ j : Nat, σ'[j]? = some n
   · obtain ⟨j, hj⟩ := hin
     rw [hS2 j n hj]
     by_cases hjt : j < ts.length
     · obtain ⟨a, e1, e2, e3⟩ := hold j hjt
       rw [hj] at e1; injection e1 with e1; subst e1
       rw [List.getElem?_append_left (by omega)] at hn
       obtain ⟨b, f1, f2⟩ := g3 j ts[j] (List.getElem?_eq_getElem hjt)
       rw [Nat.zero_add, hj] at f1; injection f1 with f1; subst f1
       rcases f2 with ⟨_, ⟨ks, i, hro⟩, hsame⟩ | ⟨hnro, h, hsub, hget⟩
       · rw [hsame, hro] at hn
         injection hn with hn
         subst hn
         have := (hS.holds n _ hro).ext o ρ2
         rw [hv_app (by omega)]
         exact this
       · have := hget e3
         rw [this] at hn; injection hn with hn; subst hn
         have hh := hSp.holds j ts[j] (by rw [List.getElem?_append_left hjt, List.getElem?_eq_getElem hjt])
         rw [hv_map _ hj] at hh
         exact hh.unform hb hnames hsub hnro
     · have hju : j - ts.length < us.length := by
        have := (List.getElem?_eq_some_iff.1 hj).1
        rw [hσ'] at this
        simp at this
        omega
       have := hpos (j - ts.length) hju
       rw [show ts.length + (j - ts.length) = j by omega, hj] at this
       injection this with this
       rw [List.getElem?_append_right (by omega)] at hn
       rw [show n - hp1.length = j - ts.length by omega] at hn
       obtain ⟨hnro, h, hsub, hget⟩ := k2 _ _ (List.getElem?_eq_getElem hju)
       rw [hget] at hn; injection hn with hn; subst hn
       have hh := hSp.holds j us[j - ts.length] (by rw [List.getElem?_append_right (by omega), List.getElem?_eq_getElem hju])
       rw [hv_map _ hj] at hh
       exact hh.unform hb hnames hsub hnro
   · have hno : ∀ j : Nat, σ'[j]? ≠ some n := fun j h => hin ⟨j, h⟩
     rw [hSn n hno]
     have hlt : n < hp.length := by
      by_cases h : n < hp.length
      · exact h
      · exfalso
        have hn' := (List.getElem?_eq_some_iff.1 hn).1
        simp only [List.length_append, g1, k1] at hn'
        have := hpos (n - hp.length) (by omega)
        rw [show hp.length + (n - hp.length) = n by omega] at this
        exact hno _ this
     rw [List.getElem?_append_left (by omega), g2 n fun j hj => by rw [Nat.zero_add]; exact hno j] at hn
     have h3 := ((hS.holds n e hn).ext o ρ2).stay (w' := w') fun x hx => hframe n (fun j hj => hno j (by
      rw [hσ', List.getElem?_append_left (List.getElem?_eq_some_iff.1 hj).1]; exact hj)) x hx
     rw [hv_app (by omega)]
     exact h3
 · rcases hx with ⟨i, hi, hx⟩ | ⟨hno, hx⟩ <;> rcases hy with ⟨j, hj, hy⟩ | ⟨hno', hy⟩
   · have := hSp.disj i j x hx hy
     subst this
     rw [hi] at hj; injection hj
   · exfalso
     rcases (hSp.dom i x hx).2.2 with ⟨k, a, ha, hxa⟩ | h
     · have := hS.disj m a x hy hxa
       subst this
       exact hno' k (by rw [hσ', List.getElem?_append_left (List.getElem?_eq_some_iff.1 ha).1]; exact ha)
     · have := (hS.dom m x hy).2.1; omega
   · exfalso
     rcases (hSp.dom j x hy).2.2 with ⟨k, a, ha, hxa⟩ | h
     · have := hS.disj n a x hx hxa
       subst this
       exact hno k (by rw [hσ', List.getElem?_append_left (List.getElem?_eq_some_iff.1 ha).1]; exact ha)
     · have := (hS.dom n x hx).2.1; omega
   · exact hS.disj n m x hx hy
 · have hlen' : (hp1 ++ hp2).length = hp.length + us.length := by simp [g1, k1]
   rcases hx with ⟨j, hj, hx⟩ | ⟨hno, hx⟩
   · refine ⟨?_, (hSp.dom j x hx).2.1, ?_⟩
     · have := List.all_eq_true.1 hnames n (List.mem_of_getElem? hj)
       simp at this
       rw [hlen']; omega
     · rcases (hSp.dom j x hx).2.2 with ⟨k, a, ha, hxa⟩ | h
       · exact (hS.dom a x hxa).2.2
       · exact .inr (Nat.le_trans hf.size h)
   · obtain ⟨d1, d2, d3⟩ := hS.dom n x hx
     exact ⟨by omega, Nat.lt_of_lt_of_le d2 hs.frame.size, d3⟩
theorem tryCtr_sound {X : Cx U} {R : List (EV U) → List (EV U) → Prop} {c : Ctr U} {ci : Nat} (hci : X.cts[ci]? = some c) (hH : c.Holds X.objs X.P) {args : List SV} {st : St} {K : SV → St → Tree} {T : Tree} {a : Act} {as : List Act} {vals : List Value} {N : Value → World → Prop} {pre : List (EV U) × List Value}
 (h : tryCtr c ci args st K = some T) (hpre : Pfx pre env ρ) (hc : Conc X.objs w0 F env ρ st a as w) (ha : ArgsRel env ρ args vals)
 (hK : ∀ v st' env' ρ' c w', Pfx pre env' ρ' → Conc X.objs w0 F env' ρ' st' a as w' → Rel env' ρ' v c → (K v st').sat X R env' → N c w') (hs : T.sat X R env) :
 Callable X.P c.fn ∧ Calls X.P c.fn vals.toArray w fun e w' => ∃ c, e = .returned c ∧ N c w' := by
 obtain ⟨h1, h2, h3⟩ := hH
 refine ⟨h1, ?_⟩
 unfold tryCtr at h
 split at h
 · cases h
 · split at h
   · cases h
   · split at h
     · rename_i β σ _ _
       split at h
       · rename_i hcond
         simp only [Bool.and_eq_true, decide_eq_true_eq] at hcond
         obtain ⟨⟨⟨⟨⟨⟨⟨hca, hch⟩, hnd⟩, hple⟩, hβl⟩, hσl⟩, hβs⟩, hσs⟩ := hcond
         dsimp only at h
         split at h
         · rename_i v hp1 hp2 hvv hh1 hh2
           have hsk : c.pre (β.map (Bnd.den env)) ∧ ∀ outs, c.may (β.map (Bnd.den env)) outs → (K v { st with hp := hp1 ++ hp2, ne := st.ne + c.nout }).sat X R (env ++ outs) := by
            split at h
            · rename_i hm
              split at h
              · rename_i hrel
                injection h with h
                subst h
                simp only [Tree.sat, hci] at hs
                refine ⟨hs.1, fun outs ho => ?_⟩
                simp only [Ctr.may, hm, hrel] at ho
                subst ho
                exact hs.2
              · injection h with h
                subst h
                simp only [Tree.sat, hci] at hs
                exact hs
            · injection h with h
              subst h
              simp only [Tree.sat, hci] at hs
              exact hs
           clear hs
           obtain ⟨hp, hs0⟩ := hsk
           have hil : (β.map (Bnd.den env)).length = c.nin := by simp [hβl]
           obtain ⟨S, hS⟩ := hc.sat.own
           have hargs : DenL (β.map (Bnd.den env)) (σ.map (hv ρ)) c.args vals := by
            unfold chkL at hca
            split at hca
            · rename_i l hl
              simp only [Bool.and_eq_true] at hca
              have := SV.beqL_eq hca.1
              subst this
              exact form_DenL hl (ha.den hca.2)
            · cases hca
           have hsat := Sat.form hS hc.sat.frame hnd hσl hch
           refine Calls.mono (h3 _ _ w vals _ hil hp hargs hsat) fun e w' ⟨r, ρ', outs, hmay, he, hd, hs'⟩ => ⟨r, he, ?_⟩
           have hol := h2 _ outs hil hp hmay
           have hs := hs0 outs hmay
           have hb' : (β ++ (List.range c.nout).map fun j => Bnd.var (st.ne + j)).map (Bnd.den (env ++ outs)) = β.map (Bnd.den env) ++ outs := by
            rw [List.map_append, bnds_den hβs _ (by rw [hc.ne]; exact Nat.le_refl _)]
            congr 1
            apply List.ext_getElem?
            intro i
            simp only [List.getElem?_map, List.map_map]
            by_cases hi : i < c.nout
            · rw [List.getElem?_range hi]
              have hi' : i < (outs).length := by omega
              simp only [Option.map_some, Function.comp, Bnd.den, List.getD, ← hc.ne]
              rw [List.getElem?_append_right (by omega)]
              simp [List.getElem?_eq_getElem hi']
            · rw [List.getElem?_eq_none (by simp; omega), List.getElem?_eq_none (by omega)]; rfl
           have hρl := hs'.len
           simp only [List.length_append, List.length_map] at hρl
           have hn' : (σ ++ (List.range (c.post.length - c.heap.length)).map (st.hp.length + ·)).map (hv (ρ ++ ρ')) = σ.map (hv ρ) ++ ρ' := by
            rw [List.map_append, names_den (by rw [hc.sat.len]; exact hσs)]
            congr 1
            apply List.ext_getElem?
            intro i
            simp only [List.getElem?_map, List.map_map]
            by_cases hi : i < c.post.length - c.heap.length
            · rw [List.getElem?_range hi]
              have hi' : i < ρ'.length := by omega
              simp only [Option.map_some, Function.comp, hv, List.getD, ← hc.sat.len]
              rw [List.getElem?_append_right (by omega)]
              simp [List.getElem?_eq_getElem hi']
            · rw [List.getElem?_eq_none (by simp; omega), List.getElem?_eq_none (by omega)]; rfl
           have hscope : (β ++ (List.range c.nout).map fun j => Bnd.var (st.ne + j)).all (Bnd.inScope (env ++ outs).length) = true := by
            rw [List.all_eq_true]
            intro b hb
            rcases List.mem_append.1 hb with hb | hb
            · have := List.all_eq_true.1 hβs b hb
              have mono : ∀ {n m : Nat}, n ≤ m → ∀ {e : Ex}, e.inScope n = true → e.inScope m = true := by
               intro n m hnm e
               induction e with
               | lit _ => intro _; rfl
               | bin op k a b ih1 ih2 => intro h; simp [Ex.inScope] at h ⊢; exact ⟨ih1 h.1, ih2 h.2⟩
               | conv k a ih => intro h; simp only [Ex.inScope] at h ⊢; exact ih h
               | nth i e ih => intro h; simp [Ex.inScope] at h ⊢; exact ⟨by omega, ih h.2⟩
               | fld i e c ih => intro h; simp [Ex.inScope] at h ⊢; exact ⟨by omega, ih h.2⟩
               | _ => intro h; simp [Ex.inScope] at h ⊢; omega
              have monob : ∀ {n m : Nat}, n ≤ m → ∀ {e : Bx}, e.inScope n = true → e.inScope m = true := by
               intro n m hnm e
               induction e with
               | lit _ => intro _; rfl
               | cmp op a b => intro h; simp [Bx.inScope] at h ⊢; exact ⟨mono hnm h.1, mono hnm h.2⟩
               | beq a b ih1 ih2 => intro h; simp [Bx.inScope] at h ⊢; exact ⟨ih1 h.1, ih2 h.2⟩
               | not a ih => intro h; simp only [Bx.inScope] at h ⊢; exact ih h
               | and a b ih1 ih2 => intro h; simp [Bx.inScope] at h ⊢; exact ⟨ih1 h.1, ih2 h.2⟩
               | fld i e c => intro h; simp [Bx.inScope] at h ⊢; exact ⟨by omega, mono hnm h.2⟩
               | mem i e => intro h; simp [Bx.inScope] at h ⊢; exact ⟨by omega, mono hnm h.2⟩
               | _ => intro h; simp [Bx.inScope] at h ⊢; omega
              have hle : st.ne ≤ (env ++ outs).length := by have := hc.ne; simp; omega
              cases b with
              | ex e => exact mono hle this
              | bx e => exact monob hle this
              | var i => simp [Bnd.inScope] at this ⊢; have := hc.ne; omega
            · simp only [List.mem_map, List.mem_range] at hb
              obtain ⟨j, hj, rfl⟩ := hb
              have := hc.ne
              simp [Bnd.inScope]
              omega
           have hs2 : Sat X.objs w (inForm σ S) ((β ++ (List.range c.nout).map fun j => Bnd.var (st.ne + j)).map (Bnd.den (env ++ outs))) ((σ ++ (List.range (c.post.length - c.heap.length)).map (st.hp.length + ·)).map (hv (ρ ++ ρ'))) (c.post.take c.heap.length ++ c.post.drop c.heap.length) w' := by
            rw [hb', hn', List.take_append_drop]
            exact hs'
           have hdl : (c.post.drop c.heap.length).length = c.post.length - c.heap.length := by simp
           have hfin := Sat.unform (σ' := σ ++ (List.range (c.post.length - c.heap.length)).map (st.hp.length + ·)) hc.sat.len hS hc.sat.frame hnd hσs (by simp; omega) (by rw [hdl]) hscope hh1 hh2 hs2 (by rw [hdl]; omega)
           have hcc : Conc X.objs w0 F (env ++ outs) (ρ ++ ρ') { st with hp := hp1 ++ hp2, ne := st.ne + c.nout } a as w' :=
            ⟨by simp [hc.ne, hol], hc.pc.ext _, hc.tm.ext _ _, hc.stk.ext _ _, hfin⟩
           refine hK v _ (env ++ outs) (ρ ++ ρ') r w' ((hpre.env _).rho _) hcc (.inr ?_) hs
           have hnames : (σ ++ (List.range (c.post.length - c.heap.length)).map (st.hp.length + ·)).all (· < (ρ ++ ρ').length) = true := by
            rw [List.all_eq_true]
            intro a ha
            simp only [List.length_append, decide_eq_true_eq]
            have := hc.sat.len
            rcases List.mem_append.1 ha with h | h
            · have := List.all_eq_true.1 hσs a h; simp at this; omega
            · simp only [List.mem_map, List.mem_range] at h
              obtain ⟨k, hk, rfl⟩ := h
              omega
           have hvd := subst_Den hscope hnames hvv
           rw [hb', hn', hd.now] at hvd
           exact hvd
         · cases h
       · cases h
     · cases h
end
def fR (ro : Option Nat) : Fence := { Fence.wide with round := ro }
section
variable {P : Program} {ro : Option Nat} {Q : Exit → Act → World → Prop} {N : Act → World → Prop} {ops : Array Oper}
theorem callsR {f : FuncId} {args : Array Value} {w : World} {R : Ending → World → Prop} {n : Nat} (h : Calls P f args w R) : CallsIn (fR ro) n P f args w R := (callsIn_wide (n := n)).2 h
theorem callsR' {f : FuncId} {args : Array Value} {w : World} {R : Ending → World → Prop} {n : Nat} (h : CallsIn (fR ro) n P f args w R) : Calls P f args w R := (callsIn_wide (n := n)).1 h
theorem rowsR {row : String} {args : Array Value} {w : World} {R : Value → World → Prop} {n : Nat} (h : Rows P row args w R) : RowsIn (fR ro) n P row args w R := fun c cs _ =>
 let ⟨v, w', r, s⟩ := h c cs; ⟨v, w', r, stepsIn_wide.2 s⟩
theorem depthR : (fR ro).depth.isSome = true → 1 ≤ 0 := fun h => by cases h
theorem operR {o : Oper} {a : Act} {w : World} (hd : ∀ c, o.op ≠ .defer c) (h : o.wp P a w N Q) : o.wpIn (fR ro) 0 P a w N Q := by
 refine ⟨fun _ _ => trivial, ?_⟩
 rw [show (fR ro).round = ro from rfl, Oper.semAt_eq ro _ _ hd]
 unfold Oper.wp at h
 generalize (execOp a.eval o).run P w = r at *
 cases r with
 | ok x w' =>
   cases x <;> simp only [Oper.upon] at h <;> simp only [Oper.uponIn]
   case value v => exact h
   case skip => exact h
   case defer d => exact h
   case enter f args => exact ⟨depthR, CallsIn.mono (callsR h) fun e w'' he => by cases e <;> exact he⟩
   case row row args => exact ⟨depthR, rowsR h⟩
 | halt x w' => cases x <;> simp only [Oper.upon] at h <;> simp only [Oper.uponIn] <;> exact h
def wpListR (ro : Option Nat) (P : Program) (ops : Array Oper) (Q : Exit → Act → World → Prop) : List Oper → Act → World → Prop
 | [], a, w => Q .normal a w
 | o :: rest, a, w => if Region.wanted o (yielded ops a.tmps) = true then o.wpIn (fR ro) 0 P a w (wpListR ro P ops Q rest) Q else wpListR ro P ops Q rest (a.put o.dst undef) w
theorem wpListR_ops : ∀ (l : List Oper) (k : Nat) (a : Act) (w : World), (∀ j, j < l.length → ops[k + j]? = l[j]?) → wpListR ro P ops Q l a w → wpOpsIn (fR ro) 0 P ops Q (List.range' k l.length) a w
 | [], _, _, _, _, h => h
 | o :: rest, k, a, w, hl, h => by
   have h0 : ops[k]? = some o := by have := hl 0 (by simp); simpa using this
   have hr : ∀ j, j < rest.length → ops[k + 1 + j]? = rest[j]? := fun j hj => by
    have := hl (j + 1) (by simp; omega)
    rw [show k + 1 + j = k + (j + 1) by omega]; simpa using this
   simp only [List.length_cons, List.range'_succ, wpOpsIn, h0]
   simp only [wpListR] at h
   split at h
   · rename_i hw
     rw [if_pos hw]
     exact Oper.wpIn_mono (fun a w h => wpListR_ops rest (k + 1) a w hr h) h
   · rename_i hw
     rw [if_neg hw]
     exact ⟨fun _ _ => trivial, wpListR_ops rest (k + 1) _ w hr h⟩
theorem wpIn_region_list {id : Nat} {a : Act} {w : World} (h : wpListR ro P ops Q ops.toList a w) : (Code.region id ops false).wpIn (fR ro) 0 P Q a w := by
 refine wpIn_region ?_
 have := wpListR_ops ops.toList 0 a w (fun j hj => by simp) h
 simpa [List.range_eq_range'] using this
theorem wpAnyR {md : Region.Mode} (hd : ∀ (i : Nat) (o : Oper), ops[i]? = some o → ∀ c, o.op ≠ .defer c) (hQ : ¬ LetsOut Q) : ∀ (fuel : Nat) (listed : Array Bool) (a : Act) (w : World), wpAny P md ops Q fuel listed a w → wpAnyIn (fR ro) 0 P md ops Q fuel listed a w
 | 0, _, _, _, h => h
 | fuel + 1, listed, a, w, h => by
   refine ⟨h.1, fun i hi => ?_⟩
   have h2 := h.2 i hi
   unfold wpOp at h2
   unfold wpOpIn
   split at h2
   · rename_i ho; rw [ho]; exact wpAnyR hd hQ fuel _ a w h2
   · rename_i o ho
     rw [ho]
     dsimp only
     split at h2
     · rename_i hw
       rw [if_pos hw]
       rcases h2 with h2 | ⟨_, h2⟩
       · exact Oper.wpIn_mono (fun a w h => wpAnyR hd hQ fuel _ a w h) (operR (hd i o ho) h2)
       · exact absurd h2 hQ
     · rename_i hw
       rw [if_neg hw]
       exact ⟨fun _ _ => trivial, wpAnyR hd hQ fuel _ _ w h2⟩
theorem wpIn_region_held {id : Nat} {a : Act} {w : World} {S : World → Prop} (hm : P.follows .mixedOrders = true) (hd : ∀ (i : Nat) (o : Oper), ops[i]? = some o → ∀ c, o.op ≠ .defer c) (hQ : ¬ LetsOut Q)
 (h : wpAnyH P .any ops Q S ops.size (Array.replicate ops.size false) a { w with drawn := w.drawn + 1 }) : (Code.region id ops true).wpIn (fR ro) 0 P Q a w :=
 wpIn_region_any hm (wpAnyR hd hQ _ _ _ _ (wpAny_of_held _ _ _ _ h))
theorem wpIn_loop_g {F : Fence} {n : Nat} {a : Act} {w : World} {c : Code} {G : Type} (I : G → Act → World → Prop) (μ : G → Nat) (g0 : G) (h₀ : I g0 a w)
 (round : ∀ g a w, I g a w → c.wpIn F n P (Exit.then (fun a' w' => ∃ g', I g' a' w' ∧ μ g' < μ g) Q) a w) : (Code.loop c).wpIn F n P Q a w := by
 intro b k cs hro hb hr
 have key : ∀ j g a w, μ g = j → I g a w →
  ∃ e a' w', Q e a' w' ∧ ArrivesIn (Machine.fenced P F) P (lone (b.atR a (.code c :: .inLoop c :: k)) cs w) b k cs e a' w' := by
  intro j
  induction j using Nat.strongRecOn with
  | _ j ih =>
    intro g a w hn hI
    obtain ⟨e, a₁, w₁, hq, harr⟩ := round g a w hI b (.inLoop c :: k) cs hro hb hr
    cases e with
    | normal =>
      obtain ⟨g₁, hI₁, hlt⟩ := hq
      obtain ⟨e₂, a₂, w₂, hq₂, harr₂⟩ := ih (μ g₁) (hn ▸ hlt) g₁ a₁ w₁ rfl hI₁
      exact ⟨e₂, a₂, w₂, hq₂, .of_steps (StepsIn.trans harr (.one (fenced_calm hb hr rfl) stepR_inLoop)) harr₂⟩
    | exit id => exact ⟨_, a₁, w₁, hq, .pass (x := .inLoop c) rfl (fun _ _ => .inl (by simp)) harr⟩
    | goto l => exact ⟨_, a₁, w₁, hq, .pass (x := .inLoop c) rfl (fun _ _ => .inl (by simp)) harr⟩
    | ret => exact ⟨_, a₁, w₁, hq, .pass (x := .inLoop c) rfl (fun _ _ => .inl (by simp)) harr⟩
    | panic ch => exact ⟨_, a₁, w₁, hq, .pass (x := .inLoop c) rfl (fun _ _ => .inl (by simp)) harr⟩
    | outgrown => exact ⟨_, a₁, w₁, hq, .pass (x := .inLoop c) rfl (fun _ _ => .inl (by simp)) harr⟩
 obtain ⟨e, a', w', hq, harr⟩ := key _ g0 a w rfl h₀
 exact ⟨e, a', w', hq, .of_steps (.one (fenced_calm hb hr rfl) stepR_loop) harr⟩
section
variable {b : Frame} {a : Act} {k : List Item} {cs : List Frame} {w : World}
theorem stepR_scope {c : Code} : step P (lone (b.atR a (.code (.scope c) :: k)) cs w) = .next (lone (b.atR a (.code c :: .inScope c :: k)) cs w) :=
 step_lone_go (by simp [stepG, stepG.exec, Frame.atR])
theorem stepR_inScope {c : Code} : step P (lone (b.atR a (.inScope c :: k)) cs w) = .next (lone (b.atR a k) cs w) :=
 step_lone_go (by simp [stepG, stepG.exec, Frame.atR])
theorem wpIn_scope_straight {F : Fence} {n : Nat} {c : Code} (h : c.wpIn F n P (Exit.noGoto Q) a w) : (Code.scope c).wpIn F n P Q a w := by
 intro b k cs hro hb hr
 obtain ⟨e, a₁, w₁, hq, harr⟩ := h b (.inScope c :: k) cs hro hb hr
 have h0 : ∀ {m'}, StepsIn (Machine.fenced P F) P (lone (b.atR a (.code c :: .inScope c :: k)) cs w) m' → StepsIn (Machine.fenced P F) P (lone (b.atR a (.code (.scope c) :: k)) cs w) m' := fun h =>
  .head (fenced_calm hb hr rfl) stepR_scope h
 cases e with
 | normal => exact ⟨.normal, a₁, w₁, hq, h0 (StepsIn.trans harr (.one (fenced_calm hb hr rfl) stepR_inScope))⟩
 | exit id => exact ⟨.exit id, a₁, w₁, hq, fun k' hk => h0 (harr.1 k' (by simp [exitTo, hk])), fun h1 hk => let ⟨k₁, h2, h3⟩ := harr.2 h1 (by simp [exitTo, hk]); ⟨k₁, h2, h0 h3⟩⟩
 | goto l => exact hq.elim
 | ret => exact ⟨_, a₁, w₁, hq, .of_steps (h0 (.refl _)) harr⟩
 | panic ch => exact ⟨_, a₁, w₁, hq, .of_steps (h0 (.refl _)) harr⟩
 | outgrown => exact ⟨_, a₁, w₁, hq, .of_steps (h0 (.refl _)) harr⟩
end
end
section
variable {U : Type} [Nil U] {X : Cx U} {R : List (EV U) → List (EV U) → Prop} {w0 : World} {F : Nat → Prop} {env : List (EV U)} {ρ : List Value} {w : World}
 {inl : FuncId → List SV → St → (SV → St → Tree) → Tree} {st : St} {a : Act} {as : List Act} {base pre : List (EV U) × List Value} {Q : Exit → Act → World → Prop} {N : Act → World → Prop}
theorem stepO_sound (ho : ObjsOk X.objs) (hinl : InlOk X R w0 F base inl) (hbase : Pfx base pre.1 pre.2) {o : Oper} {K : St → Tree} (hc : Conc X.objs w0 F env ρ st a as w) (hK : Goes X R w0 F pre as K N) (hpre : Pfx pre env ρ) (hs : (stepO X inl o st K).sat X R env) :
 o.wp X.P a w N Q := by
 unfold stepO at hs
 simp only [SV.force_eq, St.forceAt_eq] at hs
 split at hs
 · rename_i ns v he
   obtain ⟨hns, hs⟩ := needs_sat hs
   obtain ⟨c, h1, h2⟩ := evalP_sound (W := fun w' => w' = w) he hc.tm.1 (fun w' h => by rw [h]; exact hc.sat.reads ho) rfl hns
   unfold Oper.wp
   rw [h2 w rfl]
   exact hK _ _ _ _ _ hpre (hc.put o.dst h1) hs
 · exact execE_sound ho hinl hbase hc hK hpre hs
theorem tm_bool {d : Tmp} {b : Bx} (hc : Conc X.objs w0 F env ρ st a as w) (h : st.tm.getD d .junk = .bool b) : a.tmps.getD d undef = .bool (b.den env) ∧ a.tmps[d]? = some (.bool (b.den env)) ∧ DenB env b (b.den env) := by
 have := hc.tm.1.2 d
 rw [h] at this
 obtain ⟨h1, h2⟩ := den_bool (this.den (by simp))
 refine ⟨h1, ?_, h2⟩
 by_cases hd : d < a.tmps.size
 · rw [Array.getElem?_eq_getElem hd]
   simpa [hd] using h1
 · simp [hd, undef] at h1
theorem Conc.setTm (hc : Conc X.objs w0 F env ρ st a as w) {d : Tmp} {v : SV} (h : Rel env ρ v (a.tmps.getD d undef)) : Conc X.objs w0 F env ρ { st with tm := st.tm.set d v } a as w := by
 refine ⟨hc.ne, hc.pc, ⟨⟨by rw [Tm.set_len]; exact hc.tm.1.1, fun i => ?_⟩, by rw [Tm.set_mks, Tm.set_dfs]; exact hc.tm.2⟩, hc.stk, hc.sat⟩
 have h0 := hc.tm.1.2 i
 unfold Tm.set
 split
 · by_cases hi : d = i
   · subst hi
     rcases (Tr.get_set st.tm.t d d v).1 rfl with e | e
     · simp only [Tm.getD, e]; exact h
     · simp only [Tm.getD, e]; exact .inl rfl
   · simp only [Tm.getD, (Tr.get_set st.tm.t d i v).2 hi]
     exact h0
 · exact h0
theorem Conc.setB {d : Tmp} {b : Bx} {r : Bool} (hc : Conc X.objs w0 F env ρ st a as w) (h : st.tm.getD d .junk = .bool b) (hr : b.den env = r) : Conc X.objs w0 F env ρ (setB st d r) a as w := by
 refine hc.setTm ?_
 rw [(tm_bool hc h).1, hr]
 exact .inr (bool_den (denB_lit r))
theorem skip_den {env : List (EV U)} {ρ : List Value} : Den env ρ (.tuple []) undef := ⟨fun _ _ => rfl, trivial⟩
theorem wantS_spec {ops : Array Oper} {o : Oper} {b : Bool} (hc : Conc X.objs w0 F env ρ st a as w) (h : wantS ops st.tm o = some b) : Region.wanted o (yielded ops a.tmps) = b := by
 unfold wantS at h
 split at h
 · rename_i hg
   injection h with h
   simp [Region.wanted, hg, h]
 · rename_i j want hg
   split at h
   · rename_i d hd
     split at h
     · rename_i b' hb
       injection h with h
       have h2 := (tm_bool hc hb).2.1
       simp only [Bx.den] at h2
       simp [Region.wanted, hg, yielded, hd, h2, ← h]
     · rename_i l hb
       split at h
       · rename_i hlt
         injection h with h
         have hlt2 : d < a.tmps.size := by rw [← hc.tm.1.1]; exact blt_true hlt
         have h1 := (hc.tm.1.2 d).den (by rw [hb]; simp)
         rw [hb] at h1
         obtain ⟨cs, h3, _⟩ := den_tuple h1
         have h2 : a.tmps[d]? = some (.tuple cs.toArray) := by
          rw [Array.getElem?_eq_getElem hlt2]
          simpa [hlt2] using h3
         simp [Region.wanted, hg, yielded, hd, h2, ← h]
       · cases h
     · cases h
   · cases h
theorem splitOf_spec {ops : Array Oper} {tm : Tm} {o : Oper} {d : Tmp} {b : Bx} (h : splitOf ops tm o = some (d, b)) : tm.getD d .junk = .bool b := by
 unfold splitOf at h
 repeat' split at h
 all_goals first
  | (injection h with h
     injection h with h1 h2
     subst h1
     subst h2
     assumption)
  | cases h
theorem idxOf_spec {sp : List (FuncId × Nat)} {P : Program} {hp : List HE} {tm : Tm} {o : Oper} {c : Tmp} {k : IntKind} {e : Ex} {len : Nat} (h : idxOf sp P hp tm o = some (c, k, e, len)) : tm.getD c .junk = .int k e := by
 unfold idxOf at h
 repeat' split at h
 all_goals first
  | (injection h with h
     injection h with h1 h2
     injection h2 with h2 h3
     injection h3 with h3 h4
     subst h1
     subst h2
     subst h3
     assumption)
  | cases h
theorem isCompl_sound {c b : Bx} (h : isCompl c b = true) : b.den env = !c.den env := by
 unfold isCompl at h
 split at h
 all_goals first
  | (cases h; done)
  | (simp only [Bool.and_eq_true] at h
     obtain ⟨h1, h2⟩ := h
     have e1 := Ex.beq_eq h1
     have e2 := Ex.beq_eq h2
     subst e1 e2
     first
      | (simp only [Bx.den, cmpDen, bne]; done)
      | (simp [Bx.den, cmpDen, bne]; done)
      | (simp only [Bx.den, cmpDen, bne]; rw [← decide_not]; done)
      | (simp only [Bx.den, cmpDen, bne]; rw [← decide_not]; exact decide_eq_decide.2 ⟨fun h => by omega, fun h => by omega⟩))
theorem known_sound : ∀ {pc : List (Bx × Bool)} {b : Bx} {v : Bool}, PcOk env pc → known pc b = some v → b.den env = v
 | [], b, v, _, h => by simp [known] at h
 | (c, x) :: l, b, v, hp, h => by
   have h0 := hp (c, x) (by simp)
   have hl : PcOk env l := fun p hp' => hp p (by simp [hp'])
   have h00 : c.den env = x := by have := h0 []; simpa using this
   simp only [known] at h
   split at h
   · rename_i he
     injection h with h
     rw [← Bx.beq_eq he, h00, h]
   · split at h
     · rename_i e i e' j
       split at h
       · rename_i hee
         injection h with h
         have := Ex.beq_eq hee
         subst this
         simp only [Bx.den, cmpDen, Ex.den, beq_iff_eq] at h00 ⊢
         rw [h00]
         exact h
       · exact known_sound hl h
     · split at h
       · rename_i hcm
         injection h with h
         rw [← h, ← h00]
         exact isCompl_sound hcm
       · exact known_sound hl h
theorem brL_sound {b : Bx} {K1 K2 : St → Tree} (hpc : PcOk env st.pc) (hb : DenB env b (b.den env)) (hs : (brL st b K1 K2).sat X R env) :
 ∃ pc', PcOk env pc' ∧ (b.den env = true ∧ (K1 { st with pc := pc' }).sat X R env ∨ b.den env = false ∧ (K2 { st with pc := pc' }).sat X R env) := by
 unfold brL at hs
 split at hs
 · rename_i hk; exact ⟨st.pc, hpc, .inl ⟨known_sound hpc hk, hs⟩⟩
 · rename_i hk; exact ⟨st.pc, hpc, .inr ⟨known_sound hpc hk, hs⟩⟩
 · obtain ⟨h1, h2⟩ := hs
   cases hbd : b.den env
   · exact ⟨(b, false) :: st.pc.take 40, fun p hp => by rcases List.mem_cons.1 hp with rfl | hp; (exact hbd ▸ hb); exact hpc p (List.mem_of_mem_take hp), .inr ⟨rfl, h2 hbd⟩⟩
   · exact ⟨(b, true) :: st.pc.take 40, fun p hp => by rcases List.mem_cons.1 hp with rfl | hp; (exact hbd ▸ hb); exact hpc p (List.mem_of_mem_take hp), .inl ⟨rfl, h1 hbd⟩⟩
theorem brK_sound {b : Bx} {K1 K2 : St → Tree} (hpc : PcOk env st.pc) (hb : DenB env b (b.den env)) (hs : (brK st b K1 K2).sat X R env) :
 ∃ pc', PcOk env pc' ∧ (b.den env = true ∧ (K1 { st with pc := pc' }).sat X R env ∨ b.den env = false ∧ (K2 { st with pc := pc' }).sat X R env) := by
 unfold brK at hs
 split at hs
 · rename_i c
   have hc : DenB env c (c.den env) := fun xs => by
    have := hb xs
    simp only [Bx.den] at this
    cases h1 : c.den (env ++ xs) <;> cases h2 : c.den env <;> simp_all
   obtain ⟨pc', h1, h2⟩ := brL_sound hpc hc hs
   refine ⟨pc', h1, ?_⟩
   rcases h2 with ⟨h2, h3⟩ | ⟨h2, h3⟩
   · exact .inr ⟨by simp [Bx.den, h2], h3⟩
   · exact .inl ⟨by simp [Bx.den, h2], h3⟩
 · exact brL_sound hpc hb hs
theorem Conc.setPc (hc : Conc X.objs w0 F env ρ st a as w) {pc : List (Bx × Bool)} (h : PcOk env pc) : Conc X.objs w0 F env ρ { st with pc := pc } a as w := ⟨hc.ne, h, hc.tm, hc.stk, hc.sat⟩
theorem idxTree_sound {c : Tmp} {k : IntKind} {e : Ex} {K : St → Tree} (he : DenE env e (e.den env)) : ∀ (m j : Nat) (st : St), PcOk env st.pc → (idxTree c k e K j m st).sat X R env → ∃ (i : Nat) (pc' : List (Bx × Bool)), PcOk env pc' ∧ e.den env = i ∧ (K { st with tm := st.tm.set c (.int k (.lit i)), pc := pc' }).sat X R env
 | 0, j, st, _, h => by obtain ⟨h, _⟩ := h; cases h
 | m + 1, j, st, hpc, h => by
   simp only [idxTree] at h
   have hb : DenB env (.cmp .eql e (.lit j)) ((Bx.cmp .eql e (.lit j)).den env) := fun xs => by simp only [Bx.den, Ex.den]; rw [he xs]
   obtain ⟨pc', h1, h2⟩ := brK_sound hpc hb h
   rcases h2 with ⟨h2, h3⟩ | ⟨h2, h3⟩
   · exact ⟨j, pc', h1, by simpa [Bx.den, cmpDen, Ex.den] using h2, h3⟩
   · obtain ⟨i, pc2, g1, g2, g3⟩ := idxTree_sound he m (j + 1) { st with pc := pc' } h1 h3
     exact ⟨i, pc2, g1, g2, g3⟩
theorem idx_den {c : Tmp} {k : IntKind} {e : Ex} (hc : Conc X.objs w0 F env ρ st a as w) (h : st.tm.getD c .junk = .int k e) : DenE env e (e.den env) := by
 have := hc.tm.1.2 c
 rw [h] at this
 exact (den_int (this.den (by simp))).2
theorem Conc.setI {c : Tmp} {k : IntKind} {e : Ex} {i : Nat} (hc : Conc X.objs w0 F env ρ st a as w) (h : st.tm.getD c .junk = .int k e) (hi : e.den env = i) : Conc X.objs w0 F env ρ { st with tm := st.tm.set c (.int k (.lit i)) } a as w := by
 refine hc.setTm ?_
 have := hc.tm.1.2 c
 rw [h] at this
 rw [(den_int (this.den (by simp))).1, hi]
 exact .inr (int_den (denE_lit _))
def RndOk (X : Cx U) (R : List (EV U) → List (EV U) → Prop) (w0 : World) (F : Nat → Prop) (base : List (EV U) × List Value) (rnd : Rnd) : Prop :=
 ∀ (pre : List (EV U) × List Value) m args st K env ρ a as w vals (N : Value → World → Prop), Pfx base pre.1 pre.2 → Pfx pre env ρ → Conc X.objs w0 F env ρ st a as w → ArgsRel env ρ args vals →
   (∀ v st' env' ρ' c w', Pfx pre env' ρ' → Conc X.objs w0 F env' ρ' st' a as w' → Rel env' ρ' v c → (K v st').sat X R env' → N c w') → (rnd m args st K).sat X R env →
   ∃ L : Loop, w.heap[(addrOf (hv ρ m)).block]? = some (.loop L) ∧ vals.length = L.params.size ∧
     RoundIn Fence.wide 0 X.P (addrOf (hv ρ m)).block L.fn ((L.params.zip vals.toArray).foldl (fun tmps (t, a) => tmps.setIfInBounds t a) L.tmps) L.assign L.body w (fun e w' => ∃ c, e = .returned c ∧ N c w')
theorem stepO_nodefer {o : Oper} {K : St → Tree} (hs : (stepO X inl o st K).sat X R env) (c : Call) : o.op ≠ .defer c := by
 intro e
 simp only [stepO, evalP, execE, e] at hs
 exact hs.elim
theorem yieldOf_spec {o : Oper} {n : Nat} {args : List SV} (hc : Conc X.objs w0 F env ρ st a as w) (h : yieldOf st.tm o = some (n, args)) :
 ∃ c f, o.op = .call c ∧ c.callee = .value f ∧ a.eval f = .func (.yield (addrOf (hv ρ n)).block) #[] #[] ∧ args = c.args.toList.map (evalO st.tm) := by
 unfold yieldOf at h
 split at h
 · rename_i c hop
   split at h
   · rename_i f hcal
     split at h
     · rename_i m hf
       injection h with h
       injection h with h1 h2
       subst h1 h2
       have hfr := evalO_rel hc.tm.1 f
       rw [hf] at hfr
       have hd := (hfr.den (by simp)).now.symm
       exact ⟨c, f, hop, hcal, hd, rfl⟩
     · cases h
   · cases h
 · cases h
theorem stepY_sound (ho : ObjsOk X.objs) (hinl : InlOk X R w0 F base inl) (hbase : Pfx base pre.1 pre.2) {rnd : Rnd} (hrnd : RndOk X R w0 F base rnd) {ro : Option Nat} {o : Oper} {K : St → Tree} (hc : Conc X.objs w0 F env ρ st a as w) (hK : Goes X R w0 F pre as K N) (hpre : Pfx pre env ρ) (hs : (stepY X inl rnd o st K).sat X R env) :
 o.wpIn (fR ro) 0 X.P a w N Q := by
 unfold stepY at hs
 split at hs
 · rename_i n args hy
   simp only [St.force_eq] at hs
   obtain ⟨c, f, hop, hcal, hev, rfl⟩ := yieldOf_spec hc hy
   obtain ⟨L, hL, hlen, hround⟩ := hrnd pre n _ st _ env ρ a as w (c.args.toList.map a.eval) (fun v w' => N (a.put o.dst v) w') hbase hpre hc (ArgsRel.of_ops hc.tm.1 _) (fun v st' env' ρ' c' w' hp hcc hrel hsat => hK _ _ _ _ _ hp (hcc.put o.dst hrel) hsat) hs
   refine ⟨fun _ _ => trivial, ?_⟩
   have hrun : (o.semAt (fR ro).round a.eval).run X.P w = .ok (.round (addrOf (hv ρ n)).block L.fn ((L.params.zip (c.args.toList.map a.eval).toArray).foldl (fun tmps (t, a) => tmps.setIfInBounds t a) L.tmps) L.assign L.body) w := by
    rw [Oper.semAt_eq _ _ _ (fun c' e => by rw [hop] at e; cases e)]
    have harr : (#[] ++ c.args.map a.eval : Array Value) = (c.args.toList.map a.eval).toArray := by apply Array.toList_inj.1; simp
    have hsz : ¬ (c.args.toList.map a.eval).toArray.size ≠ L.params.size := by simpa using hlen
    simp only [execOp, hop, resolve, hcal, hev, Deferred.ofValue, Sem.run_bind, Sem.run_pure, Result.andThen_ok, invoke]
    rw [harr]
    exact run_yield hL (by simpa using hlen)
   rw [hrun, Oper.uponIn_round]
   exact ⟨depthR, RoundIn.mono hround fun e w' ⟨c', he, hn⟩ => by subst he; exact hn⟩
 · exact operR (stepO_nodefer hs) (stepO_sound ho hinl hbase hc hK hpre hs)
theorem wpIn_exitQ {P : Program} {ro : Option Nat} {o : Oper} {a : Act} {w : World} {N Y : Act → World → Prop} {Q : Exit → Act → World → Prop} (h : o.wpIn (fR ro) 0 P a w N (fun e a w => match e with | .normal => Y a w | e => Q e a w)) : o.wpIn (fR ro) 0 P a w N Q := by
 obtain ⟨h1, h⟩ := h
 refine ⟨h1, ?_⟩
 generalize (o.semAt (fR ro).round a.eval).run P w = r at *
 cases r with
 | ok x w' => cases x <;> exact h
 | halt x w' => cases x <;> exact h
theorem wpListR_tail {P : Program} {ro : Option Nat} {ops : Array Oper} {r : List Oper} {Q : Exit → Act → World → Prop} : ∀ (l : List Oper) (a : Act) (w : World), wpListR ro P ops (fun e a w => match e with | .normal => wpListR ro P ops Q r a w | e => Q e a w) l a w → wpListR ro P ops Q (l ++ r) a w
 | [], a, w, h => h
 | o :: l, a, w, h => by
   simp only [List.cons_append, wpListR] at h ⊢
   split at h
   · rename_i hw
     rw [if_pos hw]
     exact Oper.wpIn_mono (fun a w h => wpListR_tail l a w h) (wpIn_exitQ h)
   · rename_i hw
     rw [if_neg hw]
     exact wpListR_tail l _ w h
theorem lastDefer_spec : ∀ {l r : List Oper} {o : Oper} {c : Call}, lastDefer l = some (r, o, c) → l = r ++ [o] ∧ o.op = .defer c ∧ o.guard = none
 | [], _, _, _, h => by simp [lastDefer] at h
 | [x], r, o, c, h => by
   unfold lastDefer at h
   split at h
   · rename_i c' ho hg
     simp only [Option.some.injEq, Prod.mk.injEq] at h
     obtain ⟨rfl, rfl, rfl⟩ := h
     exact ⟨rfl, ho, hg⟩
   · cases h
 | x :: y :: l, r, o, c, h => by
   unfold lastDefer at h
   split at h
   · rename_i r' d c' hl
     simp only [Option.some.injEq, Prod.mk.injEq] at h
     obtain ⟨rfl, rfl, rfl⟩ := h
     obtain ⟨e1, e2, e3⟩ := lastDefer_spec hl
     exact ⟨by rw [e1]; rfl, e2, e3⟩
   · cases h
theorem deferS_sound {o : Oper} {c : Call} {K : St → Tree} (hop : o.op = .defer c) (hc : Conc X.objs w0 F env ρ st a as w) (hK : Goes X R w0 F pre as K N) (hpre : Pfx pre env ρ) (hs : (deferS o c st K).sat X R env) : o.wpIn (fR none) 0 X.P a w N Q := by
 unfold deferS at hs
 split at hs
 · rename_i f hcal
   split at hs
   · rename_i g first captured hf
     split at hs
     · rename_i hsure
       simp only [Bool.and_eq_true] at hsure
       have hfr := evalO_rel hc.tm.1 f
       rw [hf] at hfr
       obtain ⟨fs, cs, e, hfd, hcd⟩ := den_func (hfr.den (by simp))
       have had := evalO_list hc.tm.1 c.args.toList hsure.1.2
       refine ⟨fun _ _ => trivial, ?_⟩
       have hrun : (o.semAt (fR none).round a.eval).run X.P w = .ok (.defer { target := .fn (.func g) cs.toArray, args := fs.toArray ++ c.args.map a.eval }) w := by
        show (execOp a.eval o).run X.P w = _
        simp only [execOp, hop, resolve, hcal, e, Deferred.ofValue, Sem.run_bind, Sem.run_pure, Result.andThen_ok]
       rw [hrun]
       show N ({ a with defers := _ :: a.defers }.put o.dst undef) w
       refine hK _ _ _ _ _ hpre (Conc.put (st := { st with tm := { st.tm with dfs := (g, first ++ c.args.toList.map (evalO st.tm) ++ captured) :: st.tm.dfs } }) (a := { a with defers := _ :: a.defers }) ⟨hc.ne, hc.pc, ⟨hc.tm.1, ?_, hc.tm.2.2⟩, hc.stk, hc.sat⟩ o.dst (.inl rfl)) hs
       obtain ⟨ds, e1, e2⟩ := hc.tm.2.1
       refine ⟨_ :: ds, by rw [List.cons_append, ← e1], ⟨cs.toArray, rfl, ?_⟩, e2⟩
       have := (hfd.append had).append hcd
       simpa using this
     · exact hs.elim
   · exact hs.elim
 · exact hs.elim
theorem runOps_sound (ho : ObjsOk X.objs) (hinl : InlOk X R w0 F base inl) (hbase : Pfx base pre.1 pre.2) {rnd : Rnd} (hrnd : RndOk X R w0 F base rnd) {ro : Option Nat} {ops : Array Oper} (hQ : ∀ a w, N a w → Q .normal a w) {K : St → Tree} (hK : Goes X R w0 F pre as K N) :
 ∀ (l : List Oper) (st : St) (env : List (EV U)) (ρ : List Value) (a : Act) (w : World), Pfx pre env ρ → Conc X.objs w0 F env ρ st a as w → (runOps X inl rnd ops l st K).sat X R env → wpListR ro X.P ops Q l a w := by
 intro l
 induction l with
 | nil => intro st env ρ a w hp hc hs; exact hQ _ _ (hK _ _ _ _ _ hp hc hs)
 | cons o rest ih =>
   intro st env ρ a w hp hc hs
   have hgo : Goes X R w0 F pre as (fun st => runOps X inl rnd ops rest st K) (wpListR ro X.P ops Q rest) := fun st' env' ρ' a' w' hp' hc' hs' => ih st' env' ρ' a' w' hp' hc' hs'
   have hst : ∀ (st : St), Conc X.objs w0 F env ρ st a as w → Region.wanted o (yielded ops a.tmps) = true → (stepY X inl rnd o st fun st => runOps X inl rnd ops rest st K).sat X R env → wpListR ro X.P ops Q (o :: rest) a w := by
    intro st hc hw hs
    show if _ then _ else _
    rw [if_pos hw]
    exact stepY_sound ho hinl hbase hrnd hc hgo hp hs
   have go : ∀ (st : St), Conc X.objs w0 F env ρ st a as w →
    (match wantS ops st.tm o with
      | some true =>
        match splitOf ops st.tm o with
        | some (d, b) => brK st b (fun st => stepY X inl rnd o (Go.Proofs.Ytbmbiiiacajolaa.setB st d true) fun st => runOps X inl rnd ops rest st K) (fun st => stepY X inl rnd o (Go.Proofs.Ytbmbiiiacajolaa.setB st d false) fun st => runOps X inl rnd ops rest st K)
        | none =>
          match idxOf X.split X.P st.hp st.tm o with
          | some (c, k, e, len) => idxTree c k e (fun st => stepY X inl rnd o st fun st => runOps X inl rnd ops rest st K) 0 len st
          | none => stepY X inl rnd o st fun st => runOps X inl rnd ops rest st K
      | some false => runOps X inl rnd ops rest (st.put o.dst (.tuple [])) K
      | none => Tree.fail "guard").sat X R env → wpListR ro X.P ops Q (o :: rest) a w := by
    intro st hc hs
    split at hs
    · rename_i hw
      have hw := wantS_spec hc hw
      split at hs
      · rename_i d b hsp
        have hb := splitOf_spec hsp
        obtain ⟨pc', hpc', hbr⟩ := brK_sound hc.pc (tm_bool hc hb).2.2 hs
        have hc' := hc.setPc hpc'
        rcases hbr with ⟨hbd, h1⟩ | ⟨hbd, h1⟩
        · exact hst _ (hc'.setB hb hbd) hw h1
        · exact hst _ (hc'.setB hb hbd) hw h1
      · split at hs
        · rename_i c k e len hix
          obtain ⟨i, pc', hpc', hi, hs⟩ := idxTree_sound (idx_den hc (idxOf_spec hix)) _ _ _ hc.pc hs
          exact hst _ ((hc.setPc hpc').setI (idxOf_spec hix) hi) hw hs
        · exact hst _ hc hw hs
    · rename_i hw
      have hw := wantS_spec hc hw
      show if _ then _ else _
      rw [if_neg (by rw [hw]; exact Bool.false_ne_true)]
      exact ih _ _ _ _ _ hp (hc.put o.dst (.inr skip_den)) hs
    · exact hs.elim
   simp only [runOps] at hs
   split at hs
   · rename_i d b hw hsp
     have hb := splitOf_spec hsp
     obtain ⟨pc', hpc', hbr⟩ := brK_sound hc.pc (tm_bool hc hb).2.2 hs
     have hc' := hc.setPc hpc'
     rcases hbr with ⟨hbd, h1⟩ | ⟨hbd, h1⟩
     · exact go _ (hc'.setB hb hbd) h1
     · exact go _ (hc'.setB hb hbd) h1
   · exact go _ hc hs
def KeptS (kept : List Nat) (ρs : List Value) (ws w : World) : Prop := ∀ n ∈ kept, ∀ ad, hv ρs n = .pointer (some ad) → w.heap[ad.block]? = ws.heap[ad.block]?
def KeptH (kept : List Nat) (hp0 hp : List HE) : Prop := ∀ n ∈ kept, ∃ h, hp0[n]? = some h ∧ hp[n]? = some h ∧ stays h = true
theorem keptGo_spec : ∀ (i : Nat) (kept : List Nat) (hp0 hp : List HE), keptGo i kept hp0 hp = none → ∀ n ∈ kept, i ≤ n ∧ ∃ h, hp0[n - i]? = some h ∧ hp[n - i]? = some h
 | _, [], _, _, _, n, hn => by simp at hn
 | i, k :: ks, a :: as, b :: bs, h, n, hn => by
   simp only [keptGo] at h
   have next : ∀ (ks : List Nat), keptGo (i + 1) ks as bs = none → n ∈ ks → i ≤ n ∧ ∃ h, (a :: as)[n - i]? = some h ∧ (b :: bs)[n - i]? = some h := fun ks h hn => by
    obtain ⟨h1, x, h2, h3⟩ := keptGo_spec (i + 1) ks as bs h n hn
    have e : n - i = n - (i + 1) + 1 := by omega
    exact ⟨by omega, x, by rw [e]; exact h2, by rw [e]; exact h3⟩
   split at h
   · rename_i hik
     obtain rfl := Nat.eq_of_beq_eq_true hik
     split at h
     · rename_i he
       rcases List.mem_cons.1 hn with rfl | hn
       · exact ⟨Nat.le_refl _, a, by simp, by simp [HE.beq_eq he]⟩
       · exact next _ h hn
     · cases h
   · exact next _ h hn
 | _, k :: _, [], _, h, n, hn => by simp [keptGo] at h
 | _, k :: _, _ :: _, [], h, n, hn => by simp [keptGo] at h
theorem keptOk_spec {hp0 hp : List HE} {kept : List Nat} (h : keptOk hp0 hp kept = none) (n : Nat) (hn : n ∈ kept) : ∃ h, hp0[n]? = some h ∧ hp[n]? = some h := by
 obtain ⟨_, x, h1, h2⟩ := keptGo_spec 0 kept hp0 hp h n hn
 exact ⟨x, by simpa using h1, by simpa using h2⟩
theorem memN_mem {n : Nat} : ∀ {l : List Nat}, memN n l = true → n ∈ l
 | [], h => by cases h
 | m :: l, h => by
   simp only [memN] at h
   split at h
   · rename_i e; rw [Nat.eq_of_beq_eq_true e]; exact List.mem_cons_self
   · exact List.mem_cons_of_mem _ (memN_mem h)
theorem keptFrom_stays {out : List Nat} : ∀ (i : Nat) (hp : List HE) (n : Nat), n ∈ keptFrom out i hp → i ≤ n ∧ ∃ e, hp[n - i]? = some e ∧ stays e = true
 | _, [], n, h => by simp [keptFrom] at h
 | i, a :: hp, n, h => by
   simp only [keptFrom, fNat_eq] at h
   have next : n ∈ keptFrom out (i + 1) hp → i ≤ n ∧ ∃ e, (a :: hp)[n - i]? = some e ∧ stays e = true := fun h => by
    obtain ⟨h1, e, h2, h3⟩ := keptFrom_stays (i + 1) hp n h
    have e' : n - i = n - (i + 1) + 1 := by omega
    exact ⟨by omega, e, by rw [e']; exact h2, h3⟩
   split at h
   · rename_i hb
     rcases List.mem_cons.1 h with rfl | h
     · refine ⟨Nat.le_refl _, a, by simp, ?_⟩
       split at hb
       · cases hb
       · split at hb
         · rfl
         · rfl
         · exact hb
     · exact next h
   · exact next h
theorem add_block (ad : Addr) (k : Nat) : (ad.add k).block = ad.block := by unfold Addr.add; split <;> rfl
theorem onlyKept_get {kept : List Nat} {hp : List HE} {n : Nat} {h : HE} (hg : (onlyKept kept hp)[n]? = some h) : ∃ h0, hp[n]? = some h0 ∧ ((∃ i, h0 = .abs i) ∧ h = h0 ∨ n ∈ kept ∧ h = h0 ∨ h = .gone) := by
 unfold onlyKept at hg
 simp only [List.getElem?_map, Option.map_eq_some_iff] at hg
 obtain ⟨⟨h0, m⟩, hz, hh⟩ := hg
 rw [List.getElem?_zipIdx] at hz
 simp only [Option.map_eq_some_iff, Prod.mk.injEq, Nat.zero_add] at hz
 obtain ⟨h1, e1, rfl, rfl⟩ := hz
 refine ⟨h1, e1, ?_⟩
 cases h1 with
 | abs i => exact .inl ⟨⟨i, rfl⟩, hh.symm⟩
 | _ =>
   dsimp only at hh
   split at hh
   · rename_i hk; exact .inr (.inl ⟨memN_mem hk, hh.symm⟩)
   · exact .inr (.inr hh.symm)
theorem kept_reads (ho : ObjsOk X.objs) {kept : List Nat} {hp0 : List HE} {ρs : List Value} {ws : World} (hl : hp0.length ≤ ρs.length) (hρ : ρs <+: ρ) (hc : Conc X.objs w0 F env ρ st a as w) (hk : KeptH kept hp0 st.hp) (hS : KeptS kept ρs ws w)
 {w' : World} (hS' : KeptS kept ρs ws w') : Reads env ρ (onlyKept kept st.hp) w' := by
 intro n h hn
 obtain ⟨h0, e0, hcase⟩ := onlyKept_get hn
 obtain ⟨hlt, hr⟩ := hc.sat.reads ho n h0 e0
 refine ⟨hlt, ?_⟩
 rcases hcase with ⟨⟨i, rfl⟩, rfl⟩ | ⟨hmem, rfl⟩ | rfl
 · exact hr
 · obtain ⟨h1, f1, f2, f3⟩ := hk n hmem
   have hns : n < ρs.length := Nat.lt_of_lt_of_le (List.getElem?_eq_some_iff.1 f1).1 hl
   have hvs : hv ρ n = hv ρs n := by obtain ⟨ys, rfl⟩ := hρ; exact hv_app hns ys
   have hb : ∀ ad, hv ρ n = .pointer (some ad) → w'.heap[ad.block]? = w.heap[ad.block]? := fun ad e => (hS' n hmem ad (by rw [← hvs]; exact e)).trans (hS n hmem ad (by rw [← hvs]; exact e)).symm
   cases h with
   | cells vs ty => obtain ⟨b, cs, e1, e2, e3⟩ := hr; exact ⟨b, cs, e1, e2, (hb _ e1).trans e3⟩
   | row k ty i =>
     rcases hr with hr | ⟨b, cs, e1, e2, e3⟩
     · exact .inl hr
     · exact .inr ⟨b, cs, e1, e2, (hb _ e1).trans e3⟩
   | ro ks i =>
     rcases hr with hr | ⟨ad, g, m, e1, e2, e3⟩
     · exact .inl hr
     exact .inr ⟨ad, g, m, e1, e2, fun j hj c k hk => by
      rw [← e3 j hj c k hk]
      exact World.cell?_of_block (w := w) (by rw [add_block]; exact hb _ e1)⟩
   | abs i => exact hr
   | sys i j => trivial
   | gone => trivial
   | sp k ty len xs => obtain ⟨b, e1, e3⟩ := hr; exact ⟨b, e1, (hb _ e1).trans e3⟩
   | mp i => obtain ⟨b, cs, e1, e2, e3⟩ := hr; exact ⟨b, cs, e1, e2, (hb _ e1).trans e3⟩
   | kn k ty xs i => obtain ⟨b, cs, e1, e2, e3⟩ := hr; exact ⟨b, cs, e1, e2, (hb _ e1).trans e3⟩
   | kc vs ty sz i => obtain ⟨b, cs, r, e1, e2, e3⟩ := hr; exact ⟨b, cs, r, e1, e2, (hb _ e1).trans e3⟩
   | rb ty i => obtain ⟨b, cs, e1, e2, e3⟩ := hr; exact ⟨b, cs, e1, e2, (hb _ e1).trans e3⟩
 · trivial
theorem kept_after {kept : List Nat} {hp0 : List HE} {envs : List (EV U)} {ρs : List Value} {ws : World} {sts : St} {a0 : Act} {as0 : List Act} (hcs : Conc X.objs w0 F envs ρs sts a0 as0 ws) (h0 : sts.hp = hp0) (hp : Pfx (envs, ρs) env ρ)
 (hc : Conc X.objs w0 F env ρ st a as w) (hk : KeptH kept hp0 st.hp) : KeptS kept ρs ws w := by
 subst h0
 intro n hn
 obtain ⟨h, e1, e2, e3⟩ := hk n hn
 obtain ⟨S, hS⟩ := hcs.sat.own
 obtain ⟨S', hS'⟩ := hc.sat.own
 have g1 := hS.holds n h e1
 have g2 := hS'.holds n h e2
 obtain ⟨⟨o, rfl⟩, ⟨r, rfl⟩⟩ := hp
 have hns : n < ρs.length := by rw [hcs.sat.len]; exact (List.getElem?_eq_some_iff.1 e1).1
 rw [hv_app hns] at g2
 intro ad had
 cases h with
 | cells vs ty =>
   obtain ⟨b, cs, f1, f2, f3, _⟩ := g1
   obtain ⟨b', cs', f1', f2', f3', _⟩ := g2
   rw [f1] at f1'; injection f1' with f1'; injection f1' with f1'; injection f1' with f1'; subst f1'
   have : cs' = cs := by rw [← f2.1 o r, ← f2'.1 [] []]; simp
   subst this
   rw [f1] at had; injection had with had; injection had with had; subst had
   rw [f3, f3']
 | row k ty i =>
   rcases g1 with ⟨f1, _⟩ | ⟨b, cs, f1, f2, f3, _⟩
   · rw [f1] at had; cases had
   rcases g2 with ⟨f1', _⟩ | ⟨b', cs', f1', f2', f3', _⟩
   · rw [f1] at f1'; cases f1'
   rw [f1] at f1'; injection f1' with f1'; injection f1' with f1'; injection f1' with f1'; subst f1'
   rw [get_ext f2] at f2'; injection f2' with f2'; injection f2' with f2'; subst f2'
   rw [f1] at had; injection had with had; injection had with had; subst had
   rw [f3, f3']
 | ro ks i =>
   rcases g1 with ⟨f1, _⟩ | ⟨ad', g, m, f1, f2, f3, f4, f5⟩
   · rw [f1] at had; cases had
   rw [f1] at had; injection had with had; injection had with had; subst had
   rw [hc.sat.frame.block _ f3 f4, hcs.sat.frame.block _ f3 f4]
 | abs i => simp [stays] at e3
 | sys i j => simp [stays] at e3
 | kc vs ty sz i => simp [stays] at e3
 | gone => simp [stays] at e3
 | sp k ty len xs =>
   obtain ⟨b, f1, f3, _⟩ := g1
   obtain ⟨b', f1', f3', _⟩ := g2
   rw [f1] at f1'; injection f1' with f1'; injection f1' with f1'; injection f1' with f1'; subst f1'
   rw [f1] at had; injection had with had; injection had with had; subst had
   rw [f3, f3']
 | rb ty i =>
   obtain ⟨b, cs, f1, f2, f3, _⟩ := g1
   obtain ⟨b', cs', f1', f2', f3', _⟩ := g2
   rw [f1] at f1'; injection f1' with f1'; injection f1' with f1'; injection f1' with f1'; subst f1'
   rw [get_ext f2] at f2'; injection f2' with f2'; injection f2' with f2'; subst f2'
   rw [f1] at had; injection had with had; injection had with had; subst had
   rw [f3, f3']
 | mp i =>
   obtain ⟨b, cs, f1, f2, f3, _⟩ := g1
   obtain ⟨b', cs', f1', f2', f3', _⟩ := g2
   rw [f1] at f1'; injection f1' with f1'; injection f1' with f1'; injection f1' with f1'; subst f1'
   rw [get_ext f2] at f2'; injection f2' with f2'; injection f2' with f2'; subst f2'
   rw [f1] at had; injection had with had; injection had with had; subst had
   rw [f3, f3']
 | kn k ty xs i =>
   obtain ⟨b, cs, f1, f2, f3, _⟩ := g1
   obtain ⟨b', cs', f1', f2', f3', _⟩ := g2
   rw [f1] at f1'; injection f1' with f1'; injection f1' with f1'; injection f1' with f1'; subst f1'
   rw [get_ext f2] at f2'; injection f2' with f2'; injection f2' with f2'
   have f2' := List.append_cancel_left f2'
   subst f2'
   rw [f1] at had; injection had with had; injection had with had; subst had
   rw [f3, f3']
theorem keptOf_stays {out : List Nat} {hp : List HE} {n : Nat} (h : n ∈ keptOf out hp) : ∃ e, hp[n]? = some e ∧ stays e = true := by
 obtain ⟨_, e, h1, h2⟩ := keptFrom_stays 0 hp n h
 exact ⟨e, by simpa using h1, h2⟩
theorem wpAnyH_weak {P : Program} {md : Region.Mode} {ops : Array Oper} {Q : Exit → Act → World → Prop} {S S' : World → Prop} (h : ∀ w, S' w → S w) : ∀ (fuel : Nat) (listed : Array Bool) (a : Act) (w : World), wpAnyH P md ops Q S' fuel listed a w → wpAnyH P md ops Q S fuel listed a w
 | 0, _, _, _, H => H
 | fuel + 1, _, _, _, H => ⟨H.1, fun i hi => wpOp_mono (fun _ _ h' => ⟨h _ h'.1, wpAnyH_weak h fuel _ _ _ h'.2⟩) (H.2 i hi)⟩
theorem runDraw_sound (ho : ObjsOk X.objs) (hinl : InlOk X R w0 F base inl) (hbase : Pfx base pre.1 pre.2) {ops : Array Oper} (hnos : Region.noSelect ops = true) (hQ : ∀ a w, N a w → Q .normal a w) (hQp : ∀ c a w, ¬ Q (.panic c) a w) {K : St → Tree} (hK : Goes X R w0 F pre as K N)
 {tag : Nat} :
 ∀ (n : Nat) {kept : List Nat} {hp0 : List HE} {envs : List (EV U)} {ρs : List Value} {ws : World} {sts : St} {a0 : Act} {as0 : List Act}, Conc X.objs w0 F envs ρs sts a0 as0 ws → sts.hp = hp0 → Pfx pre envs ρs → (∀ n ∈ kept, ∃ h, hp0[n]? = some h ∧ stays h = true) →
 ∀ (m : Nat) (pend : List Nat) (listed : Array Bool) (st : St) (env : List (EV U)) (ρ : List Value) (a : Act) (w : World), Pfx (envs, ρs) env ρ → Conc X.objs w0 F env ρ st a as w → KeptH kept hp0 st.hp →
   (runDraw X inl ops tag kept hp0 n m pend listed st K).sat X R env → wpAnyH X.P .any ops Q (KeptS kept ρs ws) m listed a w := by
 intro n
 induction n with
 | zero => intro _ _ _ _ _ _ _ _ _ _ _ _ m pend listed st env ρ a w _ _ _ hs; exact hs.elim
 | succ n ih =>
   intro kept hp0 envs ρs ws sts a0 as0 hcs h0 hps hst m pend listed st env ρ a w hp hc hk hs
   have hl : hp0.length ≤ ρs.length := by rw [hcs.sat.len, h0]; exact Nat.le_refl _
   have hpre : ∀ {env : List (EV U)} {ρ : List Value}, Pfx (envs, ρs) env ρ → Pfx pre env ρ := fun h => ⟨hps.1.trans h.1, hps.2.trans h.2⟩
   have hS : KeptS kept ρs ws w := kept_after hcs h0 hp hc hk
   simp only [runDraw, fArr_eq, St.force_eq] at hs
   split at hs
   · rename_i i hfind
     have htake := List.find?_some hfind
     simp only [Bool.and_eq_true] at htake
     obtain ⟨hrdy, htake⟩ := htake
     unfold takeable at htake
     simp only [Bool.and_eq_true] at htake
     obtain ⟨hfree, htake⟩ := htake
     have hfree : Region.free .any ops listed i = true := by
      rcases Bool.or_eq_true _ _ ▸ hfree with h | h
      · exact free_static h
      · exact h
     split at hs
     · exact hs.elim
     · rename_i m'
       split at hs
       · rename_i o hoi
         have hrc : (Region.ready .any ops listed).contains i = true := by
          have hlt : i < ops.size := (Array.getElem?_eq_some_iff.1 hoi).1
          simp only [List.contains_eq_mem, decide_eq_true_eq]
          unfold Region.ready
          exact List.mem_filter.2 ⟨List.mem_range.2 hlt, hrdy⟩
         have take : ∀ {v : Value}, YieldsIf X.P ops (KeptS kept ρs ws) o v a → wpAnyH X.P .any ops Q (KeptS kept ρs ws) m' (listed.setIfInBounds i true) (a.put o.dst v) w → wpAnyH X.P .any ops Q (KeptS kept ρs ws) (m' + 1) listed a w :=
          fun hy h => wpAnyH_take hoi hnos hfree hrc (fun c a w h => absurd h (hQp c _ w)) hy hS h
         simp only [hoi] at htake
         split at hs
         · rename_i hw
           exact take (.inr ⟨wantS_spec hc hw, rfl⟩) (ih hcs h0 hps hst _ _ _ _ _ _ _ _ hp (hc.put o.dst (.inr skip_den)) (by cases o.dst <;> exact hk) hs)
         · rename_i hwn
           split at hs
           · rename_i d b hsp
             have hb := splitOf_spec hsp
             obtain ⟨pc', hpc', hbr⟩ := brK_sound hc.pc (tm_bool hc hb).2.2 hs
             have hc' := hc.setPc hpc'
             rcases hbr with ⟨hbd, h1⟩ | ⟨hbd, h1⟩
             · exact ih hcs h0 hps hst _ _ _ _ _ _ _ _ hp (hc'.setB hb hbd) hk h1
             · exact ih hcs h0 hps hst _ _ _ _ _ _ _ _ hp (hc'.setB hb hbd) hk h1
           · rename_i hsp
             have hw : wantS ops st.tm o = some true := by
              cases hww : wantS ops st.tm o with
              | none => simp [hww, hsp] at htake
              | some b => cases b
                          · exact absurd hww hwn
                          · rfl
             split at hs
             · rename_i c k e len hix
               obtain ⟨j, pc', hpc', hj, hs⟩ := idxTree_sound (idx_den hc (idxOf_spec hix)) _ _ _ hc.pc hs
               exact ih hcs h0 hps hst _ _ _ _ _ _ _ _ hp ((hc.setPc hpc').setI (idxOf_spec hix) hj) hk hs
             · split at hs
               · rename_i ns v he
                 obtain ⟨hns, hs⟩ := needs_sat hs
                 obtain ⟨c, h1, h2⟩ := evalP_sound (W := KeptS kept ρs ws) he hc.tm.1 (fun w' hw' => kept_reads ho hl hp.2 hc hk hS hw') hS hns
                 exact take (.inl ⟨wantS_spec hc hw, fun w' hw' => h2 w' hw'⟩) (ih hcs h0 hps hst _ _ _ _ _ _ _ _ hp (hc.put o.dst h1) (by cases o.dst <;> exact hk) hs)
               · exact hs.elim
       · exact hs.elim
   · split at hs
     · rename_i hrs
       exact wpAnyH_done hrs (hQ _ _ (hK _ _ _ _ _ (hpre hp) hc hs)) m
     · rename_i hrs
       split at hs
       · exact hs.elim
       · rename_i m'
         refine wpAnyH_all rfl (fun e => hrs e) fun i hi => ?_
         have pick : ∀ (l : List Nat) (g : Nat → Tree), (l.foldr (fun i acc => Tree.and (g i) acc) .ok).sat X R env → ∀ i ∈ l, (g i).sat X R env := by
          intro l g
          induction l with
          | nil => intro _ i hi; simp at hi
          | cons x l ihl => intro h i hi; rcases List.mem_cons.1 hi with rfl | hi; exact h.1; exact ihl h.2 i hi
         have hs := pick _ _ hs i hi
         unfold wpOp
         cases hoi : ops[i]? with
         | none => simp only [hoi] at hs; exact hs.elim
         | some o =>
           simp only [hoi] at hs ⊢
           split at hs
           · rename_i hw
             rw [if_pos (wantS_spec hc hw)]
             have hgo : ∀ (st1 : St), Conc X.objs w0 F env ρ st1 a as w → (stepO X inl o st1 fun st' => match keptOk hp0 st'.hp kept with
              | none =>
                match X.phase tag i with
                | none => runDraw X inl ops tag kept hp0 n m' (delN i pend) (listed.setIfInBounds i true) st' K
                | some out =>
                  match kept.all (fun k => memN k (keptOf out st'.hp)) with
                  | true => runDraw X inl ops tag (keptOf out st'.hp) st'.hp n m' (delN i pend) (listed.setIfInBounds i true) st' K
                  | false => .fail "phase"
              | some x => Tree.viol ((tag * 1000 + x) * 10000 + tyAt hp0 x)).sat X R env → o.wp X.P a w (fun a' w' => KeptS kept ρs ws w' ∧ wpAnyH X.P .any ops Q (KeptS kept ρs ws) m' (listed.setIfInBounds i true) a' w') Q := by
              intro st1 hc1 hs1
              refine stepO_sound (pre := (envs, ρs)) ho hinl (hbase.trans hps) hc1 (fun st' env' ρ' a' w' hp' hc' hs' => ?_) hp hs1
              split at hs'
              · rename_i hko
                have hk' : KeptH kept hp0 st'.hp := fun n hn => by
                 obtain ⟨h, e1, e2⟩ := keptOk_spec hko n hn
                 obtain ⟨h', e3, e4⟩ := hst n hn
                 rw [e1] at e3; injection e3 with e3; subst e3
                 exact ⟨h, e1, e2, e4⟩
                split at hs'
                · exact ⟨kept_after hcs h0 hp' hc' hk', ih hcs h0 hps hst _ _ _ _ _ _ _ _ hp' hc' hk' hs'⟩
                · rename_i out hph
                  split at hs'
                  · rename_i hall
                    have hsub : ∀ n ∈ kept, n ∈ keptOf out st'.hp := fun n hn => memN_mem (List.all_eq_true.1 hall n hn)
                    have hst' : ∀ n ∈ keptOf out st'.hp, ∃ h, st'.hp[n]? = some h ∧ stays h = true := fun n hn => keptOf_stays hn
                    have hS1 := kept_after hcs h0 hp' hc' hk'
                    refine ⟨hS1, wpAnyH_weak (fun w'' hw'' n hn ad had => ?_) _ _ _ _ (ih hc' rfl (hpre hp') hst' _ _ _ _ _ _ _ _ ⟨List.prefix_refl _, List.prefix_refl _⟩ hc' (fun n hn => by obtain ⟨e, e1, e2⟩ := hst' n hn; exact ⟨e, e1, e1, e2⟩) hs')⟩
                    obtain ⟨e, e1, _⟩ := hst n hn
                    have hns : n < ρs.length := Nat.lt_of_lt_of_le (List.getElem?_eq_some_iff.1 e1).1 hl
                    have hvs : hv ρ' n = hv ρs n := by obtain ⟨ys, hy⟩ := hp'.2; simp only at hy; rw [← hy]; exact hv_app hns ys
                    exact (hw'' n (hsub n hn) ad (by rw [hvs]; exact had)).trans (hS1 n hn ad had)
                  · exact hs'.elim
              · exact hs'.elim
             split at hs
             · rename_i c k e len hix
               obtain ⟨j, pc', hpc', hj, hs⟩ := idxTree_sound (idx_den hc (idxOf_spec hix)) _ _ _ hc.pc hs
               exact .inl (hgo _ ((hc.setPc hpc').setI (idxOf_spec hix) hj) hs)
             · exact .inl (hgo _ hc hs)
           · rename_i hw
             rw [if_neg (by rw [wantS_spec hc hw]; exact Bool.false_ne_true)]
             have hk2 : KeptH kept hp0 (st.put o.dst (.tuple [])).hp := by cases o.dst <;> exact hk
             exact ⟨hS, ih hcs h0 hps hst _ _ _ _ _ _ _ _ hp (hc.put o.dst (.inr skip_den)) hk2 hs⟩
           · exact hs.elim
end
section
variable {U : Type} [Nil U] {X : Cx U} {R : List (EV U) → List (EV U) → Prop} {w0 : World} {F : Nat → Prop} {env : List (EV U)} {ρ : List Value} {w : World}
 {inl : FuncId → List SV → St → (SV → St → Tree) → Tree} {st : St} {a : Act} {as : List Act} {base pre : List (EV U) × List Value}
def lift (Q : SExit → Act → World → Prop) : Exit → Act → World → Prop
 | .normal, a, w => Q .normal a w
 | .exit i, a, w => Q (.exit i) a w
 | .ret, a, w => Q .ret a w
 | _, _, _ => False
def Outs (X : Cx U) (R : List (EV U) → List (EV U) → Prop) (w0 : World) (F : Nat → Prop) (pre : List (EV U) × List Value) (as : List Act) (K : SExit → St → Tree) (Q : SExit → Act → World → Prop) : Prop :=
 ∀ ex st' env' ρ' a' w', Pfx pre env' ρ' → Conc X.objs w0 F env' ρ' st' a' as w' → (K ex st').sat X R env' → Q ex a' w'
theorem draw_sound (ho : ObjsOk X.objs) (hinl : InlOk X R w0 F base inl) (hbase : Pfx base pre.1 pre.2) {ro : Option Nat} (hmix : X.P.follows .mixedOrders = true) {ops : Array Oper} (hnos : Region.noSelect ops = true) (hnod : noDefer ops = true) {N : Act → World → Prop} {Q : Exit → Act → World → Prop}
 (hQ : ∀ a w, N a w → Q .normal a w) (hQp : ∀ c a w, ¬ Q (.panic c) a w) (hQo : ¬ LetsOut Q) {K : St → Tree} (hK : Goes X R w0 F pre as K N) (hp : Pfx pre env ρ) (hc : Conc X.objs w0 F env ρ st a as w) (id tag n m : Nat) (pend : List Nat) {kept : List Nat} (hks : ∀ {n}, n ∈ kept → ∃ e, st.hp[n]? = some e ∧ stays e = true)
 (hs : (runDraw X inl ops tag kept st.hp n ops.size pend (Array.replicate ops.size false) st K).sat X R env) : (Code.region id ops true).wpIn (fR ro) 0 X.P Q a w := by
 have hc2 := hc.drewn (w.drawn + 1)
 have hk : ∀ n ∈ kept, ∃ e, st.hp[n]? = some e ∧ stays e = true := fun n hn => hks hn
 have hd : ∀ (i : Nat) (o : Oper), ops[i]? = some o → ∀ c, o.op ≠ .defer c := by
  intro i o hi c e
  unfold noDefer at hnod
  rw [Array.all_eq_true] at hnod
  obtain ⟨hlt, rfl⟩ := Array.getElem?_eq_some_iff.1 hi
  have := hnod i hlt
  rw [e] at this
  cases this
 exact wpIn_region_held hmix hd hQo (runDraw_sound ho hinl hbase hnos hQ hQp hK _ hc2 rfl hp hk _ _ _ _ _ _ _ _ ⟨List.prefix_refl _, List.prefix_refl _⟩ hc2 (fun n hn => by obtain ⟨e, e1, e2⟩ := hk n hn; exact ⟨e, e1, e1, e2⟩) hs)
theorem form_Den {β : List Bnd} {σ : List Nat} {v v' : SV} {c : Value} (h : v.subst β σ = some v') (hd : Den env ρ v' c) : Den (β.map (Bnd.den env)) (σ.map (hv ρ)) v c := by
 have h1 := SV.subst_closed (env := β.map (Bnd.den env)) (ρ := σ.map (hv ρ)) (by simp) (by simp) h
 exact ⟨fun xs ys => by rw [h1.1 xs ys, ← SV.subst_den env ρ h]; exact hd.now, h1.2⟩
theorem chkTr_spec {β : List Bnd} {σ : List Nat} : ∀ (t a : Tr), chkTr β σ t a = true → ∀ (i : Nat), t.get i = .junk ∨ ∃ t', (t.get i).subst β σ = some t' ∧ t' = a.get i ∧ t'.sure = true
 | .leaf, _, _, i => .inl rfl
 | .node _ _ _, .leaf, h, i => by simp [chkTr] at h
 | .node t l r, .node a l' r', h, i => by
   simp only [chkTr, Bool.and_eq_true] at h
   obtain ⟨⟨h0, h1⟩, h2⟩ := h
   simp only [Tr.get]
   cases Nat.beq i 0
   · dsimp only
     cases Nat.beq (i % 2) 1
     · exact chkTr_spec r r' h2 _
     · exact chkTr_spec l l' h1 _
   · dsimp only
     by_cases hj : t = .junk
     · exact .inl hj
     · have h0 : (match t.subst β σ with | some t' => t'.beq a && t'.sure | none => false) = true := by
        cases t <;> first | exact h0 | exact absurd rfl hj
       split at h0
       · rename_i t' ht'
         simp only [Bool.and_eq_true] at h0
         exact .inr ⟨t', ht', SV.beq_eq h0.1, h0.2⟩
       · cases h0
theorem chkMk_spec {σ : List Nat} (ρ : List Value) : ∀ {ns ms : List Nat}, chkMk σ ns ms = true → ns.map (markOf (σ.map (hv ρ))) = ms.map (markOf ρ) ∧ ∀ n ∈ ns, n < σ.length
 | [], [], _ => ⟨rfl, by simp⟩
 | [], _ :: _, h => by simp [chkMk] at h
 | _ :: _, [], h => by simp [chkMk] at h
 | n :: ns, m :: ms, h => by
   simp only [chkMk, Bool.and_eq_true, beq_iff_eq] at h
   obtain ⟨h1, h2⟩ := chkMk_spec ρ h.2
   refine ⟨?_, fun k hk => ?_⟩
   · simp only [List.map_cons, h1]
     congr 1
     unfold markOf
     rw [hv_map ρ h.1]
   · rcases List.mem_cons.1 hk with rfl | hk
     · exact (List.getElem?_eq_some_iff.1 h.1).1
     · exact h2 k hk
theorem chkTm_ok {β : List Bnd} {σ : List Nat} {ts tm : Tm} {a : Act} (h : chkTm β σ ts tm = true) (ht : TmOk env ρ tm a) : TmOk (β.map (Bnd.den env)) (σ.map (hv ρ)) ts a := by
 simp only [chkTm, Bool.and_eq_true, beq_iff_eq] at h
 obtain ⟨⟨⟨⟨h1, h2⟩, h3⟩, h6⟩, h7⟩ := h
 obtain ⟨h4, h5⟩ := chkMk_spec ρ h3
 refine .of ⟨by rw [h1]; exact ht.1.1, fun i => ?_⟩ (by rw [h4]; exact ht.plain (List.isEmpty_iff.1 h7)) (by simpa using h5) (List.isEmpty_iff.1 h6)
 rcases chkTr_spec _ _ h2 i with h | ⟨t', e1, e2, e3⟩
 · exact .inl h
 · have := ht.1.2 i
   simp only [Tm.getD] at this ⊢
   rw [← e2] at this
   exact .inr (form_Den e1 (this.den (sure_ne e3)))
theorem chkStk_ok {β : List Bnd} {σ : List Nat} : ∀ {ts l : List Tm} {as : List Act}, chkStk β σ ts l = true → Stk env ρ l as → Stk (β.map (Bnd.den env)) (σ.map (hv ρ)) ts as
 | [], [], _, _, h => by cases h; exact .nil
 | [], _ :: _, _, h, _ => by simp [chkStk] at h
 | _ :: _, [], _, h, _ => by simp [chkStk] at h
 | t :: ts, tm :: l, as, h, hs => by
   simp only [chkStk, Bool.and_eq_true] at h
   cases hs with
   | cons h1 h2 => exact .cons (chkTm_ok h.1 h1) (chkStk_ok h.2 h2)
theorem isVars_spec : ∀ {i n : Nat} {β : List Bnd}, isVars i n β = true → ∀ j, j < n → β[j]? = some (.var (i + j))
 | i, 0, β, _, j, hj => by omega
 | i, n + 1, [], h, _, _ => by simp [isVars] at h
 | i, n + 1, b :: β, h, j, hj => by
   cases b with
   | var k =>
     simp only [isVars, Bool.and_eq_true, beq_iff_eq] at h
     cases j with
     | zero => simp [h.1]
     | succ j => rw [List.getElem?_cons_succ, isVars_spec h.2 j (by omega)]; congr 2; omega
   | ex e => simp [isVars] at h
   | bx e => simp [isVars] at h
theorem Holds.form0 {β : List Bnd} {σ : List Nat} {t h : HE} {v : Value} {S : Nat → Prop} (hs : t.subst β σ = some h)
 (hh : Holds X.objs w0 F env ρ h v w S) : Holds X.objs w0 F (β.map (Bnd.den env)) (σ.map (hv ρ)) t v w S := by
 cases t with
 | cells vs ty =>
   simp only [HE.subst, Option.map_eq_some_iff] at hs
   obtain ⟨l, hl, rfl⟩ := hs
   obtain ⟨b, cs, e1, e2, e3, e4⟩ := hh
   exact ⟨b, cs, e1, form_DenL hl e2, e3, e4⟩
 | abs i =>
   simp only [HE.subst] at hs
   split at hs <;> simp at hs
   subst hs
   rename_i j hb
   obtain ⟨s, e1, e2⟩ := hh
   exact ⟨s, by rw [bnd_get env hb, bnd_var e1], e2⟩
 | row k ty i =>
   simp only [HE.subst] at hs
   split at hs <;> simp at hs
   subst hs
   rename_i j hb
   rcases hh with ⟨e1, e2⟩ | ⟨b, xs, e1, e2, e3, e4⟩
   · exact .inl ⟨e1, by rw [bnd_get env hb, bnd_var e2]⟩
   · exact .inr ⟨b, xs, e1, by rw [bnd_get env hb, bnd_var e2], e3, e4⟩
 | ro ks i =>
   simp only [HE.subst] at hs
   split at hs <;> simp at hs
   subst hs
   rename_i j hb
   rcases hh with ⟨e1, g, e2⟩ | ⟨a, g, n, e1, e2, e3⟩
   · exact .inl ⟨e1, g, by rw [bnd_get env hb, bnd_var e2]⟩
   · exact .inr ⟨a, g, n, e1, by rw [bnd_get env hb, bnd_var e2], e3⟩
 | sys i j =>
   simp only [HE.subst] at hs
   split at hs <;> simp at hs
   subst hs
   rename_i j hb
   obtain ⟨b, L, e1, e2, e3, e4⟩ := hh
   exact ⟨b, L, e1, by rw [bnd_get env hb, bnd_var e2], e3, e4⟩
 | gone => trivial
 | sp k ty len xs => simp only [HE.subst, Option.some.injEq] at hs; subst hs; exact hh
 | mp i =>
   simp only [HE.subst] at hs
   split at hs <;> simp at hs
   subst hs
   rename_i j hb
   obtain ⟨b, L, e1, e2, e3, e4⟩ := hh
   exact ⟨b, L, e1, by rw [bnd_get env hb, bnd_var e2], e3, e4⟩
 | kn k ty xs i =>
   simp only [HE.subst] at hs
   split at hs <;> simp at hs
   subst hs
   rename_i j hb
   obtain ⟨b, L, e1, e2, e3, e4⟩ := hh
   exact ⟨b, L, e1, by rw [bnd_get env hb, bnd_var e2], e3, e4⟩
 | kc vs ty sz i =>
   simp only [HE.subst] at hs
   split at hs
   · rename_i j' hb
     simp only [Option.map_eq_some_iff] at hs
     obtain ⟨l, hl, rfl⟩ := hs
     obtain ⟨b, cs, r, e1, e2, ⟨l', e0, e5⟩, e3⟩ := hh
     exact ⟨b, cs, r, e1, form_DenL hl e2, ⟨l', by rw [bnd_get env hb, bnd_var e0], e5⟩, e3⟩
   · cases hs
 | rb ty i =>
   simp only [HE.subst] at hs
   split at hs <;> simp at hs
   subst hs
   rename_i j hb
   obtain ⟨b, L, e1, e2, e3, e4⟩ := hh
   exact ⟨b, L, e1, by rw [bnd_get env hb, bnd_var e2], e3, e4⟩
theorem fit_sound {reb : List Nat} {h0 ne0 nh0 : Nat} {hd : St} {β : List Bnd} (h : fit reb h0 ne0 nh0 hd st = some β) (hne : ne0 ≤ st.ne) (hne2 : ne0 ≤ hd.ne) (hc : Conc X.objs w0 F env ρ st a as w) :
 ∃ ρ', Conc X.objs w0 F (env.take ne0 ++ β.map (Bnd.den env)) ρ' hd a as w ∧ (∀ n, n < h0 → n < ρ'.length ∧ hv ρ' n = hv ρ n) ∧ β.length = hd.ne - ne0 := by
 unfold fit at h
 dsimp only at h
 split at h
 · cases h
 · split at h
   · cases h
   · split at h
     · rename_i β' σ _ _
       split at h
       · rename_i hcond
         injection h with h
         subst h
         simp only [Bool.and_eq_true, decide_eq_true_eq, beq_iff_eq] at hcond
         obtain ⟨⟨⟨⟨⟨⟨⟨⟨hpc, htm⟩, hstk⟩, hhp⟩, hnd⟩, hβl⟩, hσl⟩, hvars⟩, hσ0⟩ := hcond
         have henv : β'.map (Bnd.den env) = env.take ne0 ++ (β'.drop ne0).map (Bnd.den env) := by
          rw [← List.take_append_drop ne0 β', List.map_append]
          congr 1
          · apply List.ext_getElem?
            intro i
            by_cases hi : i < ne0
            · have hv := isVars_spec hvars i hi
              rw [Nat.zero_add] at hv
              have hl : i < env.length := by have := hc.ne; omega
              simp only [List.getElem?_map, List.getElem?_take, hi, if_true, hv, Option.map_some, Bnd.den, List.getD, List.getElem?_eq_getElem hl, Option.getD_some]
            · rw [List.getElem?_eq_none (by simp; omega), List.getElem?_eq_none (by simp; omega)]
          · simp
         obtain ⟨S, hS⟩ := hc.sat.own
         have inj := nodup_inj hnd
         refine ⟨σ.map (hv ρ), ?_, fun n hn => ?_, by simp [hβl]⟩
         · rw [← henv]
           refine ⟨by simp [hβl], (by rw [List.isEmpty_iff.1 hpc]; intro _ h; cases h), chkTm_ok htm hc.tm, chkStk_ok hstk hc.stk, by simp [hσl], ⟨fun j x => ∃ a, σ[j]? = some a ∧ S a x, ⟨fun j t ht => ?_, fun i j x ⟨a, ha, hx⟩ ⟨b, hb, hy⟩ => ?_, fun j x ⟨a, ha, hx⟩ => ?_⟩⟩, hc.sat.frame⟩
           · obtain ⟨a, h, e1, e2, e3⟩ := chkHp_spec hd.hp 0 hhp j t ht
             rw [Nat.zero_add] at e1
             rw [hv_map ρ e1]
             have hfun : (fun x => ∃ a, σ[j]? = some a ∧ S a x) = S a := by
              funext x
              apply propext
              constructor
              · rintro ⟨b, hb, hx⟩; rw [e1] at hb; injection hb with hb; subst hb; exact hx
              · intro hx; exact ⟨a, e1, hx⟩
             rw [hfun]
             exact (hS.holds a h e2).form0 e3
           · have := hS.disj a b x hx hy
             subst this
             exact inj i j a ha hb
           · have := hS.dom a x hx
             exact ⟨by rw [← hσl]; exact (List.getElem?_eq_some_iff.1 ha).1, this.2⟩
         · have e1 : (σ.take h0)[n]? = some n := by rw [hσ0, List.getElem?_range hn]
           rw [List.getElem?_take, if_pos hn] at e1
           exact ⟨by simpa using (List.getElem?_eq_some_iff.1 e1).1, hv_map ρ e1⟩
       · cases h
     · cases h
theorem Rep.nil {objs : List (ObjT U)} (ho : ObjsOk objs) {t : Nat} {T : ObjT U} (ht : objs[t]? = some T) (hn : T.isNil = true) (hv0 : T.nv = 0) (hok : T.ok []) (w : World) (S : Nat → Prop) : Rep objs w (T.obj []) (.pointer none) S := by
 have hh := ho.nilhp t T ht hn
 refine .mk t T [] [] (fun _ _ => False) S _ ht (by simp [hv0]) hok (by simp [hh]) (fun n vs ty h => by simp [hh] at h) (fun n k ty i h => by simp [hh] at h) (fun n i s h => by simp [hh] at h) (fun n i h => by simp [hh] at h) (fun n h h' => by simp [hh] at h') (fun _ _ _ h => h.elim) (fun _ _ h => h.elim) (fun _ _ h => h.elim) (by rw [if_pos hn])
theorem allInts_spec {k : IntKind} : ∀ {vs : List SV} {xs : List Ex}, allInts k vs = some xs → vs = xs.map (SV.int k)
 | [], xs, h => by simp [allInts] at h; subst h; rfl
 | v :: vs, xs, h => by
   cases v <;> simp only [allInts, reduceCtorEq] at h
   split at h
   · rename_i hk
     subst hk
     simp only [Option.map_eq_some_iff] at h
     obtain ⟨ys, hy, rfl⟩ := h
     rw [allInts_spec hy]; rfl
   · cases h
theorem toRows_sound {K : St → Tree} : ∀ (l : List Nat) (st : St) (env : List (EV U)), Conc X.objs w0 F env ρ st a as w → (toRows X.P l st K).sat X R env →
 ∃ st' o, Conc X.objs w0 F (env ++ o) ρ st' a as w ∧ (K st').sat X R (env ++ o)
 | [], st, env, hc, hs => ⟨st, [], by simpa using hc, by simpa [toRows] using hs⟩
 | n :: l, st, env, hc, hs => by
   simp only [toRows] at hs
   split at hs
   · rename_i vs ty hn
     split at hs
     · rename_i k _
       split at hs
       · rename_i xs hx
         simp only [Tree.sat] at hs
         have hc1 := hc.ext [.l (xs.map (Ex.den env))]
         have hc2 : Conc X.objs w0 F (env ++ [.l (xs.map (Ex.den env))]) ρ { st with hp := st.hp.set n (.row k ty st.ne), ne := st.ne + 1 } a as w := by
          obtain ⟨S, hS⟩ := hc1.sat.own
          have hnlt := (List.getElem?_eq_some_iff.1 hn).1
          obtain ⟨S0, hS0⟩ := hc.sat.own
          obtain ⟨b, cs, e1, e2, e3, e4⟩ := hS.holds n _ hn
          obtain ⟨b', cs', f1, f2, f3, f4⟩ := hS0.holds n _ hn
          have hbb : b = b' := by have h := e1.symm.trans f1; injection h with h; injection h with h; injection h
          subst hbb
          have hcs : cs' = (xs.map (Ex.den env)).map (Value.int k) := by
           have h := f2.1 [] []
           rw [← h, allInts_spec hx]
           simp [SV.den, Function.comp_def]
          have hcc : cs'.toArray = cs.toArray := by
           have h := f3.symm.trans e3
           injection h with h; injection h with h
          refine ⟨hc1.ne, hc1.pc, hc1.tm, hc1.stk, by simp [hc.sat.len], ⟨S, ?_⟩, hc1.sat.frame⟩
          refine hS.update n _ hnlt (fun _ _ => rfl) rfl (.inr ⟨b, xs.map (Ex.den env), e1, by rw [← hc.ne]; exact last_get _, ?_, e4⟩)
          rw [e3, ← hcc, hcs]
         obtain ⟨st', o, h1, h2⟩ := toRows_sound l _ _ hc2 hs
         exact ⟨st', .l (xs.map (Ex.den env)) :: o, by simpa using h1, by simpa using h2⟩
       · exact toRows_sound l _ _ hc hs
     · exact toRows_sound l _ _ hc hs
   · exact toRows_sound l _ _ hc hs
theorem Conc.nilName (ho : ObjsOk X.objs) (hc : Conc X.objs w0 F env ρ st a as w) {t : Nat} {T : ObjT U} (ht : X.objs[t]? = some T) (hn : T.isNil = true) (hv0 : T.nv = 0) (hok : T.ok []) :
 Conc X.objs w0 F (env ++ [.u (T.obj [])]) (ρ ++ [.pointer none]) { st with hp := st.hp ++ [HE.abs st.ne], ne := st.ne + 1 } a as w := by
 obtain ⟨S, hS⟩ := hc.sat.own
 refine ⟨by simp [hc.ne], hc.pc.ext _, hc.tm.ext _ _, hc.stk.ext _ _, by simp [hc.sat.len], ⟨S, ⟨fun n e hn' => ?_, hS.disj, fun n x hx => by obtain ⟨h1, h2⟩ := hS.dom n x hx; exact ⟨by simp; omega, h2⟩⟩⟩, hc.sat.frame⟩
 by_cases hlt : n < st.hp.length
 · rw [List.getElem?_append_left hlt] at hn'
   rw [hv_app (by rw [hc.sat.len]; exact hlt)]
   exact (hS.holds n e hn').ext _ _
 · have : n = st.hp.length := by have := (List.getElem?_eq_some_iff.1 hn').1; simp at this; omega
   subst this
   simp at hn'
   subst hn'
   rw [← hc.sat.len, hv_len]
   exact ⟨T.obj [], by rw [← hc.ne]; exact last_get _, Rep.nil ho ht hn hv0 hok w _⟩
theorem Conc.nilRowName (hc : Conc X.objs w0 F env ρ st a as w) (k : IntKind) (ty : TypeId) :
 Conc X.objs w0 F (env ++ [.l []]) (ρ ++ [.pointer none]) { st with hp := st.hp ++ [HE.row k ty st.ne], ne := st.ne + 1 } a as w := by
 obtain ⟨S, hS⟩ := hc.sat.own
 refine ⟨by simp [hc.ne], hc.pc.ext _, hc.tm.ext _ _, hc.stk.ext _ _, by simp [hc.sat.len], ⟨S, ⟨fun n e hn' => ?_, hS.disj, fun n x hx => by obtain ⟨h1, h2⟩ := hS.dom n x hx; exact ⟨by simp; omega, h2⟩⟩⟩, hc.sat.frame⟩
 by_cases hlt : n < st.hp.length
 · rw [List.getElem?_append_left hlt] at hn'
   rw [hv_app (by rw [hc.sat.len]; exact hlt)]
   exact (hS.holds n e hn').ext _ _
 · have : n = st.hp.length := by have := (List.getElem?_eq_some_iff.1 hn').1; simp at this; omega
   subst this
   simp at hn'
   subst hn'
   rw [← hc.sat.len, hv_len]
   exact .inl ⟨rfl, by rw [← hc.ne]; exact last_get _⟩
theorem nilFix_sound (ho : ObjsOk X.objs) {K : St → Tree} : ∀ (l : List NilAt) (st : St) (env : List (EV U)) (ρ : List Value), Conc X.objs w0 F env ρ st a as w → (nilFix X l st K).sat X R env →
 ∃ st' env' ρ', Conc X.objs w0 F env' ρ' st' a as w ∧ (K st').sat X R env' ∧ env <+: env' ∧ ρ <+: ρ'
 | [], st, env, ρ, hc, hs => ⟨st, env, ρ, hc, hs, List.prefix_refl _, List.prefix_refl _⟩
 | .hnd n j t :: l, st, env, ρ, hc, hs => by
   simp only [nilFix] at hs
   split at hs
   · rename_i T vs ty ht hn
     split at hs
     · rename_i hnil hnv hvj
       simp only [Tree.sat, ht, List.map_nil] at hs
       obtain ⟨hok, hs⟩ := hs
       have hc1 := hc.nilName ho ht hnil hnv hok
       have hnlt := (List.getElem?_eq_some_iff.1 hn).1
       have hc2 : Conc X.objs w0 F (env ++ [.u (T.obj [])]) (ρ ++ [.pointer none]) { st with hp := st.hp.set n (.cells (vs.set j (.hnd st.hp.length)) ty) ++ [HE.abs st.ne], ne := st.ne + 1 } a as w := by
        obtain ⟨S, hS⟩ := hc1.sat.own
        have hset : st.hp.set n (.cells (vs.set j (.hnd st.hp.length)) ty) ++ [HE.abs st.ne] = (st.hp ++ [HE.abs st.ne]).set n (.cells (vs.set j (.hnd st.hp.length)) ty) := by
         rw [List.set_append_left _ _ hnlt]
        obtain ⟨b, cs, e1, e2, e3, e4⟩ := hS.holds n _ (by rw [List.getElem?_append_left hnlt]; exact hn)
        have hd : DenL (env ++ [.u (T.obj [])]) (ρ ++ [.pointer none]) (vs.set j (.hnd st.hp.length)) cs := by
         have hjlt := (List.getElem?_eq_some_iff.1 hvj).1
         refine ⟨fun xs ys => ?_, stabL_mem.2 fun v hv => ?_⟩
         · rw [List.map_set]
           have h1 := e2.1 xs ys
           rw [← h1]
           apply List.ext_getElem?
           intro i
           by_cases hi : j = i
           · subst hi
             rw [List.getElem?_set_self (by simpa using hjlt)]
             simp only [List.getElem?_map, hvj, Option.map_some, SV.den]
             rw [hv_app (by simp [hc.sat.len]), ← hc.sat.len, hv_len]
           · rw [List.getElem?_set_ne hi]
         · rcases List.mem_or_eq_of_mem_set hv with h | h
           · exact stabL_mem.1 e2.2 v h
           · subst h; trivial
        refine ⟨hc1.ne, hc1.pc, hc1.tm, hc1.stk, by simp [hc.sat.len], ⟨S, ?_⟩, hc1.sat.frame⟩
        show Own X.objs w0 F _ _ (st.hp.set n (.cells (vs.set j (.hnd st.hp.length)) ty) ++ [HE.abs st.ne]) w S
        rw [hset]
        exact hS.update n _ (by simp; omega) (fun _ _ => rfl) rfl ⟨b, cs, e1, hd, e3, e4⟩
       obtain ⟨st', env', ρ', h1, h2, h3, h4⟩ := nilFix_sound ho l _ _ _ hc2 hs
       exact ⟨st', env', ρ', h1, h2, (List.prefix_append _ _).trans h3, (List.prefix_append _ _).trans h4⟩
     · exact hs.elim
   · exact hs.elim
 | .row n j k ty :: l, st, env, ρ, hc, hs => by
   simp only [nilFix] at hs
   split at hs
   · rename_i vs cty hn
     split at hs
     · rename_i hvj
       simp only [Tree.sat, List.map_nil] at hs
       have hc1 := hc.nilRowName k ty
       have hnlt := (List.getElem?_eq_some_iff.1 hn).1
       have hc2 : Conc X.objs w0 F (env ++ [.l []]) (ρ ++ [.pointer none]) { st with hp := st.hp.set n (.cells (vs.set j (.slice st.hp.length (.lit 0) (.lit 0))) cty) ++ [HE.row k ty st.ne], ne := st.ne + 1 } a as w := by
        obtain ⟨S, hS⟩ := hc1.sat.own
        have hset : st.hp.set n (.cells (vs.set j (.slice st.hp.length (.lit 0) (.lit 0))) cty) ++ [HE.row k ty st.ne] = (st.hp ++ [HE.row k ty st.ne]).set n (.cells (vs.set j (.slice st.hp.length (.lit 0) (.lit 0))) cty) := by
         rw [List.set_append_left _ _ hnlt]
        obtain ⟨b, cs, e1, e2, e3, e4⟩ := hS.holds n _ (by rw [List.getElem?_append_left hnlt]; exact hn)
        have hd : DenL (env ++ [.l []]) (ρ ++ [.pointer none]) (vs.set j (.slice st.hp.length (.lit 0) (.lit 0))) cs := by
         have hjlt := (List.getElem?_eq_some_iff.1 hvj).1
         refine ⟨fun xs ys => ?_, stabL_mem.2 fun v hv => ?_⟩
         · rw [List.map_set]
           have h1 := e2.1 xs ys
           rw [← h1]
           apply List.ext_getElem?
           intro i
           by_cases hi : j = i
           · subst hi
             rw [List.getElem?_set_self (by simpa using hjlt)]
             simp only [List.getElem?_map, hvj, Option.map_some, SV.den]
             rw [hv_app (by simp [hc.sat.len]), ← hc.sat.len, hv_len]
             rfl
           · rw [List.getElem?_set_ne hi]
         · rcases List.mem_or_eq_of_mem_set hv with h | h
           · exact stabL_mem.1 e2.2 v h
           · subst h; exact ⟨fun _ => rfl, fun _ => rfl⟩
        refine ⟨hc1.ne, hc1.pc, hc1.tm, hc1.stk, by simp [hc.sat.len], ⟨S, ?_⟩, hc1.sat.frame⟩
        show Own X.objs w0 F _ _ (st.hp.set n (.cells (vs.set j (.slice st.hp.length (.lit 0) (.lit 0))) cty) ++ [HE.row k ty st.ne]) w S
        rw [hset]
        exact hS.update n _ (by simp; omega) (fun _ _ => rfl) rfl ⟨b, cs, e1, hd, e3, e4⟩
       obtain ⟨st', env', ρ', h1, h2, h3, h4⟩ := nilFix_sound ho l _ _ _ hc2 hs
       exact ⟨st', env', ρ', h1, h2, (List.prefix_append _ _).trans h3, (List.prefix_append _ _).trans h4⟩
     · exact hs.elim
   · exact hs.elim
 | .slot i k ty :: l, st, env, ρ, hc, hs => by
   simp only [nilFix] at hs
   split at hs
   · rename_i hti
     simp only [Tree.sat, List.map_nil] at hs
     have hc1 := hc.nilRowName k ty
     have hc2 : Conc X.objs w0 F (env ++ [.l []]) (ρ ++ [.pointer none]) { st with tm := st.tm.set i (.slice st.hp.length (.lit 0) (.lit 0)), hp := st.hp ++ [HE.row k ty st.ne], ne := st.ne + 1 } a as w := by
      have hd : Den (env ++ [.l []]) (ρ ++ [.pointer none]) (.slice st.hp.length (.lit 0) (.lit 0)) (.slice none 0 0) := by
       refine ⟨fun xs ys => ?_, fun _ => rfl, fun _ => rfl⟩
       simp only [SV.den]
       rw [hv_app (by simp [hc.sat.len]), ← hc.sat.len, hv_len]
       rfl
      have hrel := hc.tm.1.2 i
      rw [hti] at hrel
      have hval : (a.tmps.getD i undef) = .slice none 0 0 := ((hrel.den (by simp)).now).symm
      have htm := hc1.tm.1.set i (.inr hd : Rel _ _ _ _)
      have harr : a.tmps.setIfInBounds i (.slice none 0 0) = a.tmps := by
       apply Array.ext
       · simp
       · intro j h1 h2
         rw [Array.getElem_setIfInBounds (by simpa using h1)]
         split
         · rename_i hij
           subst hij
           rw [← hval, Array.getD]
           simp only [Array.size_setIfInBounds] at h1
           rw [dif_pos h1]; rfl
         · rfl
      rw [harr] at htm
      exact ⟨hc1.ne, hc1.pc, ⟨htm, by rw [Tm.set_mks, Tm.set_dfs]; exact hc1.tm.2.1, by rw [Tm.set_mks]; exact hc1.tm.2.2⟩, hc1.stk, hc1.sat⟩
     obtain ⟨st', env', ρ', h1, h2, h3, h4⟩ := nilFix_sound ho l _ _ _ hc2 hs
     exact ⟨st', env', ρ', h1, h2, (List.prefix_append _ _).trans h3, (List.prefix_append _ _).trans h4⟩
   · exact hs.elim
 | .conv n :: l, st, env, ρ, hc, hs => by
   simp only [nilFix] at hs
   obtain ⟨st1, o, hc1, hs1⟩ := toRows_sound [n] st env hc hs
   obtain ⟨st', env', ρ', h1, h2, h3, h4⟩ := nilFix_sound ho l _ _ _ hc1 hs1
   exact ⟨st', env', ρ', h1, h2, (List.prefix_append _ _).trans h3, h4⟩
end
end Go.Proofs.Ytbmbiiiacajolaa
