/- The symbolic executor: a call by its contract does what the contract says. No program is named here. -/
import Derived.Test.YtjohihkbampbgaaSl
namespace Go.Proofs.Ytjohihkbampbgaa
set_option linter.unusedVariables false
set_option linter.unusedSimpArgs false
set_option linter.unusedSectionVars false
open Go

section
variable {U : Type} [Nil U]

/-- a contract holds -/
def Ctr.Holds (objs : List (ObjT U)) (P : Program) (c : Ctr U) : Prop :=
  Callable P c.fn ∧ (∀ ins, ins.length = c.nin → c.pre ins → (c.out ins).length = c.nout) ∧
  ∀ (ins : List (EV U)) (ρ : List Value) (w : World) (vals : List Value) (F : Nat → Prop), ins.length = c.nin → c.pre ins → DenL ins ρ c.args vals → Sat objs w F ins ρ c.heap w →
    Calls P c.fn vals.toArray w fun e w' => ∃ r ρ', e = .returned r ∧ Den (ins ++ c.out ins) (ρ ++ ρ') c.ret r ∧ Sat objs w F (ins ++ c.out ins) (ρ ++ ρ') c.post w'

theorem nodup_inj : ∀ {σ : List Nat}, nodup σ = true → ∀ (i j a : Nat), σ[i]? = some a → σ[j]? = some a → i = j
  | [], _, i, _, _, h, _ => by simp at h
  | x :: σ, hn, i, j, a, hi, hj => by
    simp only [nodup, Bool.and_eq_true, Bool.not_eq_true', List.contains_eq_mem, decide_eq_false_iff_not] at hn
    cases i with
    | zero =>
      cases j with
      | zero => rfl
      | succ j => simp at hi hj; subst hi; exact absurd (List.mem_of_getElem? hj) hn.1
    | succ i =>
      cases j with
      | zero => simp at hi hj; subst hj; exact absurd (List.mem_of_getElem? hi) hn.1
      | succ j => simp at hi hj; rw [nodup_inj hn.2 i j a hi hj]

theorem allSome_get {α : Type} : ∀ {l : List (Option α)} {r : List α}, allSome l = some r → l.length = r.length
  | [], r, h => by simp [allSome] at h; subst h; rfl
  | some a :: l, r, h => by
    simp only [allSome, Option.map_eq_some_iff] at h
    obtain ⟨x, hx, rfl⟩ := h
    simp [allSome_get hx]
  | none :: l, r, h => by simp [allSome] at h

theorem substHp_spec {β : List Bnd} {σ : List Nat} (hnd : ∀ (i j a : Nat), σ[i]? = some a → σ[j]? = some a → i = j) (hp : List HE) : ∀ (ts : List HE) (n : Nat) (hp' : List HE), substHp β σ hp n ts = some hp' →
    hp'.length = hp.length ∧ (∀ m, (∀ j, j < ts.length → σ[n + j]? ≠ some m) → hp'[m]? = hp[m]?) ∧
    ∀ (j : Nat) (t : HE), ts[j]? = some t → ∃ a, σ[n + j]? = some a ∧ ((∃ ks i, t = .ro ks i) ∧ (∃ ks i, hp[a]? = some (.ro ks i)) ∧ hp'[a]? = hp[a]? ∨ (∀ ks i, t ≠ .ro ks i) ∧ ∃ h, t.subst β σ = some h ∧ (a < hp.length → hp'[a]? = some h))
  | [], n, hp', h => by
    simp only [substHp, Option.some.injEq] at h
    subst h
    exact ⟨rfl, fun _ _ => rfl, by simp⟩
  | t :: ts, n, hp', h => by
    by_cases hro : ∃ ks i, t = .ro ks i
    · obtain ⟨ks, i, rfl⟩ := hro
      simp only [substHp] at h
      split at h
      · rename_i a ha
        split at h
        · rename_i ks' i' hpa
          obtain ⟨h1, h2, h3⟩ := substHp_spec hnd hp ts (n + 1) hp' h
          have hne : ∀ j, j < ts.length → σ[n + 1 + j]? ≠ some a := fun j _ e => by have := hnd _ _ _ ha e; omega
          refine ⟨h1, fun m hm => h2 m fun j hj => ?_, fun j u hu => ?_⟩
          · have := hm (j + 1) (by simp; omega); rwa [show n + (j + 1) = n + 1 + j by omega] at this
          · cases j with
            | zero => simp at hu; subst hu; exact ⟨a, ha, .inl ⟨⟨_, _, rfl⟩, ⟨_, _, hpa⟩, h2 a hne⟩⟩
            | succ j => obtain ⟨b, e1, e2⟩ := h3 j u (by simpa using hu); exact ⟨b, by rw [← e1]; congr 1; omega, e2⟩
        · cases h
      · cases h
    · have hro' : ∀ ks i, t ≠ .ro ks i := fun ks i e => hro ⟨ks, i, e⟩
      have hdef : substHp β σ hp n (t :: ts) = match σ[n]?, t.subst β σ with
        | some a, some h => (substHp β σ hp (n + 1) ts).map fun hp' => hp'.set a h
        | _, _ => none := by cases t <;> first | rfl | exact absurd rfl (hro' _ _)
      rw [hdef] at h
      split at h
      · rename_i a e ha he
        simp only [Option.map_eq_some_iff] at h
        obtain ⟨hp1, hh, rfl⟩ := h
        obtain ⟨h1, h2, h3⟩ := substHp_spec hnd hp ts (n + 1) hp1 hh
        refine ⟨by simp [h1], fun m hm => ?_, fun j u hu => ?_⟩
        · have hma : a ≠ m := fun e => hm 0 (by simp) (by simpa [e] using ha)
          rw [List.getElem?_set_ne hma]
          exact h2 m fun j hj => by have := hm (j + 1) (by simp; omega); rwa [show n + (j + 1) = n + 1 + j by omega] at this
        · cases j with
          | zero => simp at hu; subst hu; exact ⟨a, ha, .inr ⟨hro', e, he, fun hlt => by rw [List.getElem?_set_self (by omega)]⟩⟩
          | succ j =>
            obtain ⟨b, e1, e2⟩ := h3 j u (by simpa using hu)
            have hba : a ≠ b := fun e => by subst e; have := hnd _ _ _ ha e1; omega
            refine ⟨b, by rw [← e1]; congr 1; omega, ?_⟩
            rw [List.getElem?_set_ne hba]
            exact e2
      · cases h
theorem substNew_spec {β : List Bnd} {σ : List Nat} : ∀ (ts : List HE) (hs : List HE), substNew β σ ts = some hs → hs.length = ts.length ∧ ∀ (j : Nat) (t : HE), ts[j]? = some t → (∀ ks i, t ≠ .ro ks i) ∧ ∃ h, t.subst β σ = some h ∧ hs[j]? = some h
  | [], hs, h => by simp [substNew] at h; subst h; exact ⟨rfl, by simp⟩
  | t :: ts, hs, h => by
    by_cases hro : ∃ ks i, t = .ro ks i
    · obtain ⟨ks, i, rfl⟩ := hro; simp [substNew] at h
    · have hro' : ∀ ks i, t ≠ .ro ks i := fun ks i e => hro ⟨ks, i, e⟩
      have hdef : substNew β σ (t :: ts) = (t.subst β σ).bind fun h => (substNew β σ ts).map (h :: ·) := by cases t <;> first | rfl | exact absurd rfl (hro' _ _)
      rw [hdef] at h
      simp only [Option.bind_eq_some_iff, Option.map_eq_some_iff] at h
      obtain ⟨x, hx, y, hy, rfl⟩ := h
      obtain ⟨h1, h2⟩ := substNew_spec ts y hy
      refine ⟨by simp [h1], fun j u hu => ?_⟩
      cases j with
      | zero => simp at hu; subst hu; exact ⟨hro', x, hx, rfl⟩
      | succ j => simpa using h2 j u (by simpa using hu)
theorem chkHp_spec {β : List Bnd} {σ : List Nat} {hp : List HE} : ∀ (ts : List HE) (n : Nat), chkHp β σ hp n ts = true → ∀ (j : Nat) (t : HE), ts[j]? = some t → ∃ a h, σ[n + j]? = some a ∧ hp[a]? = some h ∧ t.subst β σ = some h
  | [], n, _, j, t, h => by simp at h
  | t :: ts, n, hc, j, u, hu => by
    simp only [chkHp, Bool.and_eq_true] at hc
    obtain ⟨h1, h2⟩ := hc
    cases j with
    | zero =>
      simp at hu
      subst hu
      split at h1
      · rename_i a ha
        split at h1
        · rename_i h h' e1 e2
          simp only [Bool.and_eq_true] at h1
          exact ⟨a, h, ha, e1, by rw [e2, HE.beq_eq h1.1]⟩
        · cases h1
      · cases h1
    | succ j =>
      obtain ⟨a, h, e1, e2, e3⟩ := chkHp_spec ts (n + 1) h2 j u (by simpa using hu)
      exact ⟨a, h, by rw [← e1]; congr 1; omega, e2, e3⟩

theorem ArgsRel.den {env : List (EV U)} {ρ : List Value} : ∀ {args : List SV} {vals : List Value}, ArgsRel env ρ args vals → SV.sureL args = true → DenL env ρ args vals
  | [], vals, h, _ => by
    have := h.1
    cases vals with
    | nil => exact DenL.nil
    | cons _ _ => simp at this
  | v :: args, vals, h, hs => by
    obtain ⟨h1, h2⟩ := h
    simp only [SV.sureL, Bool.and_eq_true] at hs
    cases vals with
    | nil => simp at h1
    | cons c vals =>
      have h0 := h2 0
      simp at h0
      exact DenL.cons (h0.den (sure_ne hs.1)) (ArgsRel.den ⟨by simpa using h1, fun i => by simpa [List.getD] using h2 (i + 1)⟩ hs.2)

variable {objs : List (ObjT U)} {w0 : World} {F : Nat → Prop} {w : World} {env : List (EV U)} {ρ : List Value} {hp : List HE}
theorem map_hv_get {σ : List Nat} {j a : Nat} (h : σ[j]? = some a) : hv (σ.map (hv ρ)) j = hv ρ a := hv_map ρ h

/-- the blocks that a form names -/
def inForm (σ : List Nat) (S : Nat → Nat → Prop) (x : Nat) : Prop := ∃ (j a : Nat), σ[j]? = some a ∧ S a x

theorem Sat.form {S : Nat → Nat → Prop} {β : List Bnd} {σ : List Nat} {ts : List HE} (hS : Own objs w0 F env ρ hp w S) (hf : Fr w0 F w) (hnd : nodup σ = true) (hlen : σ.length = ts.length) (hchk : chkHp β σ hp 0 ts = true) :
    Sat objs w (inForm σ S) (β.map (Bnd.den env)) (σ.map (hv ρ)) ts w := by
  have inj := nodup_inj hnd
  refine ⟨by simp [hlen], ⟨fun j x => ∃ a, σ[j]? = some a ∧ S a x, ⟨fun j t ht => ?_, fun i j x ⟨a, ha, hx⟩ ⟨b, hb, hy⟩ => ?_, fun j x ⟨a, ha, hx⟩ => ?_⟩⟩, ⟨rfl, rfl, rfl, Nat.le_refl _, fun _ _ _ => rfl⟩⟩
  · obtain ⟨a, h, e1, e2, e3⟩ := chkHp_spec ts 0 hchk j t ht
    rw [Nat.zero_add] at e1
    rw [hv_map ρ e1]
    have hfun : (fun x => ∃ a, σ[j]? = some a ∧ S a x) = S a := by
      funext x
      apply propext
      constructor
      · rintro ⟨b, hb, hx⟩; rw [e1] at hb; injection hb with hb; subst hb; exact hx
      · intro hx; exact ⟨a, e1, hx⟩
    rw [hfun]
    exact (hS.holds a h e2).form hf (fun x ⟨j, b, _, hx⟩ => (hS.dom b x hx).2.2) e3
  · have := hS.disj a b x hx hy
    subst this
    exact inj i j a ha hb
  · exact ⟨by rw [← hlen]; exact (List.getElem?_eq_some_iff.1 ha).1, (hS.dom a x hx).2.1, .inl ⟨j, a, ha, hx⟩⟩

/-- behind a call: the form's blocks are the caller's again -/
theorem Sat.unform {S : Nat → Nat → Prop} {β' : List Bnd} {σ σ' : List Nat} {ts us : List HE} {w' : World} {ρ2 : List Value} {hp1 hp2 : List HE} {o : List (EV U)}
    (hlρ : ρ.length = hp.length) (hS : Own objs w0 F env ρ hp w S) (hf : Fr w0 F w) (hnd : nodup σ = true) (hσl : σ.all (· < hp.length) = true) (hlen : σ.length = ts.length)
    (hσ' : σ' = σ ++ (List.range us.length).map (hp.length + ·))
    (hb : β'.all (Bnd.inScope (env ++ o).length) = true) (h1 : substHp β' σ' hp 0 ts = some hp1) (h2 : substNew β' σ' us = some hp2)
    (hs : Sat objs w (inForm σ S) (β'.map (Bnd.den (env ++ o))) (σ'.map (hv (ρ ++ ρ2))) (ts ++ us) w') (hρ2 : ρ2.length = us.length) :
    Sat objs w0 F (env ++ o) (ρ ++ ρ2) (hp1 ++ hp2) w' := by
  have inj := nodup_inj hnd
  have inj' : ∀ (i j a : Nat), σ'[i]? = some a → σ'[j]? = some a → i = j := by
    intro i j a hi hj
    have low : ∀ (i a : Nat), σ[i]? = some a → a < hp.length := fun i a h => by simpa using List.all_eq_true.1 hσl a (List.mem_of_getElem? h)
    have part : ∀ (i a : Nat), σ'[i]? = some a → (σ[i]? = some a ∧ i < σ.length) ∨ (σ.length ≤ i ∧ a = hp.length + (i - σ.length)) := by
      intro i a h
      rw [hσ'] at h
      by_cases hi : i < σ.length
      · rw [List.getElem?_append_left hi] at h; exact .inl ⟨h, hi⟩
      · rw [List.getElem?_append_right (by omega)] at h
        simp only [List.getElem?_map, Option.map_eq_some_iff] at h
        obtain ⟨k, hk, rfl⟩ := h
        have hk2 := (List.getElem?_eq_some_iff.1 hk)
        obtain ⟨hk3, hk4⟩ := hk2
        simp at hk4
        exact .inr ⟨by omega, by omega⟩
    rcases part i a hi with ⟨a1, a2⟩ | ⟨a1, a2⟩ <;> rcases part j a hj with ⟨b1, b2⟩ | ⟨b1, b2⟩
    · exact inj i j a a1 b1
    · have := low i a a1; omega
    · have := low j a b1; omega
    · omega
  obtain ⟨g1, g2, g3⟩ := substHp_spec inj' hp ts 0 hp1 h1
  obtain ⟨k1, k2⟩ := substNew_spec us hp2 h2
  obtain ⟨Sp, hSp⟩ := hs.own
  have hnames : σ'.all (· < (ρ ++ ρ2).length) = true := by
    rw [List.all_eq_true]
    intro a ha
    rw [hσ'] at ha
    simp only [List.length_append, decide_eq_true_eq]
    rcases List.mem_append.1 ha with h | h
    · have := List.all_eq_true.1 hσl a h; simp at this; omega
    · simp only [List.mem_map, List.mem_range] at h
      obtain ⟨k, hk, rfl⟩ := h
      omega
  have hpos : ∀ j, j < us.length → σ'[ts.length + j]? = some (hp.length + j) := fun j hj => by
    rw [hσ', List.getElem?_append_right (by omega)]
    simp [hlen, hj]
  have hold : ∀ j, j < ts.length → ∃ a, σ'[j]? = some a ∧ σ[j]? = some a ∧ a < hp.length := fun j hj => by
    have hj' : j < σ.length := by omega
    refine ⟨σ[j], ?_, List.getElem?_eq_getElem hj', by simpa using List.all_eq_true.1 hσl _ (List.getElem_mem hj')⟩
    rw [hσ', List.getElem?_append_left hj', List.getElem?_eq_getElem hj']
  -- who owns what
  let S2 : Nat → Nat → Prop := fun n x => (∃ j : Nat, σ'[j]? = some n ∧ Sp j x) ∨ ((∀ j : Nat, σ'[j]? ≠ some n) ∧ S n x)
  have hS2 : ∀ (j n : Nat), σ'[j]? = some n → S2 n = Sp j := fun j n h => by
    funext x
    apply propext
    constructor
    · rintro (⟨i, hi, hx⟩ | ⟨hno, _⟩)
      · rw [inj' i j n hi h] at hx; exact hx
      · exact absurd h (hno j)
    · intro hx; exact .inl ⟨j, h, hx⟩
  have hSn : ∀ n, (∀ j : Nat, σ'[j]? ≠ some n) → S2 n = S n := fun n h => by
    funext x
    apply propext
    constructor
    · rintro (⟨i, hi, hx⟩ | ⟨_, hx⟩)
      · exact absurd hi (h i)
      · exact hx
    · intro hx; exact .inr ⟨h, hx⟩
  have hframe : ∀ n, (∀ j : Nat, σ[j]? ≠ some n) → ∀ x, S n x → w'.heap[x]? = w.heap[x]? := fun n hn x hx =>
    hs.frame.block x (hS.dom n x hx).2.1 fun ⟨j, a, ha, hxa⟩ => by
      have := hS.disj n a x hx hxa
      subst this
      exact hn j ha
  have hfr : Fr w0 F w' := ⟨hs.frame.os.trans hf.os, hs.frame.tape.trans hf.tape, hs.frame.output.trans hf.output, Nat.le_trans hf.size hs.frame.size, fun x hx hF => by
    rw [hs.frame.block x (Nat.lt_of_lt_of_le hx hf.size) fun ⟨j, a, ha, hxa⟩ => by
      rcases (hS.dom a x hxa).2.2 with h | h
      · exact hF h
      · omega]
    exact hf.block x hx hF⟩
  refine ⟨by simp [g1, k1, hlρ, hρ2], ⟨S2, ⟨fun n e hn => ?_, fun n m x hx hy => ?_, fun n x hx => ?_⟩⟩, hfr⟩
  · by_cases hin : ∃ j : Nat, σ'[j]? = some n
    · obtain ⟨j, hj⟩ := hin
      rw [hS2 j n hj]
      by_cases hjt : j < ts.length
      · obtain ⟨a, e1, e2, e3⟩ := hold j hjt
        rw [hj] at e1; injection e1 with e1; subst e1
        rw [List.getElem?_append_left (by omega)] at hn
        obtain ⟨b, f1, f2⟩ := g3 j ts[j] (List.getElem?_eq_getElem hjt)
        rw [Nat.zero_add, hj] at f1; injection f1 with f1; subst f1
        rcases f2 with ⟨_, ⟨ks, i, hro⟩, hsame⟩ | ⟨hnro, h, hsub, hget⟩
        · rw [hsame, hro] at hn
          injection hn with hn
          subst hn
          have := (hS.holds n _ hro).ext o ρ2
          rw [hv_app (by omega)]
          exact this
        · have := hget e3
          rw [this] at hn; injection hn with hn; subst hn
          have hh := hSp.holds j ts[j] (by rw [List.getElem?_append_left hjt, List.getElem?_eq_getElem hjt])
          rw [hv_map _ hj] at hh
          exact hh.unform hb hnames hsub hnro
      · have hju : j - ts.length < us.length := by
          have := (List.getElem?_eq_some_iff.1 hj).1
          rw [hσ'] at this
          simp at this
          omega
        have := hpos (j - ts.length) hju
        rw [show ts.length + (j - ts.length) = j by omega, hj] at this
        injection this with this
        rw [List.getElem?_append_right (by omega)] at hn
        rw [show n - hp1.length = j - ts.length by omega] at hn
        obtain ⟨hnro, h, hsub, hget⟩ := k2 _ _ (List.getElem?_eq_getElem hju)
        rw [hget] at hn; injection hn with hn; subst hn
        have hh := hSp.holds j us[j - ts.length] (by rw [List.getElem?_append_right (by omega), List.getElem?_eq_getElem hju])
        rw [hv_map _ hj] at hh
        exact hh.unform hb hnames hsub hnro
    · have hno : ∀ j : Nat, σ'[j]? ≠ some n := fun j h => hin ⟨j, h⟩
      rw [hSn n hno]
      have hlt : n < hp.length := by
        by_cases h : n < hp.length
        · exact h
        · exfalso
          have hn' := (List.getElem?_eq_some_iff.1 hn).1
          simp only [List.length_append, g1, k1] at hn'
          have := hpos (n - hp.length) (by omega)
          rw [show hp.length + (n - hp.length) = n by omega] at this
          exact hno _ this
      rw [List.getElem?_append_left (by omega), g2 n fun j hj => by rw [Nat.zero_add]; exact hno j] at hn
      have h3 := ((hS.holds n e hn).ext o ρ2).stay (w' := w') fun x hx => hframe n (fun j hj => hno j (by
        rw [hσ', List.getElem?_append_left (List.getElem?_eq_some_iff.1 hj).1]; exact hj)) x hx
      rw [hv_app (by omega)]
      exact h3
  · rcases hx with ⟨i, hi, hx⟩ | ⟨hno, hx⟩ <;> rcases hy with ⟨j, hj, hy⟩ | ⟨hno', hy⟩
    · have := hSp.disj i j x hx hy
      subst this
      rw [hi] at hj; injection hj
    · exfalso
      rcases (hSp.dom i x hx).2.2 with ⟨k, a, ha, hxa⟩ | h
      · have := hS.disj m a x hy hxa
        subst this
        exact hno' k (by rw [hσ', List.getElem?_append_left (List.getElem?_eq_some_iff.1 ha).1]; exact ha)
      · have := (hS.dom m x hy).2.1; omega
    · exfalso
      rcases (hSp.dom j x hy).2.2 with ⟨k, a, ha, hxa⟩ | h
      · have := hS.disj n a x hx hxa
        subst this
        exact hno k (by rw [hσ', List.getElem?_append_left (List.getElem?_eq_some_iff.1 ha).1]; exact ha)
      · have := (hS.dom n x hx).2.1; omega
    · exact hS.disj n m x hx hy
  · have hlen' : (hp1 ++ hp2).length = hp.length + us.length := by simp [g1, k1]
    rcases hx with ⟨j, hj, hx⟩ | ⟨hno, hx⟩
    · refine ⟨?_, (hSp.dom j x hx).2.1, ?_⟩
      · have := List.all_eq_true.1 hnames n (List.mem_of_getElem? hj)
        simp at this
        rw [hlen']; omega
      · rcases (hSp.dom j x hx).2.2 with ⟨k, a, ha, hxa⟩ | h
        · exact (hS.dom a x hxa).2.2
        · exact .inr (Nat.le_trans hf.size h)
    · obtain ⟨d1, d2, d3⟩ := hS.dom n x hx
      exact ⟨by omega, Nat.lt_of_lt_of_le d2 hs.frame.size, d3⟩

theorem tryCtr_sound {X : Cx U} {R : List (EV U) → List (EV U) → Prop} {c : Ctr U} {ci : Nat} (hci : X.cts[ci]? = some c) (hH : c.Holds X.objs X.P) {args : List SV} {st : St} {K : SV → St → Tree} {T : Tree} {a : Act} {as : List Act} {vals : List Value} {N : Value → World → Prop} {pre : List (EV U) × List Value}
    (h : tryCtr c ci args st K = some T) (hpre : Pfx pre env ρ) (hc : Conc X.objs w0 F env ρ st a as w) (ha : ArgsRel env ρ args vals)
    (hK : ∀ v st' env' ρ' c w', Pfx pre env' ρ' → Conc X.objs w0 F env' ρ' st' a as w' → Rel env' ρ' v c → (K v st').sat X R env' → N c w') (hs : T.sat X R env) :
    Callable X.P c.fn ∧ Calls X.P c.fn vals.toArray w fun e w' => ∃ c, e = .returned c ∧ N c w' := by
  obtain ⟨h1, h2, h3⟩ := hH
  refine ⟨h1, ?_⟩
  unfold tryCtr at h
  split at h
  · cases h
  · split at h
    · cases h
    · split at h
      · rename_i β σ _ _
        split at h
        · rename_i hcond
          simp only [Bool.and_eq_true, decide_eq_true_eq] at hcond
          obtain ⟨⟨⟨⟨⟨⟨⟨hca, hch⟩, hnd⟩, hple⟩, hβl⟩, hσl⟩, hβs⟩, hσs⟩ := hcond
          dsimp only at h
          split at h
          · rename_i v hp1 hp2 hvv hh1 hh2
            injection h with h
            subst h
            simp only [Tree.sat, hci] at hs
            obtain ⟨hp, hs⟩ := hs
            have hil : (β.map (Bnd.den env)).length = c.nin := by simp [hβl]
            have hol := h2 _ hil hp
            obtain ⟨S, hS⟩ := hc.sat.own
            have hargs : DenL (β.map (Bnd.den env)) (σ.map (hv ρ)) c.args vals := by
              unfold chkL at hca
              split at hca
              · rename_i l hl
                simp only [Bool.and_eq_true] at hca
                have := SV.beqL_eq hca.1
                subst this
                exact form_DenL hl (ha.den hca.2)
              · cases hca
            have hsat := Sat.form hS hc.sat.frame hnd hσl hch
            refine Calls.mono (h3 _ _ w vals _ hil hp hargs hsat) fun e w' ⟨r, ρ', he, hd, hs'⟩ => ⟨r, he, ?_⟩
            -- the form's numbers and names behind the call
            have hb' : (β ++ (List.range c.nout).map fun j => Bnd.var (st.ne + j)).map (Bnd.den (env ++ c.out (β.map (Bnd.den env)))) = β.map (Bnd.den env) ++ c.out (β.map (Bnd.den env)) := by
              rw [List.map_append, bnds_den hβs _ (by rw [hc.ne]; exact Nat.le_refl _)]
              congr 1
              apply List.ext_getElem?
              intro i
              simp only [List.getElem?_map, List.map_map]
              by_cases hi : i < c.nout
              · rw [List.getElem?_range hi]
                have hi' : i < (c.out (β.map (Bnd.den env))).length := by omega
                simp only [Option.map_some, Function.comp, Bnd.den, List.getD, ← hc.ne]
                rw [List.getElem?_append_right (by omega)]
                simp [List.getElem?_eq_getElem hi']
              · rw [List.getElem?_eq_none (by simp; omega), List.getElem?_eq_none (by omega)]; rfl
            have hρl := hs'.len
            simp only [List.length_append, List.length_map] at hρl
            have hn' : (σ ++ (List.range (c.post.length - c.heap.length)).map (st.hp.length + ·)).map (hv (ρ ++ ρ')) = σ.map (hv ρ) ++ ρ' := by
              rw [List.map_append, names_den (by rw [hc.sat.len]; exact hσs)]
              congr 1
              apply List.ext_getElem?
              intro i
              simp only [List.getElem?_map, List.map_map]
              by_cases hi : i < c.post.length - c.heap.length
              · rw [List.getElem?_range hi]
                have hi' : i < ρ'.length := by omega
                simp only [Option.map_some, Function.comp, hv, List.getD, ← hc.sat.len]
                rw [List.getElem?_append_right (by omega)]
                simp [List.getElem?_eq_getElem hi']
              · rw [List.getElem?_eq_none (by simp; omega), List.getElem?_eq_none (by omega)]; rfl
            have hscope : (β ++ (List.range c.nout).map fun j => Bnd.var (st.ne + j)).all (Bnd.inScope (env ++ c.out (β.map (Bnd.den env))).length) = true := by
              rw [List.all_eq_true]
              intro b hb
              rcases List.mem_append.1 hb with hb | hb
              · have := List.all_eq_true.1 hβs b hb
                -- inScope below a smaller number
                have mono : ∀ {n m : Nat}, n ≤ m → ∀ {e : Ex}, e.inScope n = true → e.inScope m = true := by
                  intro n m hnm e
                  induction e with
                  | lit _ => intro _; rfl
                  | bin op k a b ih1 ih2 => intro h; simp [Ex.inScope] at h ⊢; exact ⟨ih1 h.1, ih2 h.2⟩
                  | conv k a ih => intro h; simp only [Ex.inScope] at h ⊢; exact ih h
                  | nth i e ih => intro h; simp [Ex.inScope] at h ⊢; exact ⟨by omega, ih h.2⟩
                  | fld i e c ih => intro h; simp [Ex.inScope] at h ⊢; exact ⟨by omega, ih h.2⟩
                  | _ => intro h; simp [Ex.inScope] at h ⊢; omega
                have monob : ∀ {n m : Nat}, n ≤ m → ∀ {e : Bx}, e.inScope n = true → e.inScope m = true := by
                  intro n m hnm e
                  induction e with
                  | lit _ => intro _; rfl
                  | cmp op a b => intro h; simp [Bx.inScope] at h ⊢; exact ⟨mono hnm h.1, mono hnm h.2⟩
                  | beq a b ih1 ih2 => intro h; simp [Bx.inScope] at h ⊢; exact ⟨ih1 h.1, ih2 h.2⟩
                  | not a ih => intro h; simp only [Bx.inScope] at h ⊢; exact ih h
                  | and a b ih1 ih2 => intro h; simp [Bx.inScope] at h ⊢; exact ⟨ih1 h.1, ih2 h.2⟩
                  | fld i e c => intro h; simp [Bx.inScope] at h ⊢; exact ⟨by omega, mono hnm h.2⟩
                  | _ => intro h; simp [Bx.inScope] at h ⊢; omega
                have hle : st.ne ≤ (env ++ c.out (β.map (Bnd.den env))).length := by have := hc.ne; simp; omega
                cases b with
                | ex e => exact mono hle this
                | bx e => exact monob hle this
                | var i => simp [Bnd.inScope] at this ⊢; have := hc.ne; omega
              · simp only [List.mem_map, List.mem_range] at hb
                obtain ⟨j, hj, rfl⟩ := hb
                have := hc.ne
                simp [Bnd.inScope]
                omega
            have hs2 : Sat X.objs w (inForm σ S) ((β ++ (List.range c.nout).map fun j => Bnd.var (st.ne + j)).map (Bnd.den (env ++ c.out (β.map (Bnd.den env))))) ((σ ++ (List.range (c.post.length - c.heap.length)).map (st.hp.length + ·)).map (hv (ρ ++ ρ'))) (c.post.take c.heap.length ++ c.post.drop c.heap.length) w' := by
              rw [hb', hn', List.take_append_drop]
              exact hs'
            have hdl : (c.post.drop c.heap.length).length = c.post.length - c.heap.length := by simp
            have hfin := Sat.unform (σ' := σ ++ (List.range (c.post.length - c.heap.length)).map (st.hp.length + ·)) hc.sat.len hS hc.sat.frame hnd hσs (by simp; omega) (by rw [hdl]) hscope hh1 hh2 hs2 (by rw [hdl]; omega)
            have hcc : Conc X.objs w0 F (env ++ c.out (β.map (Bnd.den env))) (ρ ++ ρ') { st with hp := hp1 ++ hp2, ne := st.ne + c.nout } a as w' :=
              ⟨by simp [hc.ne, hol], hc.pc.ext _, hc.tm.ext _ _, hc.stk.ext _ _, hfin⟩
            refine hK v _ (env ++ c.out (β.map (Bnd.den env))) (ρ ++ ρ') r w' ((hpre.env _).rho _) hcc (.inr ?_) hs
            have hnames : (σ ++ (List.range (c.post.length - c.heap.length)).map (st.hp.length + ·)).all (· < (ρ ++ ρ').length) = true := by
              rw [List.all_eq_true]
              intro a ha
              simp only [List.length_append, decide_eq_true_eq]
              have := hc.sat.len
              rcases List.mem_append.1 ha with h | h
              · have := List.all_eq_true.1 hσs a h; simp at this; omega
              · simp only [List.mem_map, List.mem_range] at h
                obtain ⟨k, hk, rfl⟩ := h
                omega
            have hvd := subst_Den hscope hnames hvv
            rw [hb', hn', hd.now] at hvd
            exact hvd
          · cases h
        · cases h
      · cases h
end
end Go.Proofs.Ytjohihkbampbgaa
