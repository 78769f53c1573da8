/- Texts of this proof. -/
import Derived.Test.YtbmbiiiacajolaaYbK
import Derived.Test.YtbmbiiiacajolaaB5K
namespace Go.Proofs.Ytbmbiiiacajolaa
set_option linter.unusedVariables false
set_option linter.unusedSimpArgs false
set_option linter.unusedSectionVars false
open Go Go.RowKit
structure KL where
 n : Int
 H : Int
 keys : Int → Int
 high : Int → Int
 inn : Int → Int
namespace KL
structure ok (X : KL) : Prop where
 n0 : 0 ≤ X.n
 n9 : X.n ≤ 9
 H1 : 1 ≤ X.H
 H4 : X.H ≤ 4
 nd : ∀ i, 0 ≤ i → i < X.n → 1 ≤ X.inn i ∧ X.inn i ≤ X.high i ∧ X.high i ≤ X.H
 ks : ∀ i j, 0 ≤ i → i < j → j < X.n → X.keys i < X.keys j
def mrk (X : KL) (low : Int → Int) (i l : Int) : Prop := 0 ≤ i ∧ low i ≤ l ∧ l < X.high i
instance (X : KL) (low : Int → Int) (i l : Int) : Decidable (X.mrk low i l) := inferInstanceAs (Decidable (_ ∧ _ ∧ _))
structure Inv (X : KL) (nx : Int → Int → Int) (low : Int → Int) : Prop where
 lo : ∀ i, 0 ≤ i → i < X.n → 0 ≤ low i ∧ low i ≤ X.high i
 ptr : ∀ i l, -1 ≤ i → i < X.n → 0 ≤ l → l < X.H → nx i l = -1 ∨ i < nx i l ∧ 0 ≤ nx i l ∧ nx i l < X.n ∧ l < X.inn (nx i l)
 gap : ∀ i l k, -1 ≤ i → i < X.n → 0 ≤ l → l < X.H → (0 ≤ i → l < X.inn i) → i < k → 0 ≤ k → k < X.n → (nx i l = -1 ∨ k < nx i l) → l < X.inn k → low k ≤ l
end KL
inductive FS where
 | one (l p : Int)
 | two (l p c : Int)
 | three (l p c d : Int)
 | four (l p c d : Int)
 | over
namespace FS
def dn (l p : Int) : FS := if l = 0 then .over else .one (l - 1) p
def looks (l p c : Int) : FS := if c < 0 then dn l p else .two l p c
end FS
def upd (nx : Int → Int → Int) (p l d : Int) : Int → Int → Int := fun i j => if i = p ∧ j = l then d else nx i j
namespace KL
variable (X : KL)
def anew : FS := .one (X.H - 1) (-1)
def step (key : Int) (nx : Int → Int → Int) (low : Int → Int) : FS → FS × (Int → Int → Int)
 | .one l p => (if X.mrk low p l then X.anew else FS.looks l p (nx p l), nx)
 | .two l p c => (if X.mrk low c l then .three l p c (nx c l) else .four l p c (nx c l), nx)
 | .three l p c d => if nx p l = c ∧ ¬ X.mrk low p l then (FS.looks l p d, upd nx p l d) else (X.anew, nx)
 | .four l p c d => (if X.keys c < key then FS.looks l c d else FS.dn l p, nx)
 | .over => (.over, nx)
def rng (key l p : Int) : Prop := 0 ≤ l ∧ l < X.H ∧ -1 ≤ p ∧ p < X.n ∧ (0 ≤ p → l < X.inn p ∧ X.keys p < key)
def nod (l p c : Int) : Prop := p < c ∧ 0 ≤ c ∧ c < X.n ∧ l < X.inn c
def At (key : Int) (nx : Int → Int → Int) (low : Int → Int) : FS → Prop
 | .one l p => X.rng key l p
 | .two l p c => X.rng key l p ∧ X.nod l p c
 | .three l p c d => X.rng key l p ∧ X.nod l p c ∧ nx c l = d ∧ low c ≤ l
 | .four l p c d => X.rng key l p ∧ X.nod l p c ∧ (d = -1 ∨ X.nod l c d)
 | .over => True
def mu : FS → Int
 | .one l p => l * (2 * X.n + 1) + 1 + 2 * (X.n - 1 - p)
 | .two l _ c => l * (2 * X.n + 1) + 2 * (X.n - c)
 | .three l _ c _ => l * (2 * X.n + 1) + 2 * (X.n - c) - 1
 | .four l _ c _ => l * (2 * X.n + 1) + 2 * (X.n - c) - 1
 | .over => 0
def Fresh (nx : Int → Int → Int) (low : Int → Int) : FS → Prop
 | .one l p => ¬ X.mrk low p l
 | .two l p c => ¬ X.mrk low p l ∧ nx p l = c
 | .three l p c _ => ¬ X.mrk low p l ∧ nx p l = c
 | .four l p c d => ¬ X.mrk low p l ∧ nx p l = c ∧ ¬ X.mrk low c l ∧ nx c l = d
 | .over => True
variable {X} {key : Int} {nx : Int → Int → Int} {low : Int → Int}
theorem at_anew (h : X.ok) : X.At key nx low X.anew := by
 have := h.H1; have := h.n0
 exact ⟨by omega, by omega, by omega, by omega, fun h => absurd h (by omega)⟩
theorem at_dn {l p : Int} (h : X.rng key l p) : X.At key nx low (FS.dn l p) := by
 obtain ⟨h1, h2, h3, h4, h5⟩ := h
 unfold FS.dn; split
 · trivial
 · exact ⟨by omega, by omega, h3, h4, fun hp => ⟨by have := (h5 hp).1; omega, (h5 hp).2⟩⟩
theorem at_looks {l p c : Int} (h : X.rng key l p) (hc : c = -1 ∨ X.nod l p c) : X.At key nx low (FS.looks l p c) := by
 unfold FS.looks; split
 · exact at_dn h
 · rcases hc with rfl | hc
   · omega
   · exact ⟨h, hc⟩
theorem ptr_nod (hI : X.Inv nx low) {key l p : Int} (h : X.rng key l p) : nx p l = -1 ∨ X.nod l p (nx p l) := by
 obtain ⟨h1, h2, h3, h4, h5⟩ := h
 rcases hI.ptr p l h3 h4 h1 h2 with e | e
 · exact .inl e
 · exact .inr ⟨e.1, e.2.1, e.2.2.1, e.2.2.2⟩
theorem rng_nod {l p c : Int} (h : X.rng key l p) (hc : X.nod l p c) (hk : X.keys c < key) : X.rng key l c :=
 ⟨h.1, h.2.1, by have := hc.2.1; omega, hc.2.2.1, fun _ => ⟨hc.2.2.2, hk⟩⟩
theorem inv_upd (h : X.ok) (hI : X.Inv nx low) {l p c d : Int} (hr : X.rng key l p) (hn : X.nod l p c) (hd : nx c l = d) (hlo : low c ≤ l) (hp : nx p l = c) : X.Inv (upd nx p l d) low := by
 obtain ⟨r1, r2, r3, r4, r5⟩ := hr
 obtain ⟨n1, n2, n3, n4⟩ := hn
 refine ⟨hI.lo, fun i j i0 i1 j0 j1 => ?_, fun i j k i0 i1 j0 j1 hi hk k0 k1 hg hin => ?_⟩
 · unfold upd; split
   · rename_i e; obtain ⟨rfl, rfl⟩ := e
     rcases hI.ptr c j (by omega) n3 j0 j1 with e | e
     · exact .inl (by omega)
     · rw [hd] at e; exact .inr ⟨by omega, e.2⟩
   · exact hI.ptr i j i0 i1 j0 j1
 · unfold upd at hg; split at hg
   · rename_i e; obtain ⟨rfl, rfl⟩ := e
     by_cases h1 : k < c
     · exact hI.gap i j k i0 i1 j0 j1 hi hk k0 k1 (.inr (by omega)) hin
     · by_cases h2 : k = c
       · subst h2; exact hlo
       · exact hI.gap c j k (by omega) n3 j0 j1 (fun _ => n4) (by omega) k0 k1 (by rw [hd]; exact hg) hin
   · exact hI.gap i j k i0 i1 j0 j1 hi hk k0 k1 hg hin
theorem step_at (h : X.ok) (hI : X.Inv nx low) : ∀ {s : FS}, X.At key nx low s → X.Inv (X.step key nx low s).2 low ∧ X.At key (X.step key nx low s).2 low (X.step key nx low s).1
 | .one l p, hs => by
   refine ⟨hI, ?_⟩
   show X.At key nx low (if _ then _ else _)
   split
   · exact at_anew h
   · exact at_looks hs (ptr_nod hI hs)
 | .two l p c, hs => by
   refine ⟨hI, ?_⟩
   show X.At key nx low (if _ then _ else _)
   split
   · rename_i e; exact ⟨hs.1, hs.2, rfl, e.2.1⟩
   · have := hI.ptr c l (by have := hs.2.2.1; omega) hs.2.2.2.1 hs.1.1 hs.1.2.1
     exact ⟨hs.1, hs.2, this.imp id fun e => ⟨e.1, e.2.1, e.2.2.1, e.2.2.2⟩⟩
 | .three l p c d, ⟨h1, h2, h3, h4⟩ => by
   show X.Inv (if _ then _ else _ : FS × _).2 low ∧ X.At key (if _ then _ else _ : FS × _).2 low (if _ then _ else _ : FS × _).1
   split
   · rename_i e
     have hI' := inv_upd h hI h1 h2 h3 h4 e.1
     refine ⟨hI', at_looks h1 ?_⟩
     have := hI.ptr c l (by have := h2.2.1; omega) h2.2.2.1 h1.1 h1.2.1
     rw [h3] at this
     exact this.imp id fun e => ⟨by have := h2.1; omega, e.2.1, e.2.2.1, e.2.2.2⟩
   · exact ⟨hI, at_anew h⟩
 | .four l p c d, ⟨h1, h2, h3⟩ => by
   refine ⟨hI, ?_⟩
   show X.At key nx low (if _ then _ else _)
   split
   · rename_i e; exact at_looks (rng_nod h1 h2 e) h3
   · exact at_dn h1
 | .over, _ => ⟨hI, trivial⟩
theorem step_oth (h : X.ok) (hI : X.Inv nx low) {key' : Int} {s : FS} (hs : X.At key nx low s) : ∀ {s' : FS}, X.At key' nx low s' → X.At key' (X.step key nx low s).2 low s'
 | .one l p, h' => h'
 | .two l p c, h' => h'
 | .four l p c d, h' => h'
 | .over, _ => trivial
 | .three l' p' c' d', ⟨h1, h2, h3, h4⟩ => by
   refine ⟨h1, h2, ?_, h4⟩
   match s, hs with
   | .one _ _, _ => exact h3
   | .two _ _ _, _ => exact h3
   | .four _ _ _ _, _ => exact h3
   | .over, _ => exact h3
   | .three l p c d, hs =>
     show (if _ then _ else _ : FS × (Int → Int → Int)).2 c' l' = d'
     split
     · rename_i e
       show upd nx p l d c' l' = d'
       unfold upd; split
       · rename_i e2; obtain ⟨rfl, rfl⟩ := e2
         exact absurd ⟨h2.2.1, h4, by have := (h.nd c' h2.2.1 h2.2.2.1).2.1; have := h2.2.2.2; omega⟩ e.2
       · exact h3
     · exact h3
def lower (low : Int → Int) (i : Int) : Int → Int := fun k => if k = i then low k - 1 else low k
theorem inv_lower (hI : X.Inv nx low) {i : Int} (hi : 0 < low i) : X.Inv nx (lower low i) := by
 refine ⟨fun k k0 k1 => ?_, hI.ptr, fun j l k j0 j1 l0 l1 hj hk k0 k1 hg hin => ?_⟩
 · have := hI.lo k k0 k1
   unfold lower; split
   · rename_i e; subst e; omega
   · exact this
 · have := hI.gap j l k j0 j1 l0 l1 hj hk k0 k1 hg hin
   unfold lower; split <;> omega
theorem at_lower {i : Int} : ∀ {s : FS}, X.At key nx low s → X.At key nx (lower low i) s
 | .one l p, h' => h'
 | .two l p c, h' => h'
 | .four l p c d, h' => h'
 | .over, _ => trivial
 | .three l p c d, ⟨h1, h2, h3, h4⟩ => ⟨h1, h2, h3, by unfold lower; split <;> omega⟩
theorem mulm {l n : Int} : (l - 1) * (2 * n + 1) = l * (2 * n + 1) - (2 * n + 1) := by rw [Int.sub_mul, Int.one_mul]
theorem mul0 {l n : Int} (h : 0 ≤ l) (hn : 0 ≤ n) : 0 ≤ l * (2 * n + 1) := Int.mul_nonneg h (by omega)
theorem mu_dn {l p : Int} (h : X.ok) (hr : X.rng key l p) : X.mu (FS.dn l p) ≤ l * (2 * X.n + 1) - 2 - 2 * p ∧ 0 ≤ X.mu (FS.dn l p) ∨ l = 0 ∧ X.mu (FS.dn l p) = 0 := by
 obtain ⟨r1, r2, r3, r4, r5⟩ := hr
 have := h.n0
 unfold FS.dn; split
 · rename_i e; exact .inr ⟨e, rfl⟩
 · have e1 := mulm (l := l) (n := X.n)
   have e2 := mul0 (l := l - 1) (n := X.n) (by omega) h.n0
   left; show (l - 1) * (2 * X.n + 1) + 1 + 2 * (X.n - 1 - p) ≤ _ ∧ 0 ≤ (l - 1) * (2 * X.n + 1) + 1 + 2 * (X.n - 1 - p); omega
theorem step_mu (h : X.ok) (hI : X.Inv nx low) : ∀ {s : FS}, X.At key nx low s → s ≠ .over → (X.step key nx low s).1 = X.anew ∧ (X.step key nx low s).2 = nx ∧ ¬ X.Fresh nx low s ∨ X.mu (X.step key nx low s).1 < X.mu s
 | .one l p, hs, _ => by
   obtain ⟨r1, r2, r3, r4, r5⟩ := id hs
   by_cases e : X.mrk low p l
   · exact .inl ⟨if_pos e, rfl, fun hf => hf e⟩
   · right
     show X.mu (if _ then _ else _) < l * (2 * X.n + 1) + 1 + 2 * (X.n - 1 - p)
     rw [if_neg e]
     have e0 := mul0 r1 h.n0
     rcases ptr_nod hI hs with c | c
     · rw [c]; show X.mu (if _ then _ else _) < _
       rw [if_pos (by decide)]
       rcases mu_dn h hs with m | m <;> omega
     · unfold FS.looks; rw [if_neg (by have := c.2.1; omega)]
       show l * (2 * X.n + 1) + 2 * (X.n - nx p l) < _
       have := c.1; omega
 | .two l p c, hs, _ => by
   right
   show X.mu (if _ then _ else _) < l * (2 * X.n + 1) + 2 * (X.n - c)
   split
   · show l * (2 * X.n + 1) + 2 * (X.n - c) - 1 < _; omega
   · show l * (2 * X.n + 1) + 2 * (X.n - c) - 1 < _; omega
 | .three l p c d, ⟨h1, h2, h3, h4⟩, _ => by
   have e0 := mul0 h1.1 h.n0
   obtain ⟨n1, n2, n3, n4⟩ := id h2
   by_cases e : nx p l = c ∧ ¬ X.mrk low p l
   · right
     show X.mu (if _ then _ else _ : FS × _).1 < l * (2 * X.n + 1) + 2 * (X.n - c) - 1
     rw [if_pos e]
     show X.mu (FS.looks l p d) < _
     have hp := hI.ptr c l (by omega) n3 h1.1 h1.2.1
     rw [h3] at hp
     unfold FS.looks
     rcases hp with hd | hd
     · rw [if_pos (by omega)]
       have := h1.2.2.1
       rcases mu_dn h h1 with m | m <;> omega
     · rw [if_neg (by omega)]
       show l * (2 * X.n + 1) + 2 * (X.n - d) < _
       omega
   · left
     refine ⟨?_, ?_, fun hf => e ⟨hf.2, hf.1⟩⟩
     · show (if _ then _ else _ : FS × _).1 = _; rw [if_neg e]
     · show (if _ then _ else _ : FS × _).2 = _; rw [if_neg e]
 | .four l p c d, ⟨h1, h2, h3⟩, _ => by
   have e0 := mul0 h1.1 h.n0
   obtain ⟨n1, n2, n3, n4⟩ := id h2
   right
   show X.mu (if _ then _ else _) < l * (2 * X.n + 1) + 2 * (X.n - c) - 1
   split
   · rename_i e
     unfold FS.looks
     rcases h3 with rfl | hd
     · rw [if_pos (by decide)]
       rcases mu_dn h (rng_nod h1 h2 e) with m | m <;> omega
     · rw [if_neg (by have := hd.2.1; omega)]
       show l * (2 * X.n + 1) + 2 * (X.n - d) < _
       have := hd.1; omega
   · have := h1.2.2.1
     rcases mu_dn h h1 with m | m <;> omega
theorem mrk_dn (h : X.ok) {l p : Int} (hr : X.rng key l p) (hm : ¬ X.mrk low p l) : X.Fresh nx low (FS.dn l p) := by
 obtain ⟨r1, r2, r3, r4, r5⟩ := hr
 unfold FS.dn; split
 · trivial
 · rintro ⟨a, b, c⟩
   have := (h.nd p a r4).2.1; have := (r5 a).1
   exact hm ⟨a, by omega, by omega⟩
theorem fresh_step (h : X.ok) (hI : X.Inv nx low) : ∀ {s : FS}, X.At key nx low s → X.Fresh nx low s → X.Fresh (X.step key nx low s).2 low (X.step key nx low s).1
 | .one l p, hs, hf => by
   show X.Fresh nx low (if _ then _ else _)
   rw [if_neg hf]
   unfold FS.looks; split
   · exact mrk_dn h hs hf
   · exact ⟨hf, rfl⟩
 | .two l p c, hs, hf => by
   show X.Fresh nx low (if _ then _ else _)
   split
   · exact hf
   · rename_i e; exact ⟨hf.1, hf.2, e, rfl⟩
 | .three l p c d, ⟨h1, h2, h3, h4⟩, hf => by
   show X.Fresh (if _ then _ else _ : FS × _).2 low (if _ then _ else _ : FS × _).1
   rw [if_pos ⟨hf.2, hf.1⟩]
   show X.Fresh (upd nx p l d) low (FS.looks l p d)
   unfold FS.looks; split
   · exact mrk_dn h h1 hf.1
   · exact ⟨hf.1, if_pos ⟨rfl, rfl⟩⟩
 | .four l p c d, ⟨h1, h2, h3⟩, hf => by
   show X.Fresh nx low (if _ then _ else _)
   split
   · rename_i e
     unfold FS.looks; split
     · exact mrk_dn h (rng_nod h1 h2 e) hf.2.2.1
     · exact ⟨hf.2.2.1, hf.2.2.2⟩
   · exact mrk_dn h h1 hf.1
 | .over, _, _ => trivial
theorem fresh_anew : X.Fresh nx low X.anew := fun h => absurd h.1 (by decide)
theorem mu_le (h : X.ok) : ∀ {s : FS}, X.At key nx low s → 0 ≤ X.mu s ∧ (s ≠ .over → 1 ≤ X.mu s) ∧ X.mu s ≤ X.H * (2 * X.n + 1) := by
 have hn := h.n0
 have key0 : ∀ l, 0 ≤ l → l < X.H → 0 ≤ l * (2 * X.n + 1) ∧ l * (2 * X.n + 1) + (2 * X.n + 1) ≤ X.H * (2 * X.n + 1) := fun l l0 l1 => by
  refine ⟨mul0 l0 hn, ?_⟩
  have : (l + 1) * (2 * X.n + 1) ≤ X.H * (2 * X.n + 1) := Int.mul_le_mul_of_nonneg_right (by omega) (by omega)
  rw [Int.add_mul, Int.one_mul] at this; exact this
 intro s hs
 match s, hs with
 | .one l p, hs =>
   have := key0 l hs.1 hs.2.1; have := hs.2.2.1; have := hs.2.2.2.1
   show 0 ≤ l * (2 * X.n + 1) + 1 + 2 * (X.n - 1 - p) ∧ (_ → 1 ≤ l * (2 * X.n + 1) + 1 + 2 * (X.n - 1 - p)) ∧ l * (2 * X.n + 1) + 1 + 2 * (X.n - 1 - p) ≤ _
   exact ⟨by omega, fun _ => by omega, by omega⟩
 | .two l p c, hs =>
   have := key0 l hs.1.1 hs.1.2.1; have := hs.2.2.1; have := hs.2.2.2.1
   show 0 ≤ l * (2 * X.n + 1) + 2 * (X.n - c) ∧ (_ → 1 ≤ l * (2 * X.n + 1) + 2 * (X.n - c)) ∧ l * (2 * X.n + 1) + 2 * (X.n - c) ≤ _
   exact ⟨by omega, fun _ => by omega, by omega⟩
 | .three l p c d, hs =>
   have := key0 l hs.1.1 hs.1.2.1; have := hs.2.1.2.1; have := hs.2.1.2.2.1
   show 0 ≤ l * (2 * X.n + 1) + 2 * (X.n - c) - 1 ∧ (_ → 1 ≤ l * (2 * X.n + 1) + 2 * (X.n - c) - 1) ∧ l * (2 * X.n + 1) + 2 * (X.n - c) - 1 ≤ _
   exact ⟨by omega, fun _ => by omega, by omega⟩
 | .four l p c d, hs =>
   have := key0 l hs.1.1 hs.1.2.1; have := hs.2.1.2.1; have := hs.2.1.2.2.1
   show 0 ≤ l * (2 * X.n + 1) + 2 * (X.n - c) - 1 ∧ (_ → 1 ≤ l * (2 * X.n + 1) + 2 * (X.n - c) - 1) ∧ l * (2 * X.n + 1) + 2 * (X.n - c) - 1 ≤ _
   exact ⟨by omega, fun _ => by omega, by omega⟩
 | .over, _ =>
   have := key0 0 (by omega) (by have := h.H1; omega)
   exact ⟨by show (0 : Int) ≤ 0; omega, fun e => absurd rfl e, by show (0 : Int) ≤ _; omega⟩
def Pot (X : KL) (nx : Int → Int → Int) (low : Int → Int) (s : FS) (q : Int) : Prop := X.Fresh nx low s ∧ q = X.mu s ∨ q = X.H * (2 * X.n + 1) + X.mu s
theorem pot_le (h : X.ok) {s : FS} {q : Int} (hs : X.At key nx low s) (hq : X.Pot nx low s q) : 0 ≤ q ∧ (s ≠ .over → 1 ≤ q) ∧ q ≤ 2 * (X.H * (2 * X.n + 1)) := by
 obtain ⟨m1, m2, m3⟩ := mu_le h hs
 rcases hq with ⟨_, rfl⟩ | rfl
 · exact ⟨m1, m2, by omega⟩
 · exact ⟨by omega, fun e => by have := m2 e; omega, by omega⟩
theorem pot_some (s : FS) : ∃ q, X.Pot nx low s q := ⟨_, .inr rfl⟩
theorem pot_step (h : X.ok) (hI : X.Inv nx low) {s : FS} {q : Int} (hs : X.At key nx low s) (hne : s ≠ .over) (hq : X.Pot nx low s q) : ∃ q', q' < q ∧ X.Pot (X.step key nx low s).2 low (X.step key nx low s).1 q' := by
 rcases step_mu h hI hs hne with ⟨e1, e2, e3⟩ | e
 · rcases hq with ⟨hf, _⟩ | rfl
   · exact absurd hf e3
   · refine ⟨X.mu X.anew, ?_, .inl ⟨by rw [e1, e2]; exact fresh_anew, by rw [e1]⟩⟩
     have a := (mu_le (nx := nx) (low := low) h (at_anew (key := key) h)).2.2
     have b := (mu_le h hs).2.1 hne
     omega
 · rcases hq with ⟨hf, rfl⟩ | rfl
   · exact ⟨_, e, .inl ⟨fresh_step h hI hs hf, rfl⟩⟩
   · exact ⟨_, by omega, .inr rfl⟩
end KL
def rfN (j : Int) : Int := if j < 0 then 0 else j + 1 + (j + 5) * 65536
def twL (s H : Int) : List Int := [9 + 2 * s + H, 9 + 2 * s, H, 0, 1, s, 1 + s, 1 + 2 * s, 99, 2 + 2 * s, 3 + 2 * s, 3, 6 + 2 * s]
def cellN (s H i l : Int) : Int := nextT (9 + 2 * s + H) (9 + 2 * s) H s i l
def cellK (s H i : Int) : Int := atT (9 + 2 * s + H) (9 + 2 * s) H s i 0
namespace KL
def sz (X : KL) : Int := if X.n < 1 then 1 else X.n
def wd (X : KL) (nx : Int → Int → Int) (low : Int → Int) (i l : Int) : Int := rfN (nx i l) + if X.mrk low i l then 9223372036854775808 else 0
structure Rep (X : KL) (nx : Int → Int → Int) (low : Int → Int) (M : MemSt) : Prop where
 len : (M.W.length : Int) = 9 + 2 * X.sz + X.H + X.sz * (4 + X.H)
 wds : ∀ i l, -1 ≤ i → i < X.n → 0 ≤ l → l < X.H → M.word (cellN X.sz X.H i l) = X.wd nx low i l
 kys : ∀ i, 0 ≤ i → i < X.n → M.word (cellK X.sz X.H i) = X.keys i
variable {X : KL} {key : Int} {nx : Int → Int → Int} {low : Int → Int}
theorem sz_le (h : X.ok) : 1 ≤ X.sz ∧ X.sz ≤ 9 ∧ X.n ≤ X.sz := by
 have := h.n0; have := h.n9
 unfold sz; split <;> omega
theorem cell_eq {s H i l : Int} (hs : 1 ≤ s) (hs9 : s ≤ 9) (hH : 1 ≤ H) (hH4 : H ≤ 4) (i0 : -1 ≤ i) (i1 : i < s) (l0 : 0 ≤ l) (l1 : l < H) : cellN s H i l = if i < 0 then 9 + 2 * s + l else 9 + 2 * s + H + i * (4 + H) + 4 + l := by
 unfold cellN nextT
 rw [if_neg (by omega), at_in ⟨hH, hH4, hs, by omega, by omega, by omega, by omega, by omega⟩ ⟨i0, i1, by omega, by omega, .inr (by omega)⟩]
 split <;> omega
theorem key_eq {s H i : Int} (hs : 1 ≤ s) (hs9 : s ≤ 9) (hH : 1 ≤ H) (hH4 : H ≤ 4) (i0 : 0 ≤ i) (i1 : i < s) : cellK s H i = 9 + 2 * s + H + i * (4 + H) := by
 unfold cellK
 rw [at_in ⟨hH, hH4, hs, by omega, by omega, by omega, by omega, by omega⟩ ⟨by omega, i1, by omega, by omega, .inl i0⟩, if_neg (by omega)]; omega
theorem h4 {H : Int} (h : 1 ≤ H) (h' : H ≤ 4) : H = 1 ∨ H = 2 ∨ H = 3 ∨ H = 4 := by omega
theorem cell_rng {s H i l : Int} (hs : 1 ≤ s) (hs9 : s ≤ 9) (hH : 1 ≤ H) (hH4 : H ≤ 4) (i0 : -1 ≤ i) (i1 : i < s) (l0 : 0 ≤ l) (l1 : l < H) : 0 ≤ cellN s H i l ∧ cellN s H i l < 9 + 2 * s + H + s * (4 + H) := by
 rw [cell_eq hs hs9 hH hH4 i0 i1 l0 l1]
 rcases h4 hH hH4 with rfl | rfl | rfl | rfl <;> split <;> omega
theorem key_rng {s H i : Int} (hs : 1 ≤ s) (hs9 : s ≤ 9) (hH : 1 ≤ H) (hH4 : H ≤ 4) (i0 : 0 ≤ i) (i1 : i < s) : 0 ≤ cellK s H i ∧ cellK s H i < 9 + 2 * s + H + s * (4 + H) := by
 rw [key_eq hs hs9 hH hH4 i0 i1]
 rcases h4 hH hH4 with rfl | rfl | rfl | rfl <;> omega
theorem cell_inj {s H i l i' l' : Int} (hs : 1 ≤ s) (hs9 : s ≤ 9) (hH : 1 ≤ H) (hH4 : H ≤ 4) (i0 : -1 ≤ i) (i1 : i < s) (l0 : 0 ≤ l) (l1 : l < H) (i0' : -1 ≤ i') (i1' : i' < s) (l0' : 0 ≤ l') (l1' : l' < H) (e : cellN s H i l = cellN s H i' l') : i = i' ∧ l = l' := by
 rw [cell_eq hs hs9 hH hH4 i0 i1 l0 l1, cell_eq hs hs9 hH hH4 i0' i1' l0' l1'] at e
 rcases h4 hH hH4 with rfl | rfl | rfl | rfl <;> split at e <;> split at e <;> omega
theorem cell_key {s H i l j : Int} (hs : 1 ≤ s) (hs9 : s ≤ 9) (hH : 1 ≤ H) (hH4 : H ≤ 4) (i0 : -1 ≤ i) (i1 : i < s) (l0 : 0 ≤ l) (l1 : l < H) (j0 : 0 ≤ j) (j1 : j < s) : cellK s H j ≠ cellN s H i l := by
 rw [cell_eq hs hs9 hH hH4 i0 i1 l0 l1, key_eq hs hs9 hH hH4 j0 j1]
 rcases h4 hH hH4 with rfl | rfl | rfl | rfl <;> split <;> omega
theorem okL {s H : Int} (hs : 1 ≤ s) (hs9 : s ≤ 9) (hH : 1 ≤ H) (hH4 : H ≤ 4) : okT (9 + 2 * s + H) (9 + 2 * s) H s = true := decide_eq_true (by omega)
theorem who_cell {s H i l : Int} (hs : 1 ≤ s) (hs9 : s ≤ 9) (hH : 1 ≤ H) (hH4 : H ≤ 4) (i0 : -1 ≤ i) (i1 : i < s) (l0 : 0 ≤ l) (l1 : l < H) : whoT (9 + 2 * s + H) (9 + 2 * s) H s (cellN s H i l) = (i, 4 + l, true) := by
 rw [cell_eq hs hs9 hH hH4 i0 i1 l0 l1]
 unfold whoT
 rw [if_pos (okL hs hs9 hH hH4)]
 by_cases hi : i < 0
 · rw [if_pos hi, if_neg (by omega), if_pos (by omega)]
   have : i = -1 := by omega
   subst this
   have e : 9 + 2 * s + l - (9 + 2 * s) + 4 = 4 + l := by omega
   rw [e]
 · rw [if_neg hi, if_pos (by rcases h4 hH hH4 with rfl | rfl | rfl | rfl <;> omega)]
   have e1 : (9 + 2 * s + H + i * (4 + H) + 4 + l - (9 + 2 * s + H)) / (4 + H) = i := by rcases h4 hH hH4 with rfl | rfl | rfl | rfl <;> omega
   have e2 : (9 + 2 * s + H + i * (4 + H) + 4 + l - (9 + 2 * s + H)) % (4 + H) = 4 + l := by rcases h4 hH hH4 with rfl | rfl | rfl | rfl <;> omega
   rw [e1, e2]
theorem who_key {s H i : Int} (hs : 1 ≤ s) (hs9 : s ≤ 9) (hH : 1 ≤ H) (hH4 : H ≤ 4) (i0 : 0 ≤ i) (i1 : i < s) : whoT (9 + 2 * s + H) (9 + 2 * s) H s (cellK s H i) = (i, 0, true) := by
 rw [key_eq hs hs9 hH hH4 i0 i1]
 unfold whoT
 rw [if_pos (okL hs hs9 hH hH4), if_pos (by rcases h4 hH hH4 with rfl | rfl | rfl | rfl <;> omega)]
 have e1 : (9 + 2 * s + H + i * (4 + H) - (9 + 2 * s + H)) / (4 + H) = i := by rcases h4 hH hH4 with rfl | rfl | rfl | rfl <;> omega
 have e2 : (9 + 2 * s + H + i * (4 + H) - (9 + 2 * s + H)) % (4 + H) = 0 := by rcases h4 hH hH4 with rfl | rfl | rfl | rfl <;> omega
 rw [e1, e2]
theorem rf_rng {d : Int} (h : d ≤ 100) : 0 ≤ rfN d ∧ rfN d < 9223372036854775808 := by unfold rfN; split <;> omega
theorem rf_idx {s d : Int} (h0 : -1 ≤ d) (h1 : d < s) (hs : s ≤ 100) : idxW s (rfN d) = d := by
 unfold rfN idxW
 split
 · have : d = -1 := by omega
   subst this; rw [if_neg (by omega)]; omega
 · have e : (d + 1 + (d + 5) * 65536) % 65536 = d + 1 := by omega
   rw [e, if_neg (by omega)]; omega
theorem rf_inj {c d : Int} (hc : c ≤ 100) (hd : d ≤ 100) (c0 : -1 ≤ c) (d0 : -1 ≤ d) (e : rfN c = rfN d) : c = d := by
 unfold rfN at e; split at e <;> split at e <;> omega
theorem wd_top {i l : Int} (h : -1 ≤ nx i l ∧ nx i l ≤ 100) : (9223372036854775808 ≤ X.wd nx low i l ↔ X.mrk low i l) ∧ (¬ X.mrk low i l → X.wd nx low i l = rfN (nx i l)) ∧ (X.mrk low i l → X.wd nx low i l = rfN (nx i l) + 9223372036854775808) := by
 have := rf_rng h.2
 unfold wd
 by_cases e : X.mrk low i l
 · rw [if_pos e]; exact ⟨⟨fun _ => e, fun _ => by omega⟩, fun h => absurd e h, fun _ => rfl⟩
 · rw [if_neg e]; exact ⟨⟨fun _ => by omega, fun h => absurd h e⟩, fun _ => by omega, fun h => absurd h e⟩
end KL
theorem acc_word {M : MemSt} {k x w y : Int} {b : Bool} (h0 : 0 ≤ x) (h1 : x < M.W.length) (y0 : 0 ≤ y) : (M.acc k x w b).word y = if y = x then w else M.word y := by
 have e : M.acc k x w b = ⟨M.W.set x.toNat w, k, x, M.word x, w, b, (M.acc k x w b).N⟩ := by
  unfold MemSt.acc; rw [if_pos (show M.is x = true from decide_eq_true ⟨h0, h1⟩)]
 rw [e]
 show (M.W.set x.toNat w).getD y.toNat 0 = _
 rw [List.getD, List.getElem?_set]
 by_cases hy : y = x
 · subst hy; rw [if_pos rfl, if_pos (by omega), if_pos rfl]; rfl
 · rw [if_neg (by omega), if_neg hy]; rfl
theorem acc_in {M : MemSt} {k x w : Int} {b : Bool} (h0 : 0 ≤ x) (h1 : x < M.W.length) : (M.acc k x w b).k = k ∧ (M.acc k x w b).a = x ∧ (M.acc k x w b).o = M.word x ∧ (M.acc k x w b).n = w ∧ (M.acc k x w b).h = b ∧ (M.acc k x w b).W.length = M.W.length := by
 unfold MemSt.acc; rw [if_pos (show M.is x = true from decide_eq_true ⟨h0, h1⟩)]
 exact ⟨rfl, rfl, rfl, rfl, rfl, List.length_set⟩
theorem load_word {M : MemSt} {x y : Int} (h0 : 0 ≤ x) (h1 : x < M.W.length) (y0 : 0 ≤ y) : (M.load x).word y = M.word y := by
 unfold MemSt.load; rw [acc_word h0 h1 y0]; split
 · rename_i e; rw [e]
 · rfl
namespace FS
def lv : FS → Int
 | .one l _ => l
 | .two l _ _ => l
 | .three l _ _ _ => l
 | .four l _ _ _ => l
 | .over => -1
end FS
namespace KL
variable {X : KL} {key : Int} {nx : Int → Int → Int} {low : Int → Int}
def LvOk (X : KL) (key : Int) (P S K : List Int) (j : Int) : Prop := ∃ p c, P[j.toNat]?.getD 0 = p ∧ K[j.toNat]?.getD 0 = rfN p ∧ S[j.toNat]?.getD 0 = rfN c ∧ -1 ≤ p ∧ p < X.n ∧ (0 ≤ p → X.keys p < key) ∧ -1 ≤ c ∧ c < X.n ∧ (0 ≤ c → key ≤ X.keys c)
structure Base (X : KL) (key : Int) (F : FindSt) (lv : Int) : Prop where
 t : F.t = twL X.sz X.H
 k : F.key = key
 P : (F.P.length : Int) = X.H
 S : (F.S.length : Int) = X.H
 K : (F.K.length : Int) = X.H
 lvs : ∀ j, lv < j → 0 ≤ j → j < X.H → X.LvOk key F.P F.S F.K j
def Line (F : FindSt) : FS → Prop
 | .one l p => F.line = 1 ∧ F.l = l ∧ F.pred = p ∧ F.ref = rfN p
 | .two l p c => F.line = 2 ∧ F.l = l ∧ F.pred = p ∧ F.ref = rfN p ∧ F.cur = rfN c
 | .three l p c d => F.line = 3 ∧ F.l = l ∧ F.pred = p ∧ F.ref = rfN p ∧ F.cur = rfN c ∧ F.w = rfN d + 9223372036854775808
 | .four l p c d => F.line = 4 ∧ F.l = l ∧ F.pred = p ∧ F.ref = rfN p ∧ F.cur = rfN c ∧ F.w = rfN d
 | .over => F.line = 9
def FRep (X : KL) (key : Int) (F : FindSt) (s : FS) : Prop := X.Base key F s.lv ∧ Line F s
theorem set_get {L : List Int} {i j x : Int} (i0 : 0 ≤ i) (i1 : i < L.length) (j0 : 0 ≤ j) : (L.set i.toNat x)[j.toNat]?.getD 0 = if j = i then x else L[j.toNat]?.getD 0 := by
 rw [List.getElem?_set]
 by_cases e : j = i
 · subst e; rw [if_pos rfl, if_pos (by omega), if_pos rfl]; rfl
 · rw [if_neg (by omega), if_neg e]
theorem rep_done {F : FindSt} {l p c r : Int} (hB : X.Base key F l) (hl : F.l = l) (hp : F.pred = p) (hr : F.ref = rfN p) (hc : F.cur = rfN c) (hg : X.rng key l p) (c0 : -1 ≤ c) (c1 : c < X.n) (hk : 0 ≤ c → key ≤ X.keys c) : X.FRep key (F.done r) (FS.dn l p) := by
 obtain ⟨g1, g2, g3, g4, g5⟩ := hg
 have hlv : ∀ j, l - 1 < j → 0 ≤ j → j < X.H → X.LvOk key (F.P.set F.l.toNat F.pred) (F.S.set F.l.toNat F.cur) (F.K.set F.l.toNat F.ref) j := by
  intro j j0 j1 j2
  have a := set_get (L := F.P) (i := F.l) (j := j) (x := F.pred) (by omega) (by have := hB.P; omega) j1
  have b := set_get (L := F.S) (i := F.l) (j := j) (x := F.cur) (by omega) (by have := hB.S; omega) j1
  have d := set_get (L := F.K) (i := F.l) (j := j) (x := F.ref) (by omega) (by have := hB.K; omega) j1
  by_cases e : j = F.l
  · rw [if_pos e] at a b d
    exact ⟨p, c, by rw [a, hp], by rw [d, hr], by rw [b, hc], g3, g4, fun h => (g5 h).2, c0, c1, hk⟩
  · rw [if_neg e] at a b d
    obtain ⟨p', c', q1, q2, q3, q4⟩ := hB.lvs j (by omega) j1 j2
    exact ⟨p', c', by rw [a, q1], by rw [d, q2], by rw [b, q3], q4⟩
 unfold FindSt.done FS.dn
 rw [hl]
 split
 · rename_i e
   rw [hl] at hlv
   exact ⟨⟨hB.t, hB.k, by rw [← hB.P]; simp, by rw [← hB.S]; simp, by rw [← hB.K]; simp, fun j j0 j1 j2 => hlv j (by omega) j1 j2⟩, rfl⟩
 · rw [hl] at hlv
   exact ⟨⟨hB.t, hB.k, by rw [← hB.P]; simp, by rw [← hB.S]; simp, by rw [← hB.K]; simp, hlv⟩, rfl, rfl, hp, hr⟩
theorem rep_looks (h : X.ok) {F : FindSt} {l p c r : Int} (hB : X.Base key F l) (hl : F.l = l) (hp : F.pred = p) (hr : F.ref = rfN p) (hc : F.cur = rfN c) (hg : X.rng key l p) (hn : c = -1 ∨ X.nod l p c) : X.FRep key (F.looks r) (FS.looks l p c) := by
 have hz := sz_le h
 have c0 : -1 ≤ c ∧ c < X.n := by
  rcases hn with e | e
  · have := h.n0; omega
  · have := e.2.1; have := e.2.2.1; omega
 have ea : F.a 5 = X.sz := by unfold FindSt.a; rw [hB.t]; rfl
 have e : F.ix = c := by unfold FindSt.ix; rw [ea, hc, rf_idx c0.1 (by omega) (by omega)]
 unfold FindSt.looks FS.looks
 rw [e]
 split
 · exact rep_done hB hl hp hr hc hg c0.1 c0.2 (fun h => by omega)
 · exact ⟨⟨hB.t, hB.k, hB.P, hB.S, hB.K, hB.lvs⟩, rfl, hl, hp, hr, hc⟩
theorem rep_anew {F : FindSt} {l r : Int} (hB : X.Base key F l) : X.FRep key (F.anew r) X.anew := by
 have ea : F.a 2 = X.H := by unfold FindSt.a; rw [hB.t]; rfl
 refine ⟨⟨hB.t, hB.k, hB.P, hB.S, hB.K, fun j j0 _ j2 => ?_⟩, rfl, ?_, rfl, rfl⟩
 · have : X.H - 1 < j := j0
   omega
 · show F.a 2 - 1 = _; rw [ea]
structure Seen (X : KL) (r : Int) (M : MemSt) : Prop where
 who : ∃ i pt, whoT (9 + 2 * X.sz + X.H) (9 + 2 * X.sz) X.H X.sz M.a = (i, pt, true) ∧ (-1 ≤ i ∧ i < X.n ∧ 0 ≤ pt ∧ pt ≤ 8) ∧ (i < 0 → r = 0) ∧ (0 ≤ i → r = rfN i) ∧
  (M.h = true → ∃ c, 0 ≤ c ∧ c < X.n ∧ M.o = rfN c ∧ 4 ≤ pt ∧ pt - 4 < X.H ∧ 9223372036854775808 ≤ M.word (cellN X.sz X.H c (pt - 4)) ∧ M.word (cellN X.sz X.H c (pt - 4)) < 18446744073709551616 ∧ M.n = M.word (cellN X.sz X.H c (pt - 4)) - 9223372036854775808)
 kind : M.k = 1 ∨ M.k = 3
theorem rf_r {i : Int} : (i < 0 → rfN i = 0) ∧ (0 ≤ i → rfN i = rfN i) := ⟨fun h => if_pos h, fun _ => rfl⟩
theorem rep_load {M : MemSt} (hM : X.Rep nx low M) {x : Int} (h0 : 0 ≤ x) (h1 : x < M.W.length) (h : X.ok) : X.Rep nx low (M.load x) := by
 have hz := sz_le h
 refine ⟨by rw [← hM.len]; exact congrArg _ (acc_in h0 h1).2.2.2.2.2, fun i l i0 i1 l0 l1 => ?_, fun i i0 i1 => ?_⟩
 · rw [load_word h0 h1 (cell_rng (by omega) (by omega) h.H1 h.H4 i0 (by omega) l0 l1).1]; exact hM.wds i l i0 i1 l0 l1
 · rw [load_word h0 h1 (key_rng (by omega) (by omega) h.H1 h.H4 i0 (by omega)).1]; exact hM.kys i i0 i1
theorem nx_rng (hI : X.Inv nx low) (h : X.ok) {i l : Int} (i0 : -1 ≤ i) (i1 : i < X.n) (l0 : 0 ≤ l) (l1 : l < X.H) : -1 ≤ nx i l ∧ nx i l < X.n := by
 have := h.n0
 rcases hI.ptr i l i0 i1 l0 l1 with e | e <;> omega
theorem cas_yes {M : MemSt} {x y z : Int} (h0 : 0 ≤ x) (h1 : x < M.W.length) (e : M.word x = y) : M.cas x y z = M.acc 3 x z true := if_pos e
theorem cas_no {M : MemSt} {x y z : Int} (e : ¬ M.word x = y) : M.cas x y z = M.acc 3 x (M.word x) false := if_neg e
theorem step_rep (h : X.ok) (hI : X.Inv nx low) {M : MemSt} (hM : X.Rep nx low M) {F : FindSt} : ∀ {s : FS}, X.At key nx low s → s ≠ .over → X.FRep key F s →
 X.FRep key (F.step M).1 (X.step key nx low s).1 ∧ X.Rep (X.step key nx low s).2 low (F.step M).2 ∧ X.Seen (F.step M).1.r (F.step M).2
 | .one l p, hs, _, ⟨hB, e1, e2, e3, e4⟩ => by
   have hz := sz_le h
   obtain ⟨g1, g2, g3, g4, g5⟩ := id hs
   have ea : F.at_ = cellN X.sz X.H p l := by
    unfold FindSt.at_; rw [if_pos (.inl e1)]; unfold FindSt.nx FindSt.a; rw [hB.t, e2, e3]; rfl
   have hr := cell_rng (s := X.sz) (H := X.H) (i := p) (l := l) (by omega) (by omega) h.H1 h.H4 g3 (by omega) g1 g2
   have hx : F.at_ < M.W.length := by rw [ea, hM.len]; exact hr.2
   have hx0 : 0 ≤ F.at_ := by rw [ea]; exact hr.1
   have en : (M.load F.at_).n = X.wd nx low p l := by rw [show (M.load F.at_).n = M.word F.at_ from (acc_in hx0 hx).2.2.2.1, ea]; exact hM.wds p l g3 g4 g1 g2
   have hN := nx_rng hI h g3 g4 g1 g2
   obtain ⟨w1, w2, w3⟩ := wd_top (X := X) (nx := nx) (low := low) (i := p) (l := l) ⟨hN.1, by have := h.n9; omega⟩
   have es : F.step M = (if 9223372036854775808 ≤ (M.load F.at_).n then F.anew F.ref else FindSt.looks ⟨F.t, F.key, 1, F.l, F.pred, F.ref, (M.load F.at_).n, 0, F.P, F.S, F.K, 0⟩ F.ref, M.load F.at_) := by unfold FindSt.step; rw [if_pos e1]
   have hrr : (F.step M).1.r = rfN p := by
    rw [es]; show FindSt.r (if _ then _ else _) = _
    split
    · exact e4
    · show FindSt.r (if _ then FindSt.done _ _ else _) = _
      split
      · show FindSt.r (if _ then _ else _) = _; split <;> exact e4
      · exact e4
   refine ⟨?_, by rw [es]; exact rep_load hM hx0 hx h, ?_⟩
   · rw [es]
     show X.FRep key (if _ then _ else _) (if _ then _ else _)
     by_cases m : X.mrk low p l
     · rw [if_pos m, if_pos (by rw [en]; exact w1.2 m)]; exact rep_anew hB
     · rw [if_neg m, if_neg (by rw [en]; exact fun h => m (w1.1 h))]
       refine rep_looks h (F := ⟨F.t, F.key, 1, F.l, F.pred, F.ref, (M.load F.at_).n, 0, F.P, F.S, F.K, 0⟩) ⟨hB.t, hB.k, hB.P, hB.S, hB.K, hB.lvs⟩ e2 e3 e4 (by show (M.load F.at_).n = _; rw [en]; exact w2 m) hs (ptr_nod hI hs)
   · rw [hrr, es]
     have k := acc_in (M := M) (k := 1) (w := M.word F.at_) (b := false) hx0 hx
     refine ⟨⟨p, 4 + l, ?_, ⟨g3, g4, by omega, by have := h.H4; omega⟩, rf_r.1, rf_r.2, fun hh => ?_⟩, .inl k.1⟩
     · show whoT _ _ _ _ (M.load F.at_).a = _
       rw [show (M.load F.at_).a = F.at_ from k.2.1, ea]; exact who_cell (by omega) (by omega) h.H1 h.H4 g3 (by omega) g1 g2
     · have : (M.load F.at_).h = true := hh
       rw [show (M.load F.at_).h = false from k.2.2.2.2.1] at this; cases this
 | .two l p c, ⟨hs, hn⟩, _, ⟨hB, e1, e2, e3, e4, e5⟩ => by
   have hz := sz_le h
   obtain ⟨g1, g2, g3, g4, g5⟩ := id hs
   obtain ⟨n1, n2, n3, n4⟩ := id hn
   have ix : F.ix = c := by
    unfold FindSt.ix; rw [e5, show F.a 5 = X.sz by unfold FindSt.a; rw [hB.t]; rfl, rf_idx (by omega) (by omega) (by omega)]
   have ea : F.at_ = cellN X.sz X.H c l := by
    unfold FindSt.at_; rw [if_neg (by omega), if_pos e1, ix]; unfold FindSt.nx FindSt.a; rw [hB.t, e2]; rfl
   have hr := cell_rng (s := X.sz) (H := X.H) (i := c) (l := l) (by omega) (by omega) h.H1 h.H4 (by omega) (by omega) g1 g2
   have hx : F.at_ < M.W.length := by rw [ea, hM.len]; exact hr.2
   have hx0 : 0 ≤ F.at_ := by rw [ea]; exact hr.1
   have en : (M.load F.at_).n = X.wd nx low c l := by rw [show (M.load F.at_).n = M.word F.at_ from (acc_in hx0 hx).2.2.2.1, ea]; exact hM.wds c l (by omega) n3 g1 g2
   have hN := nx_rng hI h (i := c) (l := l) (by omega) n3 g1 g2
   obtain ⟨w1, w2, w3⟩ := wd_top (X := X) (nx := nx) (low := low) (i := c) (l := l) ⟨hN.1, by have := h.n9; omega⟩
   have es : F.step M = (⟨F.t, F.key, if 9223372036854775808 ≤ (M.load F.at_).n then 3 else 4, F.l, F.pred, F.ref, F.cur, (M.load F.at_).n, F.P, F.S, F.K, F.cur⟩, M.load F.at_) := by
    unfold FindSt.step; rw [if_neg (by omega), if_pos e1]
   refine ⟨?_, by rw [es]; exact rep_load hM hx0 hx h, ?_⟩
   · rw [es]
     show X.FRep key _ (if _ then _ else _)
     by_cases m : X.mrk low c l
     · rw [if_pos m, if_pos (by rw [en]; exact w1.2 m)]
       exact ⟨⟨hB.t, hB.k, hB.P, hB.S, hB.K, hB.lvs⟩, rfl, e2, e3, e4, e5, by show (M.load F.at_).n = _; rw [en]; exact w3 m⟩
     · rw [if_neg m, if_neg (by rw [en]; exact fun h => m (w1.1 h))]
       exact ⟨⟨hB.t, hB.k, hB.P, hB.S, hB.K, hB.lvs⟩, rfl, e2, e3, e4, e5, by show (M.load F.at_).n = _; rw [en]; exact w2 m⟩
   · rw [es]
     have k := acc_in (M := M) (k := 1) (w := M.word F.at_) (b := false) hx0 hx
     refine ⟨⟨c, 4 + l, ?_, ⟨by omega, n3, by omega, by have := h.H4; omega⟩, fun _ => by omega, fun _ => e5, fun hh => ?_⟩, .inl k.1⟩
     · show whoT _ _ _ _ (M.load F.at_).a = _
       rw [show (M.load F.at_).a = F.at_ from k.2.1, ea]; exact who_cell (by omega) (by omega) h.H1 h.H4 (by omega) (by omega) g1 g2
     · have : (M.load F.at_).h = true := hh
       rw [show (M.load F.at_).h = false from k.2.2.2.2.1] at this; cases this
 | .three l p c d, ⟨hs, hn, hd, hlo⟩, _, ⟨hB, e1, e2, e3, e4, e5, e6⟩ => by
   have hz := sz_le h
   obtain ⟨g1, g2, g3, g4, g5⟩ := id hs
   obtain ⟨n1, n2, n3, n4⟩ := id hn
   have ea : F.at_ = cellN X.sz X.H p l := by
    unfold FindSt.at_; rw [if_pos (.inr e1)]; unfold FindSt.nx FindSt.a; rw [hB.t, e2, e3]; rfl
   have hr := cell_rng (s := X.sz) (H := X.H) (i := p) (l := l) (by omega) (by omega) h.H1 h.H4 g3 (by omega) g1 g2
   have hx : F.at_ < M.W.length := by rw [ea, hM.len]; exact hr.2
   have hx0 : 0 ≤ F.at_ := by rw [ea]; exact hr.1
   have en : M.word F.at_ = X.wd nx low p l := by rw [ea]; exact hM.wds p l g3 g4 g1 g2
   have hN := nx_rng hI h g3 g4 g1 g2
   have hD := nx_rng hI h (i := c) (l := l) (by omega) n3 g1 g2
   obtain ⟨w1, w2, w3⟩ := wd_top (X := X) (nx := nx) (low := low) (i := p) (l := l) ⟨hN.1, by have := h.n9; omega⟩
   have hdr := rf_rng (d := d) (by have := h.n9; omega)
   have hcr := rf_rng (d := c) (by have := h.n9; omega)
   have ew : F.w % 9223372036854775808 = rfN d := by rw [e6]; omega
   have es : F.step M = (if (M.cas F.at_ F.cur (F.w % 9223372036854775808)).h = true then FindSt.looks ⟨F.t, F.key, 1, F.l, F.pred, F.ref, F.w % 9223372036854775808, 0, F.P, F.S, F.K, 0⟩ F.ref else F.anew F.ref, M.cas F.at_ F.cur (F.w % 9223372036854775808)) := by
    unfold FindSt.step; rw [if_neg (by omega), if_neg (by omega), if_pos e1]
   have hrr : (F.step M).1.r = rfN p := by
    rw [es]; show FindSt.r (if _ then _ else _) = _
    split
    · show FindSt.r (if _ then FindSt.done _ _ else _) = _
      split
      · show FindSt.r (if _ then _ else _) = _; split <;> exact e4
      · exact e4
    · exact e4
   have hcond : M.word F.at_ = F.cur ↔ nx p l = c ∧ ¬ X.mrk low p l := by
    rw [en, e5]
    constructor
    · intro e
      by_cases m : X.mrk low p l
      · have := w1.2 m; omega
      · rw [w2 m] at e
        exact ⟨rf_inj (by have := h.n9; omega) (by have := h.n9; omega) hN.1 (by omega) e, m⟩
    · rintro ⟨e, m⟩; rw [w2 m, e]
   have mc : X.mrk low c l := ⟨n2, hlo, by have := (h.nd c n2 n3).2.1; omega⟩
   have hcc : M.word (cellN X.sz X.H c l) = rfN d + 9223372036854775808 := by
    rw [hM.wds c l (by omega) n3 g1 g2]
    rw [(wd_top (X := X) (nx := nx) (low := low) (i := c) (l := l) ⟨hD.1, by have := h.n9; omega⟩).2.2 mc, hd]
   have hne : cellN X.sz X.H c l ≠ F.at_ := by
    rw [ea]; intro e
    have := (cell_inj (by omega) (by omega) h.H1 h.H4 (by omega) (by omega) g1 g2 g3 (by omega) g1 g2 e).1
    omega
   by_cases m : nx p l = c ∧ ¬ X.mrk low p l
   · have ec := cas_yes (M := M) (z := F.w % 9223372036854775808) hx0 hx (hcond.2 m)
     have k := acc_in (M := M) (k := 3) (w := F.w % 9223372036854775808) (b := true) hx0 hx
     rw [← ec] at k
     refine ⟨?_, ?_, ?_⟩
     · rw [es]
       show X.FRep key (if _ then _ else _) (if _ then _ else _ : FS × _).1
       rw [if_pos m, if_pos k.2.2.2.2.1]
       refine rep_looks h (F := ⟨F.t, F.key, 1, F.l, F.pred, F.ref, F.w % 9223372036854775808, 0, F.P, F.S, F.K, 0⟩) ⟨hB.t, hB.k, hB.P, hB.S, hB.K, hB.lvs⟩ e2 e3 e4 ew hs ?_
       rcases hI.ptr c l (by omega) n3 g1 g2 with e | e
       · exact .inl (by omega)
       · rw [hd] at e; exact .inr ⟨by omega, e.2⟩
     · rw [es]
       show X.Rep (if _ then _ else _ : FS × (Int → Int → Int)).2 low (M.cas F.at_ F.cur (F.w % 9223372036854775808))
       rw [if_pos m]
       refine ⟨by rw [k.2.2.2.2.2]; exact hM.len, fun i j i0 i1 j0 j1 => ?_, fun i i0 i1 => ?_⟩
       · have hr' := cell_rng (s := X.sz) (H := X.H) (i := i) (l := j) (by omega) (by omega) h.H1 h.H4 i0 (by omega) j0 j1
         rw [ec, acc_word hx0 hx hr'.1]
         split
         · rename_i e
           rw [ea] at e
           obtain ⟨rfl, rfl⟩ := cell_inj (by omega) (by omega) h.H1 h.H4 i0 (by omega) j0 j1 g3 (by omega) g1 g2 e
           rw [ew]
           show _ = rfN (upd nx i j d i j) + (if X.mrk low i j then _ else _)
           rw [if_neg m.2, show upd nx i j d i j = d from if_pos ⟨rfl, rfl⟩]; omega
         · rename_i e
           rw [hM.wds i j i0 i1 j0 j1]
           show _ = rfN (upd nx p l d i j) + _
           rw [show upd nx p l d i j = nx i j from if_neg (by rintro ⟨rfl, rfl⟩; exact e ea.symm)]
           rfl
       · have hr' := key_rng (s := X.sz) (H := X.H) (i := i) (by omega) (by omega) h.H1 h.H4 i0 (by omega)
         rw [ec, acc_word hx0 hx hr'.1, if_neg]
         · exact hM.kys i i0 i1
         · rw [ea]; exact cell_key (by omega) (by omega) h.H1 h.H4 g3 (by omega) g1 g2 i0 (by omega)
     · rw [hrr, es]
       show X.Seen _ (M.cas F.at_ F.cur (F.w % 9223372036854775808))
       refine ⟨⟨p, 4 + l, ?_, ⟨g3, g4, by omega, by have := h.H4; omega⟩, rf_r.1, rf_r.2, fun _ => ⟨c, n2, n3, ?_, by omega, by omega, ?_⟩⟩, .inr k.1⟩
       · rw [k.2.1, ea]; exact who_cell (by omega) (by omega) h.H1 h.H4 g3 (by omega) g1 g2
       · rw [k.2.2.1, hcond.2 m, e5]
       · have e4l : 4 + l - 4 = l := by omega
         rw [e4l]
         have hw : (M.cas F.at_ F.cur (F.w % 9223372036854775808)).word (cellN X.sz X.H c l) = rfN d + 9223372036854775808 := by
          rw [ec, acc_word hx0 hx (cell_rng (by omega) (by omega) h.H1 h.H4 (by omega) (by omega) g1 g2).1, if_neg hne, hcc]
         rw [hw, k.2.2.2.1, ew]
         exact ⟨by omega, by omega, by omega⟩
   · have ec := cas_no (M := M) (z := F.w % 9223372036854775808) (fun e => m (hcond.1 e))
     have k := acc_in (M := M) (k := 3) (w := M.word F.at_) (b := false) hx0 hx
     rw [← ec] at k
     refine ⟨?_, ?_, ?_⟩
     · rw [es]
       show X.FRep key (if _ then _ else _) (if _ then _ else _ : FS × _).1
       rw [if_neg m, if_neg (by rw [k.2.2.2.2.1]; decide)]
       exact rep_anew hB
     · rw [es]
       show X.Rep (if _ then _ else _ : FS × (Int → Int → Int)).2 low (M.cas F.at_ F.cur (F.w % 9223372036854775808))
       rw [if_neg m]
       refine ⟨by rw [k.2.2.2.2.2]; exact hM.len, fun i j i0 i1 j0 j1 => ?_, fun i i0 i1 => ?_⟩
       · have hr' := cell_rng (s := X.sz) (H := X.H) (i := i) (l := j) (by omega) (by omega) h.H1 h.H4 i0 (by omega) j0 j1
         rw [ec, acc_word hx0 hx hr'.1]
         split
         · rename_i e; rw [← e]; exact hM.wds i j i0 i1 j0 j1
         · exact hM.wds i j i0 i1 j0 j1
       · have hr' := key_rng (s := X.sz) (H := X.H) (i := i) (by omega) (by omega) h.H1 h.H4 i0 (by omega)
         rw [ec, acc_word hx0 hx hr'.1]
         split
         · rename_i e; rw [← e]; exact hM.kys i i0 i1
         · exact hM.kys i i0 i1
     · rw [hrr, es]
       show X.Seen _ (M.cas F.at_ F.cur (F.w % 9223372036854775808))
       refine ⟨⟨p, 4 + l, ?_, ⟨g3, g4, by omega, by have := h.H4; omega⟩, rf_r.1, rf_r.2, fun hh => ?_⟩, .inr k.1⟩
       · rw [k.2.1, ea]; exact who_cell (by omega) (by omega) h.H1 h.H4 g3 (by omega) g1 g2
       · rw [k.2.2.2.2.1] at hh; cases hh
 | .four l p c d, ⟨hs, hn, hd⟩, _, ⟨hB, e1, e2, e3, e4, e5, e6⟩ => by
   have hz := sz_le h
   obtain ⟨g1, g2, g3, g4, g5⟩ := id hs
   obtain ⟨n1, n2, n3, n4⟩ := id hn
   have ix : F.ix = c := by
    unfold FindSt.ix; rw [e5, show F.a 5 = X.sz by unfold FindSt.a; rw [hB.t]; rfl, rf_idx (by omega) (by omega) (by omega)]
   have ea : F.at_ = cellK X.sz X.H c := by
    unfold FindSt.at_; rw [if_neg (by omega), if_neg (by omega), ix]; unfold FindSt.a; rw [hB.t]; rfl
   have hr := key_rng (s := X.sz) (H := X.H) (i := c) (by omega) (by omega) h.H1 h.H4 n2 (by omega)
   have hx : F.at_ < M.W.length := by rw [ea, hM.len]; exact hr.2
   have hx0 : 0 ≤ F.at_ := by rw [ea]; exact hr.1
   have en : (M.load F.at_).n = X.keys c := by rw [show (M.load F.at_).n = M.word F.at_ from (acc_in hx0 hx).2.2.2.1, ea]; exact hM.kys c n2 n3
   have es : F.step M = (if (M.load F.at_).n < F.key then FindSt.looks ⟨F.t, F.key, 1, F.l, F.ix, F.cur, F.w, 0, F.P, F.S, F.K, 0⟩ F.cur else F.done F.cur, M.load F.at_) := by
    unfold FindSt.step; rw [if_neg (by omega), if_neg (by omega), if_neg (by omega), if_pos e1]
   have hrr : (F.step M).1.r = rfN c := by
    rw [es]; show FindSt.r (if _ then _ else _) = _
    split
    · show FindSt.r (if _ then FindSt.done _ _ else _) = _
      split
      · show FindSt.r (if _ then _ else _) = _; split <;> exact e5
      · exact e5
    · show FindSt.r (if _ then _ else _) = _; split <;> exact e5
   refine ⟨?_, by rw [es]; exact rep_load hM hx0 hx h, ?_⟩
   · rw [es]
     show X.FRep key (if _ then _ else _) (if _ then _ else _)
     rw [en, hB.k]
     by_cases m : X.keys c < key
     · rw [if_pos m, if_pos m]
       exact rep_looks (l := l) h (F := ⟨F.t, key, 1, F.l, F.ix, F.cur, F.w, 0, F.P, F.S, F.K, 0⟩) ⟨hB.t, rfl, hB.P, hB.S, hB.K, hB.lvs⟩ e2 ix e5 e6 (rng_nod hs hn m) hd
     · rw [if_neg m, if_neg m]
       exact rep_done hB e2 e3 e4 e5 hs (by omega) n3 (fun _ => by omega)
   · rw [hrr, es]
     have k := acc_in (M := M) (k := 1) (w := M.word F.at_) (b := false) hx0 hx
     refine ⟨⟨c, 0, ?_, ⟨by omega, n3, by omega, by omega⟩, fun _ => by omega, fun _ => rfl, fun hh => ?_⟩, .inl k.1⟩
     · show whoT _ _ _ _ (M.load F.at_).a = _
       rw [show (M.load F.at_).a = F.at_ from k.2.1, ea]; exact who_key (by omega) (by omega) h.H1 h.H4 n2 (by omega)
     · have : (M.load F.at_).h = true := hh
       rw [show (M.load F.at_).h = false from k.2.2.2.2.1] at this; cases this
end KL
def upN : Nat → Int → List Int
 | 0, _ => []
 | k + 1, a => a :: upN k (a + 1)
theorem upN_mem {x : Int} : ∀ {k : Nat} {a : Int}, x ∈ upN k a ↔ a ≤ x ∧ x < a + k := by
 intro k
 induction k with
 | zero => intro a; exact ⟨fun h => (nomatch h), fun h => (by omega)⟩
 | succ k ih =>
   intro a
   rw [upN, List.mem_cons, ih]
   constructor
   · intro h; rcases h with h | h <;> omega
   · intro h
     by_cases e : x = a
     · exact .inl e
     · exact .inr (by omega)
theorem upN_skip {g : Int → Bool} : ∀ {j k : Nat} {a : Int}, (∀ x, a ≤ x → x < a + j → g x = false) → (upN (j + k) a).filter g = (upN k (a + j)).filter g
 | 0, k, a, _ => by rw [Nat.zero_add]; congr 2; omega
 | j + 1, k, a, h => by
   have e : j + 1 + k = (j + k) + 1 := by omega
   rw [e, upN, List.filter_cons_of_neg (by rw [h a (by omega) (by omega)]; decide), upN_skip (fun x h0 h1 => h x (by omega) (by omega))]
   congr 2; omega
theorem upN_none {g : Int → Bool} {k : Nat} {a : Int} (h : ∀ x, a ≤ x → x < a + k → g x = false) : (upN k a).filter g = [] := by
 rw [List.filter_eq_nil_iff]
 intro x hx
 have := upN_mem.1 hx
 rw [h x this.1 this.2]; decide
namespace KL
variable {X : KL} {key : Int} {nx : Int → Int → Int} {low : Int → Int}
def liveL (X : KL) (low : Int → Int) : List Int := (upN X.n.toNat 0).filter fun i => decide ¬ X.mrk low i 0
theorem at0_word {M : MemSt} {x : Int} (h0 : 0 ≤ x) (h1 : x < M.W.length) : M.at0 x = M.word x := if_pos ⟨h0, h1⟩
theorem idx_wd {s i l : Int} (h0 : -1 ≤ nx i l) (h1 : nx i l < s) (hs : s ≤ 100) : idxW s (X.wd nx low i l) = nx i l := by
 have e := rf_idx h0 h1 hs
 unfold wd
 split
 · unfold idxW at e ⊢
   have : (rfN (nx i l) + 9223372036854775808) % 65536 = rfN (nx i l) % 65536 := by omega
   rw [this]; exact e
 · rw [Int.add_zero]; exact e
theorem rep_at0 (h : X.ok) {M : MemSt} (hM : X.Rep nx low M) {i l : Int} (i0 : -1 ≤ i) (i1 : i < X.n) (l0 : 0 ≤ l) (l1 : l < X.H) : M.at0 (nextT (9 + 2 * X.sz + X.H) (9 + 2 * X.sz) X.H X.sz i l) = X.wd nx low i l := by
 have hz := sz_le h
 have hr := cell_rng (s := X.sz) (H := X.H) (i := i) (l := l) (by omega) (by omega) h.H1 h.H4 i0 (by omega) l0 l1
 rw [show nextT (9 + 2 * X.sz + X.H) (9 + 2 * X.sz) X.H X.sz i l = cellN X.sz X.H i l from rfl, at0_word hr.1 (by rw [hM.len]; exact hr.2)]
 exact hM.wds i l i0 i1 l0 l1
theorem goes_eq (h : X.ok) (hI : X.Inv nx low) {M : MemSt} (hM : X.Rep nx low M) {i : Int} (i0 : 0 ≤ i) (i1 : i < X.n) : goesT M (9 + 2 * X.sz + X.H) (9 + 2 * X.sz) X.H X.sz i = decide ¬ X.mrk low i 0 := by
 have H1 := h.H1
 have hN := nx_rng hI h (i := i) (l := 0) (by omega) i1 (by omega) (by omega)
 have hr := rf_rng (d := nx i 0) (by have := h.n9; omega)
 unfold goesT
 rw [rep_at0 h hM (by omega) i1 (by omega) (by omega)]
 obtain ⟨w1, w2, w3⟩ := wd_top (X := X) (nx := nx) (low := low) (i := i) (l := 0) ⟨hN.1, by have := h.n9; omega⟩
 by_cases m : X.mrk low i 0
 · rw [w3 m, decide_eq_false (by omega), decide_eq_false (fun e => e m)]
 · rw [w2 m, decide_eq_true (by omega), decide_eq_true m]
theorem live_go (h : X.ok) (hI : X.Inv nx low) {M : MemSt} (hM : X.Rep nx low M) : ∀ (k : Nat) (p : Int), -1 ≤ p → p < X.n → X.n - 1 - p ≤ k →
 (levelK M (9 + 2 * X.sz + X.H) (9 + 2 * X.sz) X.H X.sz 0 k (nx p 0)).filter (goesT M (9 + 2 * X.sz + X.H) (9 + 2 * X.sz) X.H X.sz) = (upN (X.n - 1 - p).toNat (p + 1)).filter fun i => decide ¬ X.mrk low i 0
 | 0, p, p0, p1, hk => by
   have : (X.n - 1 - p).toNat = 0 := by omega
   rw [this]; rfl
 | k + 1, p, p0, p1, hk => by
   have H1 := h.H1
   have hz := sz_le h
   have hg : ∀ x, p < x → 0 ≤ x → x < X.n → (nx p 0 = -1 ∨ x < nx p 0) → (decide ¬ X.mrk low x 0) = false := fun x x0 x1 x2 x3 => by
    have hx := h.nd x x1 x2
    have hlo := hI.lo x x1 x2
    have := hI.gap p 0 x p0 p1 (by omega) (by omega) (fun e => by have := (h.nd p e p1).1; omega) x0 x1 x2 x3 (by omega)
    exact decide_eq_false (fun e => e ⟨x1, this, by omega⟩)
   rcases hI.ptr p 0 p0 p1 (by omega) (by omega) with e | ⟨e1, e2, e3, e4⟩
   · rw [levelK, if_pos (by omega)]
     rw [upN_none (fun x x0 x1 => hg x (by omega) (by omega) (by omega) (.inl e))]; rfl
   · have ih := live_go h hI hM k (nx p 0) (by omega) e3 (by omega)
     have hN := nx_rng hI h (i := nx p 0) (l := 0) (by omega) e3 (by omega) (by omega)
     rw [levelK, if_neg (by omega), rep_at0 h hM (by omega) e3 (by omega) (by omega), idx_wd hN.1 (by omega) (by omega)]
     have ek : (X.n - 1 - p).toNat = (nx p 0 - p - 1).toNat + ((X.n - 1 - nx p 0).toNat + 1) := by omega
     rw [ek, upN_skip (fun x x0 x1 => hg x (by omega) (by omega) (by omega) (.inr (by omega)))]
     have ea : p + 1 + ((nx p 0 - p - 1).toNat : Int) = nx p 0 := by omega
     rw [ea, upN, List.filter_cons, List.filter_cons, ih, goes_eq h hI hM e2 e3]
theorem live_eq (h : X.ok) (hI : X.Inv nx low) {M : MemSt} (hM : X.Rep nx low M) : liveT M (9 + 2 * X.sz + X.H) (9 + 2 * X.sz) X.H X.sz = X.liveL low := by
 have H1 := h.H1; have n0 := h.n0
 have hz := sz_le h
 have hr := cell_rng (s := X.sz) (H := X.H) (i := -1) (l := 0) (by omega) (by omega) h.H1 h.H4 (by omega) (by omega) (by omega) (by omega)
 have hN := nx_rng hI h (i := -1) (l := 0) (by omega) (by omega) (by omega) (by omega)
 unfold liveT levelT
 rw [if_neg (by have := hr.1; unfold cellN at this; omega), rep_at0 h hM (by omega) (by omega) (by omega) (by omega), idx_wd hN.1 (by omega) (by omega)]
 rw [live_go h hI hM X.sz.toNat (-1) (by omega) (by omega) (by omega)]
 unfold liveL
 have e : X.n - 1 - -1 = X.n := by omega
 rw [e]; rfl
theorem rep_lower (h : X.ok) (hI : X.Inv nx low) {M M' : MemSt} (hM : X.Rep nx low M) {i : Int} (i0 : 0 ≤ i) (i1 : i < X.n) (hi : 0 < low i) (hl : M'.W.length = M.W.length)
 (hw : ∀ y, 0 ≤ y → M'.word y = if y = cellN X.sz X.H i (low i - 1) then M.word (cellN X.sz X.H i (low i - 1)) + 9223372036854775808 else M.word y) : X.Rep nx (lower low i) M' := by
 have hz := sz_le h
 have hlo := hI.lo i i0 i1
 have hnd := h.nd i i0 i1
 refine ⟨by rw [hl]; exact hM.len, fun j l j0 j1 l0 l1 => ?_, fun j j0 j1 => ?_⟩
 · have hr := cell_rng (s := X.sz) (H := X.H) (i := j) (l := l) (by omega) (by omega) h.H1 h.H4 j0 (by omega) l0 l1
   rw [hw _ hr.1]
   split
   · rename_i e
     obtain ⟨rfl, rfl⟩ := cell_inj (by omega) (by omega) h.H1 h.H4 j0 (by omega) l0 l1 (by omega) (by omega) (by omega) (by omega) e
     rw [hM.wds j (low j - 1) j0 j1 l0 l1]
     unfold wd
     rw [if_neg (fun e => by have := e.2.1; omega), if_pos ⟨i0, by unfold lower; rw [if_pos rfl]; omega, by omega⟩]; omega
   · rename_i e
     rw [hM.wds j l j0 j1 l0 l1]
     unfold wd
     have : X.mrk low j l ↔ X.mrk (lower low i) j l := by
      unfold mrk lower
      by_cases ej : j = i
      · subst ej; rw [if_pos rfl]
        have : l ≠ low j - 1 := fun el => e (by rw [el])
        omega
      · rw [if_neg ej]
     by_cases m : X.mrk low j l
     · rw [if_pos m, if_pos (this.1 m)]
     · rw [if_neg m, if_neg (fun e => m (this.2 e))]
 · have hr := key_rng (s := X.sz) (H := X.H) (i := j) (by omega) (by omega) h.H1 h.H4 j0 (by omega)
   rw [hw _ hr.1, if_neg (cell_key (by omega) (by omega) h.H1 h.H4 (by omega) (by omega) (by omega) (by omega) j0 (by omega))]
   exact hM.kys j j0 j1
theorem rep_new (h : X.ok) : X.FRep key (FindSt.new (twL X.sz X.H) key X.H) X.anew := by
 have H1 := h.H1
 have e : ((List.replicate X.H.toNat (0 : Int)).length : Int) = X.H := by rw [List.length_replicate]; omega
 exact ⟨⟨rfl, rfl, e, e, e, fun j j0 _ j2 => by have : X.H - 1 < j := j0; omega⟩, rfl, rfl, rfl, rfl⟩
def behind (X : KL) (p l : Int) : List Int := (upN (X.n - 1 - p).toNat (p + 1)).filter fun i => decide (l < X.inn i)
def nx0 (X : KL) (p l : Int) : Int := if p = -1 ∨ l < X.inn p then (X.behind p l).headD (-1) else -1
theorem behind_cons {p l m : Int} {R : List Int} (p0 : -1 ≤ p) (e : X.behind p l = m :: R) : p < m ∧ m < X.n ∧ l < X.inn m ∧ R = X.behind m l ∧ ∀ x, p < x → x < m → ¬ l < X.inn x := by
 have hm : m ∈ X.behind p l := by rw [e]; exact List.mem_cons_self
 unfold behind at hm
 rw [List.mem_filter] at hm
 obtain ⟨hm1, hm2⟩ := hm
 have hm1 := upN_mem.1 hm1
 have hm2 := of_decide_eq_true hm2
 have go : ∀ (k : Nat) (p : Int), (X.n - 1 - p).toNat = k → -1 ≤ p → X.behind p l = m :: R → p < m → m < X.n → R = X.behind m l ∧ ∀ x, p < x → x < m → ¬ l < X.inn x := by
  intro k
  induction k with
  | zero => intro p hk p0 e _ _; omega
  | succ k ih =>
    intro p hk p0 e h1 h2
    have e' := e
    unfold behind at e'
    rw [hk, upN, List.filter_cons] at e'
    split at e'
    · rename_i c
      have c := of_decide_eq_true c
      injection e' with a b
      refine ⟨?_, fun x x0 x1 => by omega⟩
      rw [← b]
      unfold behind
      have : (X.n - 1 - m).toNat = k := by omega
      rw [this, ← a]
    · rename_i c
      have c : ¬ l < X.inn (p + 1) := fun h => c (decide_eq_true h)
      have hne : p + 1 ≠ m := fun h => c (by rw [h]; exact hm2)
      have eb : X.behind (p + 1) l = m :: R := by
       unfold behind
       have : (X.n - 1 - (p + 1)).toNat = k := by omega
       rw [this]; exact e'
      obtain ⟨r1, r2⟩ := ih (p + 1) (by omega) (by omega) eb (by omega) h2
      refine ⟨r1, fun x x0 x1 => ?_⟩
      by_cases ex : x = p + 1
      · rw [ex]; exact c
      · exact r2 x (by omega) x1
 obtain ⟨r1, r2⟩ := go _ p rfl p0 e (by omega) (by omega)
 exact ⟨by omega, by omega, hm2, r1, r2⟩
theorem behind_nil {p l : Int} (e : X.behind p l = []) : ∀ x, p < x → x < X.n → ¬ l < X.inn x := by
 intro x x0 x1 h
 unfold behind at e
 rw [List.filter_eq_nil_iff] at e
 exact e x (upN_mem.2 (by omega)) (decide_eq_true h)
theorem inv0 (hlo : ∀ i, 0 ≤ i → i < X.n → 0 ≤ low i ∧ low i ≤ X.high i) : X.Inv X.nx0 low := by
 refine ⟨hlo, fun i l i0 i1 l0 l1 => ?_, fun i l k i0 i1 l0 l1 hi hk k0 k1 hg hin => ?_⟩
 · unfold nx0
   split
   · cases e : X.behind i l with
     | nil => exact .inl rfl
     | cons m R =>
       obtain ⟨a, b, c, d, _⟩ := behind_cons i0 e
       exact .inr ⟨a, by show 0 ≤ m; omega, b, c⟩
   · exact .inl rfl
 · unfold nx0 at hg
   rw [if_pos (by by_cases e : i = -1; exact .inl e; exact .inr (hi (by omega)))] at hg
   cases e : X.behind i l with
   | nil => exact absurd hin (behind_nil e k hk k1)
   | cons m R =>
     obtain ⟨a, b, c, d, f⟩ := behind_cons i0 e
     rw [e] at hg
     have hg' : m = -1 ∨ k < m := hg
     exact absurd hin (f k hk (by omega))
end KL
def cell2 (s H i : Int) : Int := atT (9 + 2 * s + H) (9 + 2 * s) H s i 2
def nthL (L : List Int) (i : Int) : Int := L[i.toNat]?.getD 0
namespace KL
def mk' (n H : Int) (ks hs is : List Int) : KL := ⟨n, H, nthL ks, nthL hs, nthL is⟩
structure L1 (s H k : Int) (ks hs is ls : List Int) (key : Int) (M : MemSt) : Prop where
 k0 : 0 ≤ k
 ks9 : k ≤ s
 len : (M.W.length : Int) = 9 + 2 * s + H + s * (4 + H)
 z : ∀ i l, -1 ≤ i → i < s → 0 ≤ l → l < H → M.word (cellN s H i l) = 0
 kw : ∀ i, 0 ≤ i → i < k → M.word (cellK s H i) = nthL ks i
 nd : ∀ i, 0 ≤ i → i < k → 1 ≤ nthL is i ∧ nthL is i ≤ nthL hs i ∧ nthL hs i ≤ H ∧ 0 ≤ nthL ls i ∧ nthL ls i ≤ nthL hs i
 inc : ∀ i j, 0 ≤ i → i < j → j < k → nthL ks i < nthL ks j
 top : ∀ i, 0 ≤ i → i < k → nthL ks i ≤ key
 key0 : 0 ≤ key ∧ key ≤ 9 * k
structure Lay (X : KL) (low : Int → Int) (l : Int) (M : MemSt) : Prop where
 len : (M.W.length : Int) = 9 + 2 * X.sz + X.H + X.sz * (4 + X.H)
 old : ∀ i j, -1 ≤ i → i < X.n → 0 ≤ j → j < l → j < X.H → M.word (cellN X.sz X.H i j) = X.wd X.nx0 low i j
 new : ∀ i j, -1 ≤ i → i < X.n → 0 ≤ j → l ≤ j → j < X.H → M.word (cellN X.sz X.H i j) = 0
 kys : ∀ i, 0 ≤ i → i < X.n → M.word (cellK X.sz X.H i) = X.keys i
structure LA (X : KL) (low : Int → Int) (l p : Int) (M : MemSt) : Prop where
 p0 : -1 ≤ p
 p1 : p < X.n
 pl : 0 ≤ p → l < X.inn p
 len : (M.W.length : Int) = 9 + 2 * X.sz + X.H + X.sz * (4 + X.H)
 old : ∀ i j, -1 ≤ i → i < X.n → 0 ≤ j → j < l → j < X.H → M.word (cellN X.sz X.H i j) = X.wd X.nx0 low i j
 new : ∀ i j, -1 ≤ i → i < X.n → 0 ≤ j → l < j → j < X.H → M.word (cellN X.sz X.H i j) = 0
 kys : ∀ i, 0 ≤ i → i < X.n → M.word (cellK X.sz X.H i) = X.keys i
 lo : ∀ i, -1 ≤ i → i < p → (i = -1 ∨ l < X.inn i) → M.word (cellN X.sz X.H i l) = X.wd X.nx0 low i l
 at_ : M.word (cellN X.sz X.H p l) = if X.mrk low p l then 9223372036854775808 else 0
 hi : ∀ i, p < i → i < X.n → M.word (cellN X.sz X.H i l) = 0
 non : ∀ i, 0 ≤ i → i < X.n → ¬ l < X.inn i → M.word (cellN X.sz X.H i l) = 0
structure LB (X : KL) (low : Int → Int) (l k : Int) (M : MemSt) : Prop where
 len : (M.W.length : Int) = 9 + 2 * X.sz + X.H + X.sz * (4 + X.H)
 old : ∀ i j, -1 ≤ i → i < X.n → 0 ≤ j → j < l → j < X.H → M.word (cellN X.sz X.H i j) = X.wd X.nx0 low i j
 new : ∀ i j, -1 ≤ i → i < X.n → 0 ≤ j → l < j → j < X.H → M.word (cellN X.sz X.H i j) = 0
 kys : ∀ i, 0 ≤ i → i < X.n → M.word (cellK X.sz X.H i) = X.keys i
 lk : ∀ i, -1 ≤ i → i < X.n → (i < k ∨ l < X.inn i) → M.word (cellN X.sz X.H i l) = X.wd X.nx0 low i l
 hi : ∀ i, k ≤ i → 0 ≤ i → i < X.n → ¬ l < X.inn i → M.word (cellN X.sz X.H i l) = 0
variable {X : KL} {low : Int → Int}
theorem store_word {M : MemSt} {x w y : Int} (h0 : 0 ≤ x) (h1 : x < M.W.length) (y0 : 0 ≤ y) : (M.store x w).word y = if y = x then w else M.word y := acc_word h0 h1 y0
theorem la_init (h : X.ok) {l : Int} (l0 : 0 ≤ l) (l1 : l < X.H) {M : MemSt} (hL : X.Lay low l M) : X.LA low l (-1) M := by
 have n0 := h.n0
 refine ⟨by omega, by omega, fun h => absurd h (by decide), hL.len, hL.old, fun i j i0 i1 j0 j1 j2 => hL.new i j i0 i1 j0 (by omega) j2, hL.kys, fun i i0 i1 => by omega, ?_, fun i i0 i1 => hL.new i l (by omega) i1 l0 (by omega) l1, fun i i0 i1 _ => hL.new i l (by omega) i1 l0 (by omega) l1⟩
 rw [hL.new (-1) l (by omega) (by omega) l0 (by omega) l1, if_neg (fun e => absurd e.1 (by decide))]
theorem la_step (h : X.ok) {l p m : Int} {R : List Int} (l0 : 0 ≤ l) (l1 : l < X.H) {M M' : MemSt} (hA : X.LA low l p M) (hb : X.behind p l = m :: R) (hl : M'.W.length = M.W.length)
 (hw : ∀ y, 0 ≤ y → M'.word y = if y = cellN X.sz X.H m l then (if X.mrk low m l then 9223372036854775808 else 0) else if y = cellN X.sz X.H p l then M.word (cellN X.sz X.H p l) + rfN m else M.word y) : X.LA low l m M' ∧ R = X.behind m l := by
 have hz := sz_le h
 obtain ⟨b1, b2, b3, b4, b5⟩ := behind_cons hA.p0 hb
 have p0 := hA.p0; have p1 := hA.p1
 have cr := fun {i j : Int} (i0 : -1 ≤ i) (i1 : i < X.n) (j0 : 0 ≤ j) (j1 : j < X.H) => cell_rng (s := X.sz) (H := X.H) (i := i) (l := j) (by omega) (by omega) h.H1 h.H4 i0 (by omega) j0 j1
 have ci := fun {i j i' j' : Int} (i0 : -1 ≤ i) (i1 : i < X.n) (j0 : 0 ≤ j) (j1 : j < X.H) (i0' : -1 ≤ i') (i1' : i' < X.n) (j0' : 0 ≤ j') (j1' : j' < X.H) (e : cellN X.sz X.H i j = cellN X.sz X.H i' j') => cell_inj (s := X.sz) (H := X.H) (by omega) (by omega) h.H1 h.H4 i0 (by omega) j0 j1 i0' (by omega) j0' j1' e
 have hoth : ∀ i j, -1 ≤ i → i < X.n → 0 ≤ j → j < X.H → (j = l → i ≠ p ∧ i ≠ m) → M'.word (cellN X.sz X.H i j) = M.word (cellN X.sz X.H i j) := fun i j i0 i1 j0 j1 hne => by
  rw [hw _ (cr i0 i1 j0 j1).1, if_neg (fun e => by have := ci i0 i1 j0 j1 (by omega) b2 l0 l1 e; exact (hne this.2).2 this.1), if_neg (fun e => by have := ci i0 i1 j0 j1 p0 p1 l0 l1 e; exact (hne this.2).1 this.1)]
 have hpw : M'.word (cellN X.sz X.H p l) = X.wd X.nx0 low p l := by
  rw [hw _ (cr p0 p1 l0 l1).1, if_neg (fun e => by have := (ci p0 p1 l0 l1 (by omega) b2 l0 l1 e).1; omega), if_pos rfl, hA.at_]
  have e : X.nx0 p l = m := by
   unfold nx0; rw [if_pos (by by_cases e : p = -1; exact .inl e; exact .inr (hA.pl (by omega))), hb]; rfl
  unfold wd; rw [e]; split <;> omega
 refine ⟨⟨by omega, b2, fun _ => b3, by rw [hl]; exact hA.len, fun i j i0 i1 j0 j1 j2 => ?_, fun i j i0 i1 j0 j1 j2 => ?_, fun i i0 i1 => ?_, fun i i0 i1 hr => ?_, ?_, fun i i0 i1 => ?_, fun i i0 i1 hn => ?_⟩, b4⟩
 · rw [hoth i j i0 i1 j0 j2 (fun e => by omega)]; exact hA.old i j i0 i1 j0 j1 j2
 · rw [hoth i j i0 i1 j0 j2 (fun e => by omega)]; exact hA.new i j i0 i1 j0 j1 j2
 · have hr := key_rng (s := X.sz) (H := X.H) (i := i) (by omega) (by omega) h.H1 h.H4 i0 (by omega)
   rw [hw _ hr.1, if_neg (cell_key (by omega) (by omega) h.H1 h.H4 (by omega) (by omega) l0 l1 i0 (by omega)), if_neg (cell_key (by omega) (by omega) h.H1 h.H4 p0 (by omega) l0 l1 i0 (by omega))]
   exact hA.kys i i0 i1
 · by_cases e : i = p
   · rw [e]; exact hpw
   · have hlt : i < p := by
      by_cases hip : i < p
      · exact hip
      · rcases hr with hr | hr
        · omega
        · exact absurd hr (b5 i (by omega) i1)
     rw [hoth i l i0 (by omega) l0 l1 (fun _ => ⟨e, by omega⟩)]; exact hA.lo i i0 hlt hr
 · rw [hw _ (cr (by omega) b2 l0 l1).1, if_pos rfl]
 · rw [hoth i l (by omega) i1 l0 l1 (fun _ => ⟨by omega, by omega⟩)]; exact hA.hi i (by omega) i1
 · rw [hoth i l (by omega) i1 l0 l1 (fun _ => ⟨fun e => hn (by rw [e]; exact hA.pl (by omega)), fun e => hn (by rw [e]; exact b3)⟩)]; exact hA.non i i0 i1 hn
theorem la_end (h : X.ok) {l p : Int} (l0 : 0 ≤ l) (l1 : l < X.H) {M : MemSt} (hA : X.LA low l p M) (hb : X.behind p l = []) : X.LB low l 0 M := by
 have p0 := hA.p0
 refine ⟨hA.len, hA.old, hA.new, hA.kys, fun i i0 i1 hr => ?_, fun i i0 _ i1 hn => hA.non i i0 i1 hn⟩
 have hr' : i = -1 ∨ l < X.inn i := hr.imp (fun e => by omega) id
 by_cases e : i < p
 · exact hA.lo i i0 e hr'
 · by_cases e2 : i = p
   · rw [e2, hA.at_]
     have : X.nx0 p l = -1 := by
      unfold nx0; split
      · rw [hb]; rfl
      · rfl
     unfold wd; rw [this]
     have : rfN (-1) = 0 := rfl
     omega
   · rcases hr' with hr' | hr'
     · omega
     · exact absurd hr' (behind_nil hb i (by omega) i1)
theorem nx0_non {p l : Int} (h0 : 0 ≤ p) (h : ¬ l < X.inn p) : X.nx0 p l = -1 := by unfold nx0; rw [if_neg (by omega)]
theorem lb_step (h : X.ok) {l k : Int} (l0 : 0 ≤ l) (l1 : l < X.H) (k0 : 0 ≤ k) (k1 : k < X.n) {M M' : MemSt} (hB : X.LB low l k M) (hc : ¬ l < X.inn k ∧ X.mrk low k l) (hl : M'.W.length = M.W.length)
 (hw : ∀ y, 0 ≤ y → M'.word y = if y = cellN X.sz X.H k l then 9223372036854775808 else M.word y) : X.LB low l (k + 1) M' := by
 have hz := sz_le h
 have cr := fun {i j : Int} (i0 : -1 ≤ i) (i1 : i < X.n) (j0 : 0 ≤ j) (j1 : j < X.H) => cell_rng (s := X.sz) (H := X.H) (i := i) (l := j) (by omega) (by omega) h.H1 h.H4 i0 (by omega) j0 j1
 have hoth : ∀ i j, -1 ≤ i → i < X.n → 0 ≤ j → j < X.H → (j = l → i ≠ k) → M'.word (cellN X.sz X.H i j) = M.word (cellN X.sz X.H i j) := fun i j i0 i1 j0 j1 hne => by
  rw [hw _ (cr i0 i1 j0 j1).1, if_neg (fun e => by
   have := cell_inj (s := X.sz) (H := X.H) (by omega) (by omega) h.H1 h.H4 i0 (by omega) j0 j1 (by omega) (by omega) l0 l1 e
   exact hne this.2 this.1)]
 refine ⟨by rw [hl]; exact hB.len, fun i j i0 i1 j0 j1 j2 => ?_, fun i j i0 i1 j0 j1 j2 => ?_, fun i i0 i1 => ?_, fun i i0 i1 hr => ?_, fun i i0 i1 i2 hn => ?_⟩
 · rw [hoth i j i0 i1 j0 j2 (fun e => by omega)]; exact hB.old i j i0 i1 j0 j1 j2
 · rw [hoth i j i0 i1 j0 j2 (fun e => by omega)]; exact hB.new i j i0 i1 j0 j1 j2
 · have hr := key_rng (s := X.sz) (H := X.H) (i := i) (by omega) (by omega) h.H1 h.H4 i0 (by omega)
   rw [hw _ hr.1, if_neg (cell_key (by omega) (by omega) h.H1 h.H4 (by omega) (by omega) l0 l1 i0 (by omega))]
   exact hB.kys i i0 i1
 · by_cases e : i = k
   · rw [e, hw _ (cr (by omega) k1 l0 l1).1, if_pos rfl]
     unfold wd; rw [nx0_non k0 hc.1, if_pos hc.2]; rfl
   · rw [hoth i l i0 i1 l0 l1 (fun _ => e)]
     exact hB.lk i i0 i1 (hr.imp (fun e => by omega) id)
 · rw [hoth i l (by omega) i2 l0 l1 (fun _ => by omega)]; exact hB.hi i (by omega) i1 i2 hn
theorem lb_skip {l k : Int} (k0 : 0 ≤ k) (k1 : k < X.n) {M : MemSt} (hB : X.LB low l k M) (hc : ¬ (¬ l < X.inn k ∧ X.mrk low k l)) : X.LB low l (k + 1) M := by
 refine ⟨hB.len, hB.old, hB.new, hB.kys, fun i i0 i1 hr => ?_, fun i i0 i1 i2 hn => hB.hi i (by omega) i1 i2 hn⟩
 by_cases e : i = k
 · subst e
   by_cases hn : l < X.inn i
   · exact hB.lk i i0 i1 (.inr hn)
   · rw [hB.hi i (by omega) k0 i1 hn]
     unfold wd; rw [nx0_non k0 hn, if_neg (fun e => hc ⟨hn, e⟩)]; rfl
 · exact hB.lk i i0 i1 (hr.imp (fun e => by omega) id)
theorem lb_end {l k : Int} (hk : k = X.n) {M : MemSt} (hB : X.LB low l k M) : X.Lay low (l + 1) M :=
 ⟨hB.len, fun i j i0 i1 j0 j1 j2 => by
   by_cases e : j = l
   · rw [e]; exact hB.lk i i0 i1 (.inl (by omega))
   · exact hB.old i j i0 i1 j0 (by omega) j2, fun i j i0 i1 j0 j1 j2 => hB.new i j i0 i1 j0 (by omega) j2, hB.kys⟩
theorem lay_rep {l : Int} (hl : l = X.H) {M : MemSt} (hL : X.Lay low l M) : X.Rep X.nx0 low M :=
 ⟨hL.len, fun i j i0 i1 j0 j1 => hL.old i j i0 i1 j0 (by omega) j1, hL.kys⟩
theorem l1_ok {s H k key : Int} {ks hs is ls : List Int} {M : MemSt} (h : L1 s H k ks hs is ls key M) (hk : k ≤ 9) (hH : 1 ≤ H) (hH4 : H ≤ 4) (es : s = if k < 1 then 1 else k) : (mk' k H ks hs is).ok ∧ (mk' k H ks hs is).Lay (nthL ls) 0 M ∧ ∀ i, 0 ≤ i → i < k → 0 ≤ nthL ls i ∧ nthL ls i ≤ nthL hs i := by
 have ez : (mk' k H ks hs is).sz = s := es.symm
 have k0 := h.k0; have k9 := h.ks9
 refine ⟨⟨k0, hk, hH, hH4, fun i i0 i1 => ?_, h.inc⟩, ⟨?_, fun i j i0 i1 j0 j1 j2 => by omega, fun i j i0 i1 j0 j1 j2 => ?_, fun i i0 i1 => ?_⟩, fun i i0 i1 => (h.nd i i0 i1).2.2.2⟩
 · have := h.nd i i0 i1
   exact ⟨this.1, this.2.1, this.2.2.1⟩
 · rw [ez]; exact h.len
 · rw [ez]; exact h.z i j i0 (by have : i < k := i1; omega) j0 j2
 · rw [ez]; exact h.kw i i0 i1
theorem c2_eq {s H i : Int} (hs : 1 ≤ s) (hs9 : s ≤ 9) (hH : 1 ≤ H) (hH4 : H ≤ 4) (i0 : 0 ≤ i) (i1 : i < s) : cell2 s H i = 9 + 2 * s + H + i * (4 + H) + 2 := by
 unfold cell2
 rw [at_in ⟨hH, hH4, hs, by omega, by omega, by omega, by omega, by omega⟩ ⟨by omega, i1, by omega, by omega, .inl i0⟩, if_neg (by omega)]
theorem c2_rng {s H i : Int} (hs : 1 ≤ s) (hs9 : s ≤ 9) (hH : 1 ≤ H) (hH4 : H ≤ 4) (i0 : 0 ≤ i) (i1 : i < s) : 0 ≤ cell2 s H i ∧ cell2 s H i < 9 + 2 * s + H + s * (4 + H) := by
 rw [c2_eq hs hs9 hH hH4 i0 i1]
 rcases h4 hH hH4 with rfl | rfl | rfl | rfl <;> omega
theorem c2_cell {s H i l j : Int} (hs : 1 ≤ s) (hs9 : s ≤ 9) (hH : 1 ≤ H) (hH4 : H ≤ 4) (i0 : -1 ≤ i) (i1 : i < s) (l0 : 0 ≤ l) (l1 : l < H) (j0 : 0 ≤ j) (j1 : j < s) : cellN s H i l ≠ cell2 s H j := by
 rw [cell_eq hs hs9 hH hH4 i0 i1 l0 l1, c2_eq hs hs9 hH hH4 j0 j1]
 rcases h4 hH hH4 with rfl | rfl | rfl | rfl <;> split <;> omega
theorem c2_key {s H i j : Int} (hs : 1 ≤ s) (hs9 : s ≤ 9) (hH : 1 ≤ H) (hH4 : H ≤ 4) (i0 : 0 ≤ i) (i1 : i < s) (j0 : 0 ≤ j) (j1 : j < s) : cellK s H i ≠ cell2 s H j := by
 rw [key_eq hs hs9 hH hH4 i0 i1, c2_eq hs hs9 hH hH4 j0 j1]
 rcases h4 hH hH4 with rfl | rfl | rfl | rfl <;> omega
theorem kk_inj {s H i j : Int} (hs : 1 ≤ s) (hs9 : s ≤ 9) (hH : 1 ≤ H) (hH4 : H ≤ 4) (i0 : 0 ≤ i) (i1 : i < s) (j0 : 0 ≤ j) (j1 : j < s) (e : cellK s H i = cellK s H j) : i = j := by
 rw [key_eq hs hs9 hH hH4 i0 i1, key_eq hs hs9 hH hH4 j0 j1] at e
 rcases h4 hH hH4 with rfl | rfl | rfl | rfl <;> omega
theorem l1_step {s H k key key' hh ii ll : Int} {ks hs is ls ks' hs' is' ls' : List Int} {M M' : MemSt} (h : L1 s H k ks hs is ls key M) (s9 : s ≤ 9) (hH : 1 ≤ H) (hH4 : H ≤ 4) (hk : k < s)
 (hkey : key < key' ∧ key' ≤ key + 9) (hn : 1 ≤ ii ∧ ii ≤ hh ∧ hh ≤ H ∧ 0 ≤ ll ∧ ll ≤ hh)
 (e1 : ∀ i, 0 ≤ i → i ≤ k → nthL ks' i = if i = k then key' else nthL ks i) (e2 : ∀ i, 0 ≤ i → i ≤ k → nthL hs' i = if i = k then hh else nthL hs i)
 (e3 : ∀ i, 0 ≤ i → i ≤ k → nthL is' i = if i = k then ii else nthL is i) (e4 : ∀ i, 0 ≤ i → i ≤ k → nthL ls' i = if i = k then ll else nthL ls i)
 (hl : M'.W.length = M.W.length) (hw : ∀ y, 0 ≤ y → M'.word y = if y = cell2 s H k then hh else if y = cellK s H k then key' else M.word y) : L1 s H (k + 1) ks' hs' is' ls' key' M' := by
 have k0 := h.k0
 have hkey0 := h.key0
 refine ⟨by omega, by omega, by rw [hl]; exact h.len, fun i l i0 i1 l0 l1 => ?_, fun i i0 i1 => ?_, fun i i0 i1 => ?_, fun i j i0 ij j1 => ?_, fun i i0 i1 => ?_, ⟨by omega, by omega⟩⟩
 · have hr := cell_rng (s := s) (H := H) (i := i) (l := l) (by omega) s9 hH hH4 i0 i1 l0 l1
   rw [hw _ hr.1, if_neg (c2_cell (by omega) s9 hH hH4 i0 i1 l0 l1 k0 hk), if_neg (cell_key (by omega) s9 hH hH4 i0 i1 l0 l1 k0 hk).symm]
   exact h.z i l i0 i1 l0 l1
 · have hr := key_rng (s := s) (H := H) (i := i) (by omega) s9 hH hH4 i0 (by omega)
   rw [hw _ hr.1, if_neg (c2_key (by omega) s9 hH hH4 i0 (by omega) k0 hk), e1 i i0 (by omega)]
   by_cases e : i = k
   · rw [if_pos (by rw [e]), if_pos e]
   · rw [if_neg (fun ee => e (kk_inj (by omega) s9 hH hH4 i0 (by omega) k0 hk ee)), if_neg e]; exact h.kw i i0 (by omega)
 · rw [e2 i i0 (by omega), e3 i i0 (by omega), e4 i i0 (by omega)]
   by_cases e : i = k
   · rw [if_pos e, if_pos e, if_pos e]; exact hn
   · rw [if_neg e, if_neg e, if_neg e]; exact h.nd i i0 (by omega)
 · rw [e1 i i0 (by omega), e1 j (by omega) (by omega), if_neg (by omega)]
   have := h.top i i0 (by omega)
   split
   · omega
   · exact h.inc i j i0 ij (by omega)
 · rw [e1 i i0 (by omega)]
   split
   · omega
   · have := h.top i i0 (by omega); omega
end KL
end Go.Proofs.Ytbmbiiiacajolaa
