/- The plain laws of words: what refs, tops, slots and keys are as numbers. No program is named here. -/
import Derived.WalkKit
import Derived.Lib.Hide
namespace Go.Proofs.Ytbkaclkbjpdfnaa
open Go.RowKit

/-- what is below 2^k and what is a multiple of 2^k are joined by adding -/
theorem or_add (k : Nat) (a b : Int) (h0 : 0 ≤ a) (h1 : a < 2 ^ k) (h2 : 0 ≤ b) (h3 : 2 ^ k * b < 18446744073709551616) (h4 : a < 18446744073709551616) :
    bits .or .u64 a (2 ^ k * b) = a + 2 ^ k * b := by
  obtain ⟨x, rfl⟩ := Int.eq_ofNat_of_zero_le h0
  obtain ⟨y, rfl⟩ := Int.eq_ofNat_of_zero_le h2
  have e : (2 : Int) ^ k * (y : Int) = ((2 ^ k * y : Nat) : Int) := by simp
  rw [e] at h3 ⊢
  have h1' : x < 2 ^ k := by
    have e2 : (2 : Int) ^ k = ((2 ^ k : Nat) : Int) := by simp
    rw [e2] at h1; exact Int.ofNat_lt.1 h1
  rw [u64_or_nat x (2 ^ k * y) (by omega) (by omega), Nat.or_comm, ← Nat.two_pow_add_eq_or_of_lt h1']
  omega

theorem and_mod (k : Nat) (a : Int) (hk : k < 64) (h0 : 0 ≤ a) (h1 : a < 18446744073709551616) : bits .and .u64 a (2 ^ k - 1) = a % 2 ^ k := by
  obtain ⟨x, rfl⟩ := Int.eq_ofNat_of_zero_le h0
  have hp : 0 < 2 ^ k := Nat.two_pow_pos k
  have hq : 2 ^ k ≤ 2 ^ 63 := Nat.pow_le_pow_right (by omega) (by omega)
  have e : (2 : Int) ^ k - 1 = ((2 ^ k - 1 : Nat) : Int) := by
    rw [Int.ofNat_sub hp]; simp
  rw [e, u64_and_nat x (2 ^ k - 1) (by omega) (by omega), Nat.and_two_pow_sub_one_eq_mod]
  simp

/-- bit 63 is taken away -/
def lowW (x : Int) : Int := x % 9223372036854775808
def topW (b : Bool) : Int := if b then 9223372036854775808 else 0
def isW (x : Int) : Prop := 0 ≤ x ∧ x < 18446744073709551616

theorem andNot_top (x : Int) (h : isW x) : bits .andNot .u64 x 9223372036854775808 = lowW x := by
  obtain ⟨h0, h1⟩ := h
  rw [u64_andNot x _ h0 h1 (by omega) (by omega)]
  obtain ⟨y, rfl⟩ := Int.eq_ofNat_of_zero_le h0
  have e : (18446744073709551615 - (9223372036854775808 : Int).toNat) = 2 ^ 63 - 1 := by decide
  have e2 : ((y : Int)).toNat = y := by omega
  rw [e, e2, Nat.and_two_pow_sub_one_eq_mod]
  unfold lowW; omega

theorem or_top (x : Int) (h : isW x) : bits .or .u64 x 9223372036854775808 = lowW x + 9223372036854775808 := by
  obtain ⟨h0, h1⟩ := h
  obtain ⟨y, rfl⟩ := Int.eq_ofNat_of_zero_le h0
  have hy : y < 18446744073709551616 := by omega
  have := u64_or_nat y 9223372036854775808 hy (by omega)
  rw [show ((9223372036854775808 : Int)) = ((9223372036854775808 : Nat) : Int) from rfl, this]
  unfold lowW
  have key : y ||| 2 ^ 63 = y % 2 ^ 63 + 2 ^ 63 := by
    apply Nat.eq_of_testBit_eq
    intro i
    have h2 : y % 2 ^ 63 < 2 ^ 63 := Nat.mod_lt _ (by decide)
    have h3 := Nat.two_pow_add_eq_or_of_lt h2 1
    rw [Nat.add_comm, show 2 ^ 63 + y % 2 ^ 63 = 2 ^ 63 * 1 + y % 2 ^ 63 by omega, h3]
    rw [Nat.testBit_or, Nat.testBit_or, Nat.testBit_mod_two_pow]
    by_cases hi : i < 63
    · simp [hi, Bool.or_comm]
    · by_cases hi2 : i = 63
      · subst hi2
        rw [Nat.mul_one, Nat.testBit_two_pow_self]; simp
      · have : y.testBit i = false := Nat.testBit_lt_two_pow (Nat.lt_of_lt_of_le hy (by
          have : 2 ^ 64 ≤ 2 ^ i := Nat.pow_le_pow_right (by omega) (by omega)
          simpa using this))
        simp [this, hi]
  rw [show (9223372036854775808 : Nat) = 2 ^ 63 by decide, key]
  omega

theorem and_low (x : Int) (h : isW x) : bits .and .u64 x 9223372036854775807 = lowW x := by
  have e := and_mod 63 x (by omega) h.1 h.2
  have e2 : (2 : Int) ^ 63 - 1 = 9223372036854775807 := by decide
  rw [e2] at e
  rw [e]; unfold lowW; rfl

/-- a word with the mark set as told -/
def marksW (x : Int) (b : Bool) : Int := lowW x + topW b
/-- is the mark set? -/
def markedW (x : Int) : Bool := decide (x / 9223372036854775808 = 1)

theorem marksW_is (x : Int) (b : Bool) : isW (marksW x b) := by
  unfold isW marksW lowW topW; cases b <;> simp <;> omega

/-- why a ref has no word; 0: it has one -/
def refE (i g : Int) : Int := if i < -1 ∨ 65534 < i ∨ g < 0 ∨ 4294967295 < g then 3 else if i = -1 ∧ g ≠ 0 then 5 else 0
def refW (i g : Int) (m : Bool) : Int := if refE i g = 0 then i + 1 + 65536 * g + topW m else 0
def topE (i t : Int) : Int := if i < -1 ∨ 65534 < i ∨ t < 0 ∨ 281474976710655 < t then 3 else 0
def topwW (i t : Int) : Int := if topE i t = 0 then i + 1 + 65536 * t else 0
def slotE (l : Int) (f : Bool) (v : Int) : Int := if l < 0 ∨ 4294967295 < l ∨ v < 0 ∨ 65535 < v then 3 else if f = false ∧ v ≠ 0 then 5 else 0
def slotW (l : Int) (f : Bool) (v : Int) : Int := if slotE l f v = 0 then v + (if f then 65536 else 0) + 4294967296 * l else 0
def keyE (p s r : Int) : Int := if p < 0 ∨ 254 < p ∨ s < 0 ∨ 1099511627775 < s ∨ r < 0 ∨ 65535 < r then 3 else 0
def keyW (p s r : Int) : Int := if keyE p s r = 0 then r + 65536 * s + 72057594037927936 * p else 0

/-- a part of a word -/
def partW (x f m : Int) : Int := x / 2 ^ f.toNat % 2 ^ m.toNat

/-- fields laid one by one -/
def layF (fr nm : Nat → Int) : Nat → Int
  | 0 => 0
  | k + 1 => bits .or .u64 (layF fr nm k) (IntKind.u64.wrap (IntKind.u64.wrap (nm k) * 2 ^ (fr k).toNat))

/-- are all within their bounds? -/
def inAll (f : Nat → Int × Int × Int) : Nat → Bool
  | 0 => true
  | k + 1 => inAll f k && decide ((f k).2.1 ≤ (f k).1 ∧ (f k).1 ≤ (f k).2.2)

theorem inAll_no (f : Nat → Int × Int × Int) {k n : Nat} (hk : k < n) (h : ¬ ((f k).2.1 ≤ (f k).1 ∧ (f k).1 ≤ (f k).2.2)) : inAll f n = false := by
  induction n with
  | zero => omega
  | succ n ih =>
    unfold inAll
    by_cases e : k = n
    · subst e; simp [h]
    · rw [ih (by omega)]; rfl

theorem or_zero (x : Int) (h : isW x) : bits .or .u64 0 x = x := by
  obtain ⟨h0, h1⟩ := h
  obtain ⟨y, rfl⟩ := Int.eq_ofNat_of_zero_le h0
  have := u64_or_nat 0 y (by omega) (by omega)
  simpa using this

theorem layF_one (a : Int) (fr nm : Nat → Int) (h0 : 0 ≤ a) (h1 : a < 18446744073709551616) (hf : fr 0 = 0) (hn : nm 0 = a) : layF fr nm 1 = a := by
  simp only [layF, hf, hn]
  have e : IntKind.u64.wrap a = a := IntWalk.u64_in _ (by omega)
  rw [e]
  simp only [Int.toNat_zero, Int.pow_zero, Int.mul_one, e]
  exact or_zero a ⟨h0, h1⟩

theorem layF_two (a b : Int) (fr nm : Nat → Int) (h0 : 0 ≤ a) (h1 : a < 65536) (h2 : 0 ≤ b) (h3 : b < 281474976710656) (hf : fr 0 = 0) (hf1 : fr 1 = 16) (hn : nm 0 = a) (hn1 : nm 1 = b) : layF fr nm 2 = a + 65536 * b := by
  have h := layF_one a fr nm h0 (by omega) hf hn
  unfold layF
  rw [h, hf1, hn1]
  have e : IntKind.u64.wrap b = b := IntWalk.u64_in _ (by omega)
  have e2 : IntKind.u64.wrap (b * 2 ^ (16 : Int).toNat) = 2 ^ 16 * b := by
    have : (b * 2 ^ (16 : Int).toNat) = 2 ^ 16 * b := by rw [Int.mul_comm]; rfl
    rw [this]; exact IntWalk.u64_in _ (by omega)
  rw [e, e2, or_add 16 a b h0 (by omega) h2 (by omega) (by omega)]
  omega

theorem layF_three (k : Nat) (a b c : Int) (fr nm : Nat → Int) (h0 : 0 ≤ a) (h1 : a < 65536) (h2 : 0 ≤ b) (h3 : b < 281474976710656) (h4 : a + 65536 * b < 2 ^ k) (h5 : 0 ≤ c) (h6 : c < 18446744073709551616) (h7 : 2 ^ k * c < 18446744073709551616)
    (hf : fr 0 = 0) (hf1 : fr 1 = 16) (hf2 : fr 2 = k) (hn : nm 0 = a) (hn1 : nm 1 = b) (hn2 : nm 2 = c) : layF fr nm 3 = a + 65536 * b + 2 ^ k * c := by
  have h := layF_two a b fr nm h0 h1 h2 h3 hf hf1 hn hn1
  unfold layF
  rw [h, hf2, hn2]
  have e : IntKind.u64.wrap c = c := IntWalk.u64_in _ (by omega)
  have e2 : IntKind.u64.wrap (c * 2 ^ (k : Int).toNat) = 2 ^ k * c := by
    have : (c * 2 ^ (k : Int).toNat) = 2 ^ k * c := by rw [Int.mul_comm]; simp
    rw [this]
    have : 0 ≤ (2 : Int) ^ k * c := Int.mul_nonneg (Int.le_of_lt (Int.pow_pos (by omega))) h5
    exact IntWalk.u64_in _ (by omega)
  rw [e, e2, or_add k _ c (by omega) h4 h5 h7 (by omega)]

theorem refL (i g : Int) (m : Bool) (r : -1 ≤ i ∧ i ≤ 65534 ∧ 0 ≤ g ∧ g ≤ 4294967295) (hE : refE i g = 0) :
    isW (layF (fun j => if j = 0 then 0 else 16) (fun j => if j = 0 then i + 1 else g) 2) ∧ marksW (layF (fun j => if j = 0 then 0 else 16) (fun j => if j = 0 then i + 1 else g) 2) m = refW i g m := by
  have e := layF_two (i + 1) g (fun j => if j = 0 then 0 else 16) (fun j => if j = 0 then i + 1 else g) (by omega) (by omega) (by omega) (by omega) rfl rfl rfl rfl
  rw [e]
  unfold isW marksW refW lowW
  rw [if_pos hE]
  omega

/-- the same, the greater one first -/
theorem or_add' (k : Nat) (a b : Int) (h0 : 0 ≤ a) (h1 : a < 2 ^ k) (h2 : 0 ≤ b) (h3 : 2 ^ k * b < 18446744073709551616) (h4 : a < 18446744073709551616) :
    bits .or .u64 (2 ^ k * b) a = 2 ^ k * b + a := by
  obtain ⟨x, rfl⟩ := Int.eq_ofNat_of_zero_le h0
  obtain ⟨y, rfl⟩ := Int.eq_ofNat_of_zero_le h2
  have e : (2 : Int) ^ k * (y : Int) = ((2 ^ k * y : Nat) : Int) := by simp
  rw [e] at h3 ⊢
  have h1' : x < 2 ^ k := by
    have e2 : (2 : Int) ^ k = ((2 ^ k : Nat) : Int) := by simp
    rw [e2] at h1; exact Int.ofNat_lt.1 h1
  rw [u64_or_nat (2 ^ k * y) x (by omega) (by omega), ← Nat.two_pow_add_eq_or_of_lt h1']
  omega

theorem refR (i g : Int) (m : Bool) (r : -1 ≤ i ∧ i ≤ 65534 ∧ 0 ≤ g ∧ g ≤ 4294967295) (hE : refE i g = 0) :
    isW (bits .or .u64 (i + 1) (g * 65536)) ∧ marksW (bits .or .u64 (i + 1) (g * 65536)) m = refW i g m := by
  have e := or_add 16 (i + 1) g (by omega) (by omega) (by omega) (by omega) (by omega)
  have e2 : g * 65536 = 2 ^ 16 * g := by omega
  rw [e2, e]
  unfold isW marksW refW lowW
  rw [if_pos hE]
  omega

theorem topR (i t : Int) (r : -1 ≤ i ∧ i ≤ 65534 ∧ 0 ≤ t ∧ t ≤ 281474976710655) : bits .or .u64 (i + 1) (t * 65536) = topwW i t := by
  have e := or_add 16 (i + 1) t (by omega) (by omega) (by omega) (by omega) (by omega)
  have e2 : t * 65536 = 2 ^ 16 * t := by omega
  rw [e2, e]
  have hE : topE i t = 0 := by unfold topE; rw [if_neg (by omega)]
  unfold topwW
  rw [if_pos hE]; omega

theorem slotR (l v : Int) (r : 0 ≤ l ∧ l ≤ 4294967295 ∧ 0 ≤ v ∧ v ≤ 65535) : bits .or .u64 (bits .or .u64 (l * 4294967296) 65536) v = slotW l true v := by
  have e := or_add' 32 65536 l (by omega) (by omega) (by omega) (by omega) (by omega)
  have e2 : l * 4294967296 = 2 ^ 32 * l := by omega
  rw [e2, e]
  have e3 : 2 ^ 32 * l + 65536 = 2 ^ 16 * (65536 * l + 1) := by omega
  rw [e3, or_add' 16 v (65536 * l + 1) (by omega) (by omega) (by omega) (by omega) (by omega)]
  have hE : slotE l true v = 0 := by unfold slotE; rw [if_neg (by omega), if_neg (by simp)]
  unfold slotW
  rw [if_pos hE]; simp; omega

theorem keyR (p s q : Int) (r : 0 ≤ q ∧ q ≤ 65535 ∧ 0 ≤ s ∧ s ≤ 1099511627775 ∧ 0 ≤ p ∧ p ≤ 254) : bits .or .u64 (bits .or .u64 (p * 72057594037927936) (s * 65536)) q = keyW p s q := by
  have e := or_add' 56 (s * 65536) p (by omega) (by omega) (by omega) (by omega) (by omega)
  have e2 : p * 72057594037927936 = 2 ^ 56 * p := by omega
  rw [e2, e]
  have e3 : 2 ^ 56 * p + s * 65536 = 2 ^ 16 * (1099511627776 * p + s) := by omega
  rw [e3, or_add' 16 q (1099511627776 * p + s) (by omega) (by omega) (by omega) (by omega) (by omega)]
  have hE : keyE p s q = 0 := by unfold keyE; rw [if_neg (by omega)]
  unfold keyW
  rw [if_pos hE]; omega

theorem topL (i t : Int) (r : -1 ≤ i ∧ i ≤ 65534 ∧ 0 ≤ t ∧ t ≤ 281474976710655) :
    layF (fun j => if j = 0 then 0 else 16) (fun j => if j = 0 then i + 1 else t) 2 = topwW i t := by
  have e := layF_two (i + 1) t (fun j => if j = 0 then 0 else 16) (fun j => if j = 0 then i + 1 else t) (by omega) (by omega) (by omega) (by omega) rfl rfl rfl rfl
  rw [e]
  have hE : topE i t = 0 := by unfold topE; rw [if_neg (by omega)]
  unfold topwW
  rw [if_pos hE]

theorem slotL (l : Int) (f : Bool) (v : Int) (r : 0 ≤ l ∧ l ≤ 4294967295 ∧ 0 ≤ v ∧ v ≤ 65535) (hE : slotE l f v = 0) :
    layF (fun j => if j = 0 then 0 else if j = 1 then 16 else 32) (fun j => if j = 0 then v else if j = 1 then (if f then 1 else 0) else l) 3 = slotW l f v := by
  have hb : (0 : Int) ≤ (if f then 1 else 0) ∧ (if f then (1 : Int) else 0) ≤ 1 := by cases f <;> simp
  have e := layF_three 32 v (if f then 1 else 0) l (fun j => if j = 0 then 0 else if j = 1 then 16 else 32) (fun j => if j = 0 then v else if j = 1 then (if f then 1 else 0) else l) (by omega) (by omega) (by omega) (by omega) (by omega) (by omega) (by omega) (by omega) rfl rfl rfl rfl rfl rfl
  rw [e]
  unfold slotW
  rw [if_pos hE]
  cases f <;> simp

theorem keyL (p s q : Int) (r : 0 ≤ q ∧ q ≤ 65535 ∧ 0 ≤ s ∧ s ≤ 1099511627775 ∧ 0 ≤ p ∧ p ≤ 254) :
    layF (fun j => if j = 0 then 0 else if j = 1 then 16 else 56) (fun j => if j = 0 then q else if j = 1 then s else p) 3 = keyW p s q := by
  have e := layF_three 56 q s p (fun j => if j = 0 then 0 else if j = 1 then 16 else 56) (fun j => if j = 0 then q else if j = 1 then s else p) (by omega) (by omega) (by omega) (by omega) (by omega) (by omega) (by omega) (by omega) rfl rfl rfl rfl rfl rfl
  rw [e]
  have hE : keyE p s q = 0 := by unfold keyE; rw [if_neg (by omega)]
  unfold keyW
  rw [if_pos hE]
  omega

/-- what a word is as a ref, a top, a slot, a key -/
def getRefI (x : Int) : Int := partW x 0 16 - 1
def getRefG (x : Int) : Int := partW x 16 32
def getRefOk (x : Int) : Bool := decide (refE (getRefI x) (getRefG x) = 0 ∧ refW (getRefI x) (getRefG x) (markedW x) = x)
def getSlotOk (x : Int) : Bool := decide (slotE (partW x 32 32) (partW x 16 1 == 1) (partW x 0 16) = 0 ∧ slotW (partW x 32 32) (partW x 16 1 == 1) (partW x 0 16) = x)
def getKeyOk (x : Int) : Bool := decide (partW x 56 8 ≤ 254)

def getRefV (x : Int) : Value := if getRefOk x then .agg #[.int .i64 (getRefI x), .int .i64 (getRefG x), .bool (markedW x)] else .agg #[.int .i64 0, .int .i64 0, .bool false]
def getRefE (x : Int) : Int := if getRefOk x then 0 else 5
def getTopV (x : Int) : Value := .agg #[.int .i64 (partW x 0 16 - 1), .int .i64 (partW x 16 48)]
def getSlotV (x : Int) : Value := if getSlotOk x then .agg #[.int .i64 (partW x 32 32), .bool (partW x 16 1 == 1), .int .i64 (partW x 0 16)] else .agg #[.int .i64 0, .bool false, .int .i64 0]
def getSlotE (x : Int) : Int := if getSlotOk x then 0 else 5
def getKeyV (x : Int) : Value := if getKeyOk x then .agg #[.int .i64 (partW x 56 8), .int .i64 (partW x 16 40), .int .i64 (partW x 0 16)] else .agg #[.int .i64 0, .int .i64 0, .int .i64 0]
def getKeyE (x : Int) : Int := if getKeyOk x then 0 else 5

theorem partW_bd (x : Int) (f m : Nat) : 0 ≤ partW x f m ∧ partW x f m < 2 ^ m := by
  unfold partW
  have e : ((m : Int)).toNat = m := by omega
  rw [e]
  have hp : (0 : Int) < 2 ^ m := Int.pow_pos (by omega)
  exact ⟨Int.emod_nonneg _ (by omega), Int.emod_lt_of_pos _ hp⟩

def isRef (i g : Int) (m : Bool) (want err : Int) : Bool := refW i g m == want && refE i g == err
def isTop (i t : Int) (want err : Int) : Bool := topwW i t == want && topE i t == err
def isSlot (l : Int) (f : Bool) (v : Int) (want err : Int) : Bool := slotW l f v == want && slotE l f v == err
def isKey (p s q : Int) (want err : Int) : Bool := keyW p s q == want && keyE p s q == err

end Go.Proofs.Ytbkaclkbjpdfnaa
