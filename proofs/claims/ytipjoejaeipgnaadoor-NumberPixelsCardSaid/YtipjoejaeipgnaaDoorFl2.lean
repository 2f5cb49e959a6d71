/- Floats as exact numbers, second part: order, differences, whole numbers. Plain arithmetic, no program. Conditions: as each theorem says. -/
import Derived.Test.YtipjoejaeipgnaaDoorFl
set_option linter.unusedVariables false
set_option linter.unusedSimpArgs false
namespace Go.Proofs.YtipjoejaeipgnaaDoor.Fl
open Ieee
def val (s : Bool) (m : Nat) (e : Int) : Int := if s then -(u m e : Int) else (u m e : Int)
theorem val_zero (s : Bool) (e : Int) : val s 0 e = 0 := by
  unfold val
  rw [u_zero]
  cases s <;> rfl
theorem val_abs (s : Bool) (m : Nat) (e : Int) : (val s m e).natAbs = u m e := by
  unfold val
  cases s
  · rw [if_neg (by decide)]; omega
  · rw [if_pos rfl]; omega
theorem signed_val (s : Bool) (m : Nat) {i base : Int} (hb : -(KK : Int) ≤ base) (hi : base ≤ i) : signed s m (i - base).toNat * ((2 ^ (base + KK).toNat : Nat) : Int) = val s m i := by
  have e : m <<< (i - base).toNat * 2 ^ (base + KK).toNat = u m i := by
    rw [Nat.shiftLeft_eq]
    have := u_shift m hb (i - base).toNat
    rw [show base + ((i - base).toNat : Nat) = i by omega] at this
    exact this.symm
  unfold signed val
  cases s
  · rw [if_neg (by decide), if_neg (by decide), ← e, Int.natCast_mul]
  · rw [if_pos rfl, if_pos rfl, ← e, Int.natCast_mul, Int.neg_mul]
theorem cmp_mul (a b : Int) {P : Int} (hP : 0 < P) : compare (a * P) (b * P) = compare a b := by
  simp only [compare, compareOfLessAndEq]
  rcases Int.lt_trichotomy a b with h | h | h
  · rw [if_pos h, if_pos (Int.mul_lt_mul_of_pos_right h hP)]
  · subst h
    rw [if_neg (Int.lt_irrefl _), if_pos rfl, if_neg (Int.lt_irrefl _), if_pos rfl]
  · have h2 := Int.mul_lt_mul_of_pos_right h hP
    rw [if_neg (Int.not_lt.2 (Int.le_of_lt h2)), if_neg (fun e => Int.lt_irrefl _ (e ▸ h2)), if_neg (by omega), if_neg (by omega)]
theorem order_val {x y : Nat} {s t : Bool} {m n : Nat} {i j : Int} (hx : D.read x = .number s m i) (hy : D.read y = .number t n j) (hm : Num m i) (hn : Num n j) : D.order x y = some (compare (val s m i) (val t n j)) := by
  have hK := KK_ge
  have := hm.lo; have := hn.lo
  unfold Format.order
  rw [hx, hy]
  show some (compare (signed s m (i - min i j).toNat) (signed t n (j - min i j).toNat)) = _
  rw [← cmp_mul _ _ (P := ((2 ^ (min i j + KK).toNat : Nat) : Int)) (by have : 0 < 2 ^ (min i j + KK).toNat := Nat.pow_pos (by decide); omega), signed_val _ _ (by omega) (by omega), signed_val _ _ (by omega) (by omega)]
theorem cmp_gt (a b : Int) : (some (compare a b) == some Ordering.gt) = decide (b < a) := by
  simp only [compare, compareOfLessAndEq]
  rcases Int.lt_trichotomy a b with h | h | h
  · rw [if_pos h, decide_eq_false (by omega)]; rfl
  · subst h; rw [if_neg (by omega), if_pos rfl, decide_eq_false (by omega)]; rfl
  · rw [if_neg (by omega), if_neg (by omega), decide_eq_true h]; rfl
theorem cmp_lt (a b : Int) : (some (compare a b) == some Ordering.lt) = decide (a < b) := by
  simp only [compare, compareOfLessAndEq]
  rcases Int.lt_trichotomy a b with h | h | h
  · rw [if_pos h, decide_eq_true h]; rfl
  · subst h; rw [if_neg (by omega), if_pos rfl, decide_eq_false (by omega)]; rfl
  · rw [if_neg (by omega), if_neg (by omega), decide_eq_false (by omega)]; rfl
theorem cmp_eq (a b : Int) : (some (compare a b) == some Ordering.eq) = decide (a = b) := by
  simp only [compare, compareOfLessAndEq]
  rcases Int.lt_trichotomy a b with h | h | h
  · rw [if_pos h, decide_eq_false (by omega)]; rfl
  · subst h; rw [if_neg (by omega), if_pos rfl, decide_eq_true rfl]; rfl
  · rw [if_neg (by omega), if_neg (by omega), decide_eq_false (by omega)]; rfl
/-- A word that stands for a number of a value. -/
def Is (w : Nat) (v : Int) : Prop := ∃ s m e, D.read w = .number s m e ∧ Num m e ∧ val s m e = v
theorem is_order {x y : Nat} {a b : Int} (hx : Is x a) (hy : Is y b) : D.order x y = some (compare a b) := by
  obtain ⟨s, m, e, h1, h2, rfl⟩ := hx
  obtain ⟨t, n, f, g1, g2, rfl⟩ := hy
  exact order_val h1 g1 h2 g2
theorem is_write (s : Bool) {mag : Nat} {place : Int} {m : Nat} {e : Int} (hp : -(KK : Int) ≤ place) (h : u mag place = u m e) (hn : Num m e) : Is (D.nearest s mag place) (if s then -(u mag place : Int) else u mag place) := by
  rcases Nat.eq_zero_or_pos mag with h0 | h0
  · subst h0
    rw [nearest_zero]
    refine ⟨s, 0, -1074, read_zero s, ⟨by decide, by decide, by decide⟩, ?_⟩
    rw [val_zero, u_zero]
    cases s <;> rfl
  · obtain ⟨k, l, h1, h2, h3, h4⟩ := exact s h0 hp h hn
    refine ⟨s, k, l, h1, h3, ?_⟩
    unfold val
    rw [h2]
/-- A difference that a word can stand for. -/
theorem is_sub {x y : Nat} {a b : Int} (hx : Is x a) (hy : Is y b) {m : Nat} {e : Int} (hd : (a - b).natAbs = u m e) (hn : Num m e) : ∃ w, D.sub x y = some w ∧ Is w (a - b) := by
  have hK := KK_ge
  obtain ⟨s, p, i, h1, h2, rfl⟩ := hx
  obtain ⟨t, q, j, g1, g2, rfl⟩ := hy
  have := h2.lo; have := g2.lo
  have hb : -(KK : Int) ≤ min i j := by omega
  have hP : 0 < 2 ^ (min i j + KK).toNat := Nat.pow_pos (by decide)
  have ht : (signed s p (i - min i j).toNat + signed (!t) q (j - min i j).toNat) * ((2 ^ (min i j + KK).toNat : Nat) : Int) = val s p i - val t q j := by
    rw [Int.add_mul, signed_val _ _ hb (by omega), signed_val _ _ hb (by omega)]
    unfold val
    cases t <;> simp <;> omega
  have hw : D.sub x y = some (D.nearest (if signed s p (i - min i j).toNat + signed (!t) q (j - min i j).toNat = 0 then s && !t else decide (signed s p (i - min i j).toNat + signed (!t) q (j - min i j).toNat < 0)) (signed s p (i - min i j).toNat + signed (!t) q (j - min i j).toNat).natAbs (min i j)) := by
    unfold Format.sub
    rw [h1, g1]
    rfl
  generalize signed s p (i - min i j).toNat + signed (!t) q (j - min i j).toNat = tot at ht hw
  refine ⟨_, hw, ?_⟩
  have hu : u tot.natAbs (min i j) = (val s p i - val t q j).natAbs := by
    rw [← ht, Int.natAbs_mul]
    rfl
  have hz := is_write (if tot = 0 then s && !t else decide (tot < 0)) hb (hu.trans hd) hn
  have e : (if (if tot = 0 then s && !t else decide (tot < 0)) = true then -(u tot.natAbs (min i j) : Int) else (u tot.natAbs (min i j) : Int)) = val s p i - val t q j := by
    rw [hu]
    have hP2 : (0 : Int) ≤ ((2 ^ (min i j + KK).toNat : Nat) : Int) := Int.natCast_nonneg _
    generalize ((2 ^ (min i j + KK).toNat : Nat) : Int) = P at ht hP2
    rcases Int.lt_trichotomy tot 0 with h | h | h
    · rw [show (if tot = 0 then s && !t else decide (tot < 0)) = true by rw [if_neg (show ¬ tot = 0 by omega), decide_eq_true h], if_pos rfl]
      have h3 : val s p i - val t q j ≤ 0 := by
        rw [← ht]
        exact Int.mul_nonpos_of_nonpos_of_nonneg (by omega) (by omega)
      omega
    · subst h
      rw [Int.zero_mul] at ht
      rw [← ht]
      split <;> simp
    · rw [show (if tot = 0 then s && !t else decide (tot < 0)) = false by rw [if_neg (show ¬ tot = 0 by omega), decide_eq_false (show ¬ tot < 0 by omega)], if_neg (by decide)]
      have h3 : 0 ≤ val s p i - val t q j := by
        rw [← ht]
        exact Int.mul_nonneg (by omega) (by omega)
      omega
  rw [e] at hz
  exact hz
/-! ### One, and a half -/
def one : Nat := u 1 0
def hf : Nat := u 1 (-1)
theorem one_eq : one = 2 * hf := by
  have hK := KK_ge
  have := u_shift 1 (e := -1) (by omega) 1
  unfold one hf
  rw [show (-1 : Int) + ((1 : Nat) : Int) = 0 from rfl] at this
  rw [this]
  unfold u
  rw [Nat.mul_assoc, Nat.one_mul]
  omega
theorem hf_pos : 0 < hf := u_pos (by decide) _
theorem u_int (m : Nat) : u m 0 = m * one := by
  unfold one u
  rw [Nat.one_mul]
theorem u_nat (m : Nat) {e : Int} (he : 0 ≤ e) : u m e = m * 2 ^ e.toNat * one := by
  unfold one u
  rw [Nat.one_mul, Nat.mul_assoc, ← Nat.pow_add]
  congr 2
  omega
theorem u_part (m : Nat) {e : Int} (he : e < 0) (hk : -(KK : Int) ≤ e) : u m e = m * 2 ^ (e + KK).toNat ∧ one = 2 ^ (-e).toNat * 2 ^ (e + KK).toNat := by
  refine ⟨rfl, ?_⟩
  unfold one u
  rw [Nat.one_mul, ← Nat.pow_add]
  congr 1
  omega
theorem inc_mul (q r g : Nat) {P : Nat} (hP : 0 < P) : inc q (r * P) (g * P) = inc q r g := by
  unfold inc
  have a : g * P < 2 * (r * P) ↔ g < 2 * r := by
    rw [← Nat.mul_assoc]
    exact ⟨fun h => Nat.lt_of_mul_lt_mul_right h, fun h => Nat.mul_lt_mul_of_pos_right h hP⟩
  have b : g * P = 2 * (r * P) ↔ g = 2 * r := by
    rw [← Nat.mul_assoc]
    exact ⟨fun h => Nat.eq_of_mul_eq_mul_right hP h, fun h => by rw [h]⟩
  by_cases h : g < 2 * r ∨ (g = 2 * r ∧ q % 2 = 1)
  · rw [if_pos h, if_pos (by rw [a, b]; exact h)]
  · rw [if_neg h, if_neg (by rw [a, b]; exact h)]
/-- The whole part and what is left. -/
theorem whole (m : Nat) {e : Int} (hk : -(KK : Int) ≤ e) : (m <<< e.toNat) / 2 ^ (-e).toNat = u m e / one ∧ inc ((m <<< e.toNat) / 2 ^ (-e).toNat) ((m <<< e.toNat) % 2 ^ (-e).toNat) (2 ^ (-e).toNat) = inc (u m e / one) (u m e % one) one := by
  have ho : 0 < one := by rw [one_eq]; have := hf_pos; omega
  rw [Nat.shiftLeft_eq]
  rcases Int.lt_or_le e 0 with he | he
  · obtain ⟨h1, h2⟩ := u_part m he hk
    have hP : 0 < 2 ^ (e + KK).toNat := Nat.pow_pos (by decide)
    rw [show e.toNat = 0 by omega, Nat.pow_zero, Nat.mul_one, h1, h2, Nat.mul_div_mul_right _ _ hP, Nat.mul_mod_mul_right, inc_mul _ _ _ hP]
    exact ⟨rfl, rfl⟩
  · rw [u_nat m he, Nat.mul_div_cancel _ ho, Nat.mul_mod_left, inc_zero _ _ ho, show (-e).toNat = 0 by omega, Nat.pow_zero, Nat.div_one, Nat.mod_one, inc_zero _ _ (by decide)]
    exact ⟨rfl, rfl⟩
def sg (s : Bool) (n : Nat) : Int := if s then -(n : Int) else (n : Int)
theorem signed0 (s : Bool) (n : Nat) : signed s n 0 = sg s n := by
  unfold signed sg
  rw [Nat.shiftLeft_zero]
theorem toInt_zero {x : Nat} {s : Bool} {m : Nat} {e : Int} (h : D.read x = .number s m e) (hn : Num m e) : (D.read x).toInt .zero = some (sg s (u m e / one)) := by
  have hK := KK_ge
  have := hn.lo
  rw [h]
  show some (signed s (Toward.zero.cut s (m <<< e.toNat) (-e).toNat) 0) = _
  rw [cut_zero, (whole m (by omega)).1, signed0]
theorem round_even {x : Nat} {s : Bool} {m : Nat} {e : Int} (h : D.read x = .number s m e) (hn : Num m e) : D.write ((D.read x).integral .even) = D.nearest s (u m e / one + inc (u m e / one) (u m e % one) one) 0 := by
  have hK := KK_ge
  have := hn.lo
  rw [h]
  show D.nearest s (Toward.even.cut s (m <<< e.toNat) (-e).toNat) 0 = _
  rw [cut_even, (whole m (by omega)).2, (whole m (by omega)).1]
/-- A whole number that is not too great. -/
theorem is_int (s : Bool) {n : Nat} (hn : n < 9007199254740992) : Is (D.nearest s n 0) (sg s n * one) := by
  have hK := KK_ge
  have := is_write s (mag := n) (place := 0) (m := n) (e := 0) (by omega) rfl ⟨hn, by decide, by decide⟩
  rw [u_int] at this
  have e : (if s = true then -((n * one : Nat) : Int) else ((n * one : Nat) : Int)) = sg s n * one := by
    unfold sg
    cases s
    · rw [if_neg (by decide), if_neg (by decide), Int.natCast_mul]
    · rw [if_pos rfl, if_pos rfl, Int.natCast_mul, Int.neg_mul]
  rw [e] at this
  exact this
theorem toInt_int (s : Bool) {n : Nat} (hn : n < 9007199254740992) : (D.read (D.nearest s n 0)).toInt .zero = some (sg s n) := by
  have ho : 0 < one := by rw [one_eq]; have := hf_pos; omega
  rcases Nat.eq_zero_or_pos n with h0 | h0
  · subst h0
    rw [nearest_zero, toInt_zero (read_zero s) ⟨by decide, by decide, by decide⟩, u_zero, Nat.zero_div]
  · have hK := KK_ge
    obtain ⟨k, l, h1, h2, h3, h4⟩ := exact s (place := 0) h0 (by omega) rfl ⟨hn, by decide, by decide⟩
    rw [toInt_zero h1 h3, h2, u_int, Nat.mul_div_cancel _ ho]
end Go.Proofs.YtipjoejaeipgnaaDoor.Fl
