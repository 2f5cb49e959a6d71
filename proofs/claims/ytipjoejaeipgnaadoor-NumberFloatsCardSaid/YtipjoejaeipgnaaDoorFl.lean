/- Floats as exact numbers: what a word of 64 bits stands for, what is rounded without loss, what is compared. Plain arithmetic, no program. Conditions: as each theorem says. -/
import Derived.Laws.FloatArith
set_option linter.unusedVariables false
set_option linter.unusedSimpArgs false
namespace Go.Proofs.YtipjoejaeipgnaaDoor.Fl
open Ieee
@[irreducible] def KK : Nat := 3000
theorem KK_ge : 2000 ≤ KK := by unfold KK; decide
/-- A magnitude, told in units far below all floats. -/
def u (m : Nat) (e : Int) : Nat := m * 2 ^ (e + KK).toNat
theorem u_shift (m : Nat) {e : Int} (h : -(KK : Int) ≤ e) (d : Nat) : u m (e + d) = u (m * 2 ^ d) e := by
  unfold u
  rw [show (e + d + KK).toNat = d + (e + KK).toNat by omega, Nat.pow_add, Nat.mul_assoc]
theorem u_zero (e : Int) : u 0 e = 0 := Nat.zero_mul _
theorem u_pos {m : Nat} (h : 0 < m) (e : Int) : 0 < u m e := Nat.mul_pos h (Nat.pow_pos (by decide))
theorem u_lt {m n : Nat} {e : Int} (h : m < n) : u m e < u n e := Nat.mul_lt_mul_of_pos_right h (Nat.pow_pos (by decide))
theorem u_le {m n : Nat} {e : Int} (h : m ≤ n) : u m e ≤ u n e := Nat.mul_le_mul_right _ h
theorem u_pow (a : Nat) {e : Int} (h : -(KK : Int) ≤ e) : u (2 ^ a) e = 2 ^ (a + (e + KK).toNat) := by
  unfold u
  rw [Nat.pow_add]
theorem u_mul (m n : Nat) {e f : Int} (he : -(KK : Int) ≤ e) (hf : 0 ≤ f) : u m (e + f) = u m e * 2 ^ f.toNat := by
  unfold u
  rw [show (e + f + KK).toNat = (e + KK).toNat + f.toNat by omega, Nat.pow_add, Nat.mul_assoc]
theorem u_inj {m n : Nat} {e : Int} (h : u m e = u n e) : m = n := Nat.eq_of_mul_eq_mul_right (Nat.pow_pos (by decide)) h
abbrev D : Format := Ieee.double
theorem D_binade : D.binade = 4503599627370496 := by decide
theorem D_sign : D.signWeight = 9223372036854775808 := by decide
theorem D_inf : D.infRung = 9218868437227405312 := by decide
theorem D_least : D.leastPlace = -1074 := by decide
def body (neg : Bool) (rung : Nat) : Datum :=
  if rung < 4503599627370496 then .number neg rung (-1074)
  else if rung < 9218868437227405312 then .number neg (4503599627370496 + rung % 4503599627370496) (-1074 + (rung / 4503599627370496 - 1 : Nat))
  else if rung = 9218868437227405312 then .infinity neg else .nan neg (rung - 9218868437227405312)
theorem read_eq (w : Nat) : D.read w = body (w / 9223372036854775808 % 2 == 1) (w % 9223372036854775808) := by
  unfold Format.read body
  simp only [D_binade, D_sign, D_inf, D_least]
theorem word_eq (neg : Bool) (r : Nat) : D.word neg r = if neg then 9223372036854775808 + r else r := by
  unfold Format.word
  rw [D_sign]
theorem read_word (neg : Bool) {r : Nat} (h : r < 9223372036854775808) : D.read (D.word neg r) = body neg r := by
  rw [read_eq, word_eq]
  cases neg
  · rw [if_neg (by decide), Nat.div_eq_of_lt h, Nat.mod_eq_of_lt h]
    rfl
  · rw [if_pos rfl, show (9223372036854775808 + r) / 9223372036854775808 = 1 by omega, show (9223372036854775808 + r) % 9223372036854775808 = r by omega]
    rfl
/-- A number that a word may stand for. -/
structure Num (m : Nat) (e : Int) : Prop where
  m : m < 9007199254740992
  lo : -1074 ≤ e
  hi : e ≤ 971
theorem body_cases (neg : Bool) {r : Nat} (h : r < 9223372036854775808) : (∃ m e, body neg r = .number neg m e ∧ Num m e) ∨ body neg r = .infinity neg ∨ ∃ t, body neg r = .nan neg t := by
  unfold body
  by_cases h1 : r < 4503599627370496
  · rw [if_pos h1]
    exact Or.inl ⟨r, -1074, rfl, by omega, by omega, by omega⟩
  · rw [if_neg h1]
    by_cases h2 : r < 9218868437227405312
    · rw [if_pos h2]
      exact Or.inl ⟨_, _, rfl, by omega, by omega, by omega⟩
    · rw [if_neg h2]
      by_cases h3 : r = 9218868437227405312
      · rw [if_pos h3]
        exact Or.inr (Or.inl rfl)
      · rw [if_neg h3]
        exact Or.inr (Or.inr ⟨_, rfl⟩)
theorem read_cases (w : Nat) : (∃ s m e, D.read w = .number s m e ∧ Num m e) ∨ (∃ s, D.read w = .infinity s) ∨ ∃ s t, D.read w = .nan s t := by
  rw [read_eq]
  rcases body_cases (w / 9223372036854775808 % 2 == 1) (r := w % 9223372036854775808) (Nat.mod_lt _ (by decide)) with ⟨m, e, h, hn⟩ | h | ⟨t, h⟩
  · exact Or.inl ⟨_, m, e, h, hn⟩
  · exact Or.inr (Or.inl ⟨_, h⟩)
  · exact Or.inr (Or.inr ⟨_, t, h⟩)
/-! ### Cutting -/
theorem cut_zero (s : Bool) (n d : Nat) : Toward.zero.cut s n d = n / 2 ^ d := by
  unfold Toward.cut
  simp only [Nat.one_shiftLeft, Bool.toNat_false, Nat.add_zero]
  by_cases h : d ≤ n.log2 + 2
  · rw [Nat.min_eq_left h]
  · have hl : n < 2 ^ (n.log2 + 1) := Nat.lt_log2_self
    have h1 : 2 ^ (n.log2 + 1) ≤ 2 ^ (n.log2 + 2) := Nat.pow_le_pow_right (by decide) (by omega)
    have h2 : 2 ^ (n.log2 + 2) ≤ 2 ^ d := Nat.pow_le_pow_right (by decide) (by omega)
    rw [Nat.min_eq_right (by omega), Nat.div_eq_of_lt (by omega), Nat.div_eq_of_lt (by omega)]
def inc (q r g : Nat) : Nat := if g < 2 * r ∨ (g = 2 * r ∧ q % 2 = 1) then 1 else 0
theorem cut_even (s : Bool) (n d : Nat) : Toward.even.cut s n d = n / 2 ^ d + inc (n / 2 ^ d) (n % 2 ^ d) (2 ^ d) := by
  have key : ∀ g, (n / g + ((decide (g < 2 * (n % g)) || (g == 2 * (n % g) && n / g % 2 == 1)).toNat)) = n / g + inc (n / g) (n % g) g := fun g => by
    congr 1
    unfold inc
    by_cases h1 : g < 2 * (n % g)
    · rw [decide_eq_true h1, if_pos (Or.inl h1), Bool.true_or]
      rfl
    · rw [decide_eq_false h1, Bool.false_or]
      by_cases h2 : g = 2 * (n % g) ∧ n / g % 2 = 1
      · rw [if_pos (Or.inr h2), beq_iff_eq.2 h2.1, beq_iff_eq.2 h2.2]
        rfl
      · rw [if_neg (fun e => e.elim h1 h2)]
        by_cases h3 : g = 2 * (n % g)
        · rw [beq_iff_eq.2 h3, beq_eq_false_iff_ne.2 (fun e => h2 ⟨h3, e⟩)]
          rfl
        · rw [beq_eq_false_iff_ne.2 h3]
          rfl
  unfold Toward.cut
  simp only [Nat.one_shiftLeft]
  by_cases h : d ≤ n.log2 + 2
  · rw [Nat.min_eq_left h]
    exact key _
  · have hl : n < 2 ^ (n.log2 + 1) := Nat.lt_log2_self
    have h1 : 2 ^ (n.log2 + 2) = 2 * 2 ^ (n.log2 + 1) := by rw [Nat.pow_succ]; omega
    have h2 : 2 ^ (n.log2 + 2) ≤ 2 ^ d := Nat.pow_le_pow_right (by decide) (by omega)
    rw [Nat.min_eq_right (by omega)]
    refine (key _).trans ?_
    rw [Nat.div_eq_of_lt (by omega), Nat.div_eq_of_lt (by omega), Nat.mod_eq_of_lt (by omega), Nat.mod_eq_of_lt (by omega)]
    unfold inc
    rw [if_neg (by omega), if_neg (by omega)]
theorem inc_zero (q g : Nat) (h : 0 < g) : inc q 0 g = 0 := if_neg (by omega)
/-! ### What is rounded without loss -/
theorem exact (neg : Bool) {mag : Nat} {place : Int} {m : Nat} {e : Int} (h0 : 0 < mag) (hp : -(KK : Int) ≤ place) (h : u mag place = u m e) (hn : Num m e) :
    ∃ k l, D.read (D.nearest neg mag place) = .number neg k l ∧ u k l = u mag place ∧ Num k l ∧ 0 < k := by
  have hK := KK_ge
  have hL1 : 2 ^ mag.log2 ≤ mag := Nat.log2_self_le (by omega)
  have hL2 : mag < 2 ^ (mag.log2 + 1) := Nat.lt_log2_self
  generalize hL : mag.log2 = L at hL1 hL2
  obtain ⟨hm, he1, he2⟩ := hn
  have hle : place + L - 52 ≤ e := by
    rcases Int.lt_or_le e (place + L - 52) with hlt | hle
    · exfalso
      have a1 : u m e < u (2 ^ 53) e := u_lt (by omega)
      have a2 : u (2 ^ L) place ≤ u mag place := u_le hL1
      rw [u_pow _ (by omega)] at a1 a2
      have a3 : 2 ^ (53 + (e + KK).toNat) ≤ 2 ^ (L + (place + KK).toNat) := Nat.pow_le_pow_right (by decide) (by omega)
      omega
    · exact hle
  have hnear : D.nearest neg mag place = D.word neg (min ((max (place + L - 52) (-1074) - -1074).toNat * 4503599627370496 + Toward.even.cut neg (mag <<< (place - max (place + L - 52) (-1074)).toNat) (max (place + L - 52) (-1074) - place).toNat) 9218868437227405312) := by
    unfold Format.nearest
    rw [if_neg (by omega)]
    simp only [hL, D_least, D_binade, D_inf]
    rfl
  have hlast1 : max (place + L - 52) (-1074) ≤ e := by omega
  have hlast2 : place + L - 52 ≤ max (place + L - 52) (-1074) := by omega
  have hlast3 : -1074 ≤ max (place + L - 52) (-1074) := by omega
  have hlast4 : max (place + L - 52) (-1074) = place + L - 52 ∨ max (place + L - 52) (-1074) = -1074 := by omega
  generalize max (place + L - 52) (-1074) = last at hnear hlast1 hlast2 hlast3 hlast4
  have hk : u (m * 2 ^ (e - last).toNat) last = u mag place := by
    rw [h, ← u_shift _ (by omega), show last + ((e - last).toNat : Nat) = e by omega]
  generalize m * 2 ^ (e - last).toNat = k at hk
  have hkept : Toward.even.cut neg (mag <<< (place - last).toNat) (last - place).toNat = k := by
    rw [cut_even, Nat.shiftLeft_eq]
    rcases Int.le_total last place with hc | hc
    · have e1 : mag * 2 ^ (place - last).toNat = k := by
        refine u_inj (e := last) ?_
        rw [← u_shift _ (by omega), show last + ((place - last).toNat : Nat) = place by omega, hk]
      rw [e1, show (last - place).toNat = 0 by omega, Nat.pow_zero, Nat.div_one, Nat.mod_one, inc_zero _ _ (by decide), Nat.add_zero]
    · have e1 : mag = k * 2 ^ (last - place).toNat := by
        refine u_inj (e := place) ?_
        rw [← u_shift _ (by omega), show place + ((last - place).toNat : Nat) = last by omega, hk]
      have hpos : 0 < 2 ^ (last - place).toNat := Nat.pow_pos (by decide)
      rw [show (place - last).toNat = 0 by omega, Nat.pow_zero, Nat.mul_one, e1, Nat.mul_div_cancel _ hpos, Nat.mul_mod_left, inc_zero _ _ hpos, Nat.add_zero]
  rw [hkept] at hnear
  have hk1 : k < 9007199254740992 := by
    rcases Nat.lt_or_ge k 9007199254740992 with hlt | hge
    · exact hlt
    · exfalso
      have a1 : u (2 ^ 53) last ≤ u k last := u_le (by omega)
      have a2 : u mag place < u (2 ^ (L + 1)) place := u_lt hL2
      rw [u_pow _ (by omega)] at a1 a2
      have a3 : 2 ^ (L + 1 + (place + KK).toNat) ≤ 2 ^ (53 + (last + KK).toNat) := Nat.pow_le_pow_right (by decide) (by omega)
      omega
  have hk2 : last = -1074 ∨ 4503599627370496 ≤ k := by
    rcases hlast4 with h4 | h4
    · right
      rcases Nat.lt_or_ge k 4503599627370496 with hlt | hge
      · exfalso
        have a1 : u k last < u (2 ^ 52) last := u_lt (by omega)
        have a2 : u (2 ^ L) place ≤ u mag place := u_le hL1
        rw [u_pow _ (by omega)] at a1 a2
        have a3 : 2 ^ (52 + (last + KK).toNat) ≤ 2 ^ (L + (place + KK).toNat) := Nat.pow_le_pow_right (by decide) (by omega)
        omega
      · exact hge
    · exact Or.inl h4
  have hk0 : 0 < k := by
    rcases Nat.eq_zero_or_pos k with e0 | e0
    · rw [e0, u_zero] at hk
      have := u_pos h0 place
      omega
    · exact e0
  refine ⟨k, last, ?_, hk, ⟨hk1, hlast3, by omega⟩, hk0⟩
  have hr : (last - -1074).toNat * 4503599627370496 + k < 9218868437227405312 := by omega
  rw [hnear, Nat.min_eq_left (by omega), read_word _ (by omega)]
  unfold body
  rcases hk2 with h5 | h5
  · subst h5
    rw [show ((-1074 : Int) - -1074).toNat * 4503599627370496 + k = k by omega]
    by_cases h6 : k < 4503599627370496
    · rw [if_pos h6]
    · rw [if_neg h6, if_pos (by omega), show 4503599627370496 + k % 4503599627370496 = k by omega, show k / 4503599627370496 - 1 = 0 by omega]
      rfl
  · obtain ⟨j, hj⟩ := Int.eq_ofNat_of_zero_le (show 0 ≤ last + 1074 by omega)
    rw [show (last - -1074).toNat = j by omega] at hr ⊢
    rw [if_neg (by omega), if_pos (by omega), show 4503599627370496 + (j * 4503599627370496 + k) % 4503599627370496 = k by omega, show (j * 4503599627370496 + k) / 4503599627370496 - 1 = j by omega, show -1074 + (j : Int) = last by omega]
theorem nearest_zero (neg : Bool) (place : Int) : D.nearest neg 0 place = D.word neg 0 := if_pos rfl
theorem read_zero (neg : Bool) : D.read (D.word neg 0) = .number neg 0 (-1074) := by
  rw [read_word _ (by decide)]
  rfl
/-- What is rounded is a number or an infinity. -/
theorem nearest_cases (neg : Bool) (mag : Nat) (place : Int) : (∃ m e, D.read (D.nearest neg mag place) = .number neg m e ∧ Num m e) ∨ D.read (D.nearest neg mag place) = .infinity neg := by
  have key : ∀ r, r ≤ 9218868437227405312 → (∃ m e, D.read (D.word neg r) = .number neg m e ∧ Num m e) ∨ D.read (D.word neg r) = .infinity neg := fun r hr => by
    rw [read_word _ (by omega)]
    unfold body
    by_cases h1 : r < 4503599627370496
    · rw [if_pos h1]
      exact Or.inl ⟨r, -1074, rfl, by omega, by omega, by omega⟩
    · rw [if_neg h1]
      by_cases h2 : r < 9218868437227405312
      · rw [if_pos h2]
        exact Or.inl ⟨_, _, rfl, by omega, by omega, by omega⟩
      · rw [if_neg h2, if_pos (by omega)]
        exact Or.inr rfl
  unfold Format.nearest
  split
  · exact key 0 (by decide)
  · refine key _ ?_
    rw [D_inf]
    exact Nat.min_le_right _ _
end Go.Proofs.YtipjoejaeipgnaaDoor.Fl
