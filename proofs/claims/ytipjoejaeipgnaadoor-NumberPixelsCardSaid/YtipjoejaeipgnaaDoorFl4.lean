/- Floats by class, and their lengths: what each test of the two programs tells. Plain arithmetic, no program. Conditions: as each theorem says. -/
import Derived.Test.YtipjoejaeipgnaaDoorFl3
set_option linter.unusedVariables false
set_option linter.unusedSimpArgs false
namespace Go.Proofs.YtipjoejaeipgnaaDoor.Fl
open Ieee
theorem cmp_self (a : Int) : compare a a = Ordering.eq := by
  simp [compare, compareOfLessAndEq]
section
variable {b : Nat} {s : Bool} {m : Nat} {e : Int}
theorem self_num (h : D.read b = .number s m e) (hn : Num m e) : D.order b b = some .eq := by
  rw [order_val h h hn hn, cmp_self]
theorem self_inf (h : D.read b = .infinity s) : D.order b b = some .eq := by
  unfold Format.order
  rw [h]
  cases s <;> rfl
theorem self_nan {t : Nat} (h : D.read b = .nan s t) : D.order b b = none := by
  unfold Format.order
  rw [h]
  rfl
theorem max_num (h : D.read b = .number s m e) (hn : Num m e) : (D.order b CMF == some .gt) = false := by
  have hK := KK_ge
  obtain ⟨hm, hl, hh⟩ := hn
  rw [order_val h rdMF ⟨hm, hl, hh⟩ ⟨by decide, by decide, by decide⟩, cmp_gt]
  refine decide_eq_false ?_
  have h1 : u m e ≤ u 9007199254740991 e := u_le (by omega)
  have h2 := u_shift 9007199254740991 (e := e) (by omega) (971 - e).toNat
  rw [show e + ((971 - e).toNat : Nat) = 971 by omega] at h2
  have h3 : u 9007199254740991 e ≤ u (9007199254740991 * 2 ^ (971 - e).toNat) e := u_le (Nat.le_mul_of_pos_right _ (Nat.pow_pos (by decide)))
  unfold val
  rw [if_neg (show ¬ false = true by decide)]
  cases s
  · rw [if_neg (by decide)]; omega
  · rw [if_pos rfl]; omega
theorem max_inf (h : D.read b = .infinity s) : (D.order b CMF == some .gt) = !s := by
  unfold Format.order
  rw [h, rdMF]
  cases s <;> rfl
theorem xor_read (hb : b < 18446744073709551616) : (b ^^^ 9223372036854775808) / 9223372036854775808 % 2 = 1 - b / 9223372036854775808 % 2 ∧ (b ^^^ 9223372036854775808) % 9223372036854775808 = b % 9223372036854775808 := by
  have h1 : (b ^^^ 2 ^ 63) / 2 ^ 63 = (b / 2 ^ 63) ^^^ (2 ^ 63 / 2 ^ 63) := Nat.xor_div_two_pow
  have h2 : (b ^^^ 2 ^ 63) % 2 ^ 63 = (b % 2 ^ 63) ^^^ (2 ^ 63 % 2 ^ 63) := Nat.xor_mod_two_pow
  have h3 : b / 2 ^ 63 = 0 ∨ b / 2 ^ 63 = 1 := by omega
  constructor
  · show (b ^^^ 2 ^ 63) / 2 ^ 63 % 2 = 1 - b / 2 ^ 63 % 2
    rw [h1]
    rcases h3 with h3 | h3 <;> rw [h3] <;> rfl
  · show (b ^^^ 2 ^ 63) % 2 ^ 63 = b % 2 ^ 63
    rw [h2, Nat.mod_self, Nat.xor_zero]
theorem body_num {r : Nat} (h : body s r = .number s m e) (t : Bool) : body t r = .number t m e := by
  unfold body at h ⊢
  by_cases h1 : r < 4503599627370496
  · rw [if_pos h1] at h ⊢
    cases h
    rfl
  · rw [if_neg h1] at h ⊢
    by_cases h2 : r < 9218868437227405312
    · rw [if_pos h2] at h ⊢
      cases h
      rfl
    · rw [if_neg h2] at h
      split at h <;> cases h
theorem body_inf {r : Nat} (h : body s r = .infinity s) (t : Bool) : body t r = .infinity t := by
  unfold body at h ⊢
  by_cases h1 : r < 4503599627370496
  · rw [if_pos h1] at h
    cases h
  · rw [if_neg h1] at h ⊢
    by_cases h2 : r < 9218868437227405312
    · rw [if_pos h2] at h
      cases h
    · rw [if_neg h2] at h ⊢
      by_cases h3 : r = 9218868437227405312
      · rw [if_pos h3]
      · rw [if_neg h3] at h
        cases h
theorem body_sign (t : Bool) (r : Nat) : (body t r).neg = t := by
  unfold body
  split
  · rfl
  · split
    · rfl
    · split <;> rfl
theorem read_sign (hb : b < 18446744073709551616) : (D.read b).neg = decide (9223372036854775808 ≤ b) := by
  rw [read_eq, body_sign]
  by_cases h : 9223372036854775808 ≤ b
  · rw [decide_eq_true h, show b / 9223372036854775808 % 2 = 1 by omega]
    rfl
  · rw [decide_eq_false h, show b / 9223372036854775808 % 2 = 0 by omega]
    rfl
theorem neg_read (hb : b < 18446744073709551616) : D.read (b ^^^ 9223372036854775808) = body (!(D.read b).neg) (b % 9223372036854775808) ∧ D.read b = body (D.read b).neg (b % 9223372036854775808) := by
  have hx := xor_read hb
  have e1 : D.read b = body (D.read b).neg (b % 9223372036854775808) := by
    rw [read_eq, body_sign]
  refine ⟨?_, e1⟩
  rw [read_eq, hx.2, hx.1]
  congr 1
  rw [read_eq, body_sign]
  have h3 : b / 9223372036854775808 % 2 = 0 ∨ b / 9223372036854775808 % 2 = 1 := by omega
  rcases h3 with h3 | h3 <;> rw [h3] <;> rfl
theorem neg_num (hb : b < 18446744073709551616) (h : D.read b = .number s m e) : D.read (b ^^^ 9223372036854775808) = .number (!s) m e := by
  obtain ⟨h1, h2⟩ := neg_read hb
  rw [h] at h1 h2
  rw [h1]
  exact body_num h2.symm _
theorem neg_inf (hb : b < 18446744073709551616) (h : D.read b = .infinity s) : D.read (b ^^^ 9223372036854775808) = .infinity (!s) := by
  obtain ⟨h1, h2⟩ := neg_read hb
  rw [h] at h1 h2
  rw [h1]
  exact body_inf h2.symm _
theorem rd0 : D.read 0 = .number false 0 (-1074) := by decide +kernel
theorem n0 : Num 0 (-1074) := ⟨by decide, by decide, by decide⟩
theorem zero_num (h : D.read b = .number s m e) (hn : Num m e) : D.order b 0 = some .eq ↔ m = 0 := by
  rw [order_val h rd0 hn n0, val_zero]
  have hc := cmp_eq (val s m e) 0
  have hz : val s m e = 0 ↔ m = 0 := by
    constructor
    · intro hv
      rcases Nat.eq_zero_or_pos m with h0 | h0
      · exact h0
      · have := u_pos h0 e
        have ha := val_abs s m e
        rw [hv] at ha
        omega
    · rintro rfl
      exact val_zero s e
  rw [← hz]
  constructor
  · intro hq
    rw [hq] at hc
    exact of_decide_eq_true hc.symm
  · intro hq
    rw [hq, cmp_self]
theorem zero_inf (h : D.read b = .infinity s) : D.order b 0 = some (if s then .lt else .gt) := by
  unfold Format.order
  rw [h, rd0]
  rfl
/-! ### What the differences and quotients of a class's test are -/
theorem sub_self (h : D.read b = .number s m e) (hn : Num m e) : ∃ w, D.sub b b = some w ∧ D.order w 0 = some .eq := by
  obtain ⟨w, h1, h2⟩ := is_sub (x := b) (y := b) ⟨s, m, e, h, hn, rfl⟩ ⟨s, m, e, h, hn, rfl⟩ (m := 0) (e := -1074) (by rw [Int.sub_self, u_zero]; rfl) n0
  refine ⟨w, h1, ?_⟩
  rw [is_order h2 ⟨_, _, _, rd0, n0, rfl⟩, val_zero, Int.sub_self, cmp_self]
theorem sub_inf (h : D.read b = .infinity s) : D.sub b b = none := by
  unfold Format.sub
  rw [h]
  cases s <;> rfl
def C1 : Nat := 4607182418800017408
theorem rd1 : D.read C1 = .number false 4503599627370496 (-52) := by decide +kernel
theorem quo_zero (h : D.read b = .number s 0 e) : ∃ w, D.div C1 b = some w ∧ (D.order w 0 == some .lt) = s := by
  have hw : D.div C1 b = some (D.word s D.infRung) := by
    unfold Format.div
    rw [h, rd1]
    cases s <;> rfl
  refine ⟨_, hw, ?_⟩
  have hr : D.read (D.word s D.infRung) = .infinity s := by cases s <;> decide +kernel
  rw [zero_inf hr]
  cases s <;> rfl
/-! ### Sixty-four times -/
theorem mul_num (h : D.read b = .number s m e) : D.mul b C64 = some (D.nearest s (m * 4503599627370496) (e + -46)) := by
  unfold Format.mul
  rw [h, rd64]
  show some (D.nearest (s ^^ false) _ _) = _
  rw [Bool.xor_false]
theorem mul_inf (h : D.read b = .infinity s) : ∃ x, D.mul b C64 = some x ∧ D.read x = .infinity s := by
  have hw : D.mul b C64 = some (D.word s D.infRung) := by
    unfold Format.mul
    rw [h, rd64]
    show some (D.word (s ^^ false) _) = _
    rw [Bool.xor_false]
  exact ⟨_, hw, by cases s <;> decide +kernel⟩
end
theorem class_num {b : Nat} {s : Bool} {m : Nat} {e : Int} (h : D.read b = .number s m e) : ClassV b = if m = 0 then (if s then 4 else 3) else 0 := by
  unfold ClassV
  rw [h]
theorem class_inf {b : Nat} {s : Bool} (h : D.read b = .infinity s) : ClassV b = 2 := by
  unfold ClassV
  rw [h]
theorem class_nan {b : Nat} {s : Bool} {t : Nat} (h : D.read b = .nan s t) : ClassV b = 1 := by
  unfold ClassV
  rw [h]
def nFrom (b : Nat) : Option (Int × Int) := if ClassV b = 1 then some (0, 20) else if ClassV b = 2 then some (0, 10) else if ClassV b = 3 then some (0, 0) else if ClassV b = 4 then some (0, 0) else (D.mul b C64).bind nLen
def rFrom (b : Nat) : Option (Int × Int) := if ClassV b = 1 then some (0, 20) else (D.mul b C64).bind rLen
theorem froms_zero {b : Nat} {s : Bool} {e : Int} (h : D.read b = .number s 0 e) : nFrom b = some (0, 0) ∧ rFrom b = some (0, 0) := by
  have hc : ClassV b = 3 ∨ ClassV b = 4 := by
    rw [class_num h, if_pos rfl]
    cases s
    · exact Or.inl rfl
    · exact Or.inr rfl
  have h1 : ¬ ClassV b = 1 := by omega
  have h2 : ¬ ClassV b = 2 := by omega
  have hx := mul_num h
  rw [Nat.zero_mul, nearest_zero] at hx
  have hr := rLen_num (read_zero s) n0 (by rw [u_zero]; exact Nat.not_lt_zero _)
  rw [u_zero, Nat.zero_div, Nat.zero_mod, inc_zero _ _ one_pos, show sg s (0 + 0) = 0 by cases s <;> rfl] at hr
  unfold nFrom rFrom
  constructor
  · rw [if_neg h1, if_neg h2]
    by_cases h3 : ClassV b = 3
    · rw [if_pos h3]
    · rw [if_neg h3, if_pos (by omega)]
  · rw [if_neg h1, hx, Option.bind_some, hr]
theorem froms_plain {b : Nat} {s : Bool} {m : Nat} {e : Int} (h : D.read b = .number s m e) (h0 : ¬ m = 0) : ∃ n g, nFrom b = some (n, g) ∧ rFrom b = some (n, g) := by
  have hc : ClassV b = 0 := by rw [class_num h, if_neg h0]
  have hx := mul_num h
  have hl : ∃ n g, nLen (D.nearest s (m * 4503599627370496) (e + -46)) = some (n, g) ∧ rLen (D.nearest s (m * 4503599627370496) (e + -46)) = some (n, g) := by
    rcases nearest_cases s (m * 4503599627370496) (e + -46) with ⟨k, l, h1, h2⟩ | h1
    · exact lens (Or.inl ⟨s, k, l, h1, h2⟩)
    · exact lens (Or.inr ⟨s, h1⟩)
  generalize D.nearest s (m * 4503599627370496) (e + -46) = x at hx hl
  obtain ⟨n, g, e1, e2⟩ := hl
  unfold nFrom rFrom
  refine ⟨n, g, ?_, ?_⟩
  · rw [if_neg (by omega), if_neg (by omega), if_neg (by omega), if_neg (by omega), hx, Option.bind_some, e1]
  · rw [if_neg (by omega), hx, Option.bind_some, e2]
theorem froms_inf {b : Nat} {s : Bool} (h : D.read b = .infinity s) : nFrom b = some (0, 10) ∧ rFrom b = some (0, 10) := by
  have hc := class_inf h
  obtain ⟨x, hx, h1⟩ := mul_inf h
  have hl : rLen x = some (0, 10) := by
    unfold rLen
    rw [if_pos (rOver_inf h1)]
  unfold nFrom rFrom
  constructor
  · rw [if_neg (by omega), if_pos hc]
  · rw [if_neg (by omega), hx, Option.bind_some, hl]
theorem froms_nan {b : Nat} {s : Bool} {t : Nat} (h : D.read b = .nan s t) : nFrom b = some (0, 20) ∧ rFrom b = some (0, 20) := by
  have hc := class_nan h
  unfold nFrom rFrom
  exact ⟨if_pos hc, if_pos hc⟩
/-- A float has the same length by both. -/
theorem froms (b : Nat) : ∃ n g, nFrom b = some (n, g) ∧ rFrom b = some (n, g) := by
  rcases read_cases b with ⟨s, m, e, h, hn⟩ | ⟨s, h⟩ | ⟨s, t, h⟩
  · by_cases h0 : m = 0
    · subst h0
      exact ⟨_, _, froms_zero h⟩
    · exact froms_plain h h0
  · exact ⟨_, _, froms_inf h⟩
  · exact ⟨_, _, froms_nan h⟩
/-! ### A length as a float -/
theorem quotient_num (d : Nat) (s t : Bool) (m n : Nat) (i j : Int) (hn : ¬ n = 0) : Datum.quotient d (.number s m i) (.number t n j) = some (.number (s ^^ t) (2 * ((m <<< (d + n.log2 - m.log2)) / n) + ((m <<< (d + n.log2 - m.log2)) % n != 0).toNat) (i - j - (d + n.log2 - m.log2 : Nat) - 1)) := by
  simp only [Datum.quotient]
  rw [if_neg hn]
def TF (n : Int) : Nat := if n < -9007199254740992 ∨ n > 9007199254740992 then 0 else (D.div (ofI n) C64).getD 0
theorem div64 {x : Nat} {s : Bool} {m : Nat} {e : Int} (h : D.read x = .number s m e) (hn : Num m e) : ∃ mag place, D.div x C64 = some (D.nearest s mag place) ∧ -(KK : Int) ≤ place ∧ u mag place = u m (e - 6) := by
  have hK := KK_ge
  obtain ⟨hm, hl, hh⟩ := hn
  have hlog : m.log2 ≤ 52 := by
    rcases Nat.eq_zero_or_pos m with h0 | h0
    · subst h0
      decide
    · rcases Nat.lt_or_ge 52 m.log2 with h1 | h1
      · have h2 : 2 ^ m.log2 ≤ m := Nat.log2_self_le (by omega)
        have h3 : 2 ^ 53 ≤ 2 ^ m.log2 := Nat.pow_le_pow_right (by decide) (by omega)
        omega
      · exact h1
  have hd : D.div x C64 = some (D.nearest s (2 * ((m <<< (54 + 52 - m.log2)) / 4503599627370496) + ((m <<< (54 + 52 - m.log2)) % 4503599627370496 != 0).toNat) (e - -46 - (54 + 52 - m.log2 : Nat) - 1)) := by
    have hl2 : Nat.log2 4503599627370496 = 52 := by decide +kernel
    unfold Format.div
    rw [h, rd64, quotient_num _ _ _ _ _ _ _ (by decide), hl2, Bool.xor_false]
    rfl
  have hs : m <<< (54 + 52 - m.log2) = m * 2 ^ (54 - m.log2) * 4503599627370496 := by
    rw [Nat.shiftLeft_eq, Nat.mul_assoc, show (4503599627370496 : Nat) = 2 ^ 52 from rfl, ← Nat.pow_add]
    congr 2
    omega
  rw [hs, Nat.mul_div_cancel _ (by decide), Nat.mul_mod_left] at hd
  refine ⟨_, _, hd, by omega, ?_⟩
  show u (2 * (m * 2 ^ (54 - m.log2)) + 0) _ = _
  rw [Nat.add_zero, show 2 * (m * 2 ^ (54 - m.log2)) = m * 2 ^ (55 - m.log2) by rw [show 55 - m.log2 = 54 - m.log2 + 1 by omega, Nat.pow_succ]; generalize 2 ^ (54 - m.log2) = q; rw [← Nat.mul_assoc, Nat.mul_comm 2 m, Nat.mul_assoc, Nat.mul_comm 2 q], ← u_shift _ (by omega)]
  congr 1
  omega
theorem TF_in {n : Int} (hn : -9007199254740992 < n ∧ n < 9007199254740992) : ∃ s m e, D.div (ofI n) C64 = some (TF n) ∧ D.read (TF n) = .number s m e ∧ Num m e ∧ u m e = u n.natAbs (-6) ∧ (n ≠ 0 → sg s n.natAbs = n ∧ 0 < m) := by
  have hK := KK_ge
  have hs : sg (decide (n < 0)) n.natAbs = n := by
    unfold sg
    by_cases h0 : n < 0
    · rw [decide_eq_true h0, if_pos rfl]; omega
    · rw [decide_eq_false h0, if_neg (by decide)]; omega
  have hT : ∀ w, D.div (ofI n) C64 = some w → TF n = w := fun w h => by
    unfold TF
    rw [if_neg (by omega), h]
    rfl
  have ho : ofI n = D.nearest (decide (n < 0)) n.natAbs 0 := rfl
  by_cases h0 : n = 0
  · subst h0
    have hz : D.read (ofI 0) = .number false 0 (-1074) := by decide +kernel
    obtain ⟨mag, place, h1, h2, h3⟩ := div64 hz n0
    rw [u_zero] at h3
    have hmag : mag = 0 := by
      rcases Nat.eq_zero_or_pos mag with h4 | h4
      · exact h4
      · have := u_pos h4 place
        omega
    subst hmag
    rw [nearest_zero] at h1
    refine ⟨false, 0, -1074, by rw [hT _ h1]; exact h1, by rw [hT _ h1]; exact read_zero false, n0, by rw [u_zero]; exact (u_zero _).symm, fun h => absurd rfl h⟩
  · obtain ⟨k, l, h1, h2, h3, h4⟩ := exact (decide (n < 0)) (mag := n.natAbs) (place := 0) (m := n.natAbs) (e := 0) (by omega) (by omega) rfl ⟨by omega, by decide, by decide⟩
    rw [← ho] at h1
    obtain ⟨mag, place, g1, g2, g3⟩ := div64 h1 h3
    have e6 : u k (l - 6) = u n.natAbs (-6) := by
      have hl := h3.lo
      have a1 := u_mul k 0 (e := l - 6) (f := 6) (by omega) (by decide)
      have a2 := u_mul n.natAbs 0 (e := -6) (f := 6) (by omega) (by decide)
      rw [show l - 6 + 6 = l by omega] at a1
      rw [show (-6 : Int) + 6 = 0 from rfl] at a2
      have a3 := a1.symm.trans (h2.trans a2)
      exact Nat.eq_of_mul_eq_mul_right (Nat.pow_pos (by decide)) a3
    have hmag : 0 < mag := by
      rcases Nat.eq_zero_or_pos mag with h5 | h5
      · subst h5
        rw [u_zero] at g3
        have := u_pos h4 (l - 6)
        omega
      · exact h5
    obtain ⟨k2, l2, f1, f2, f3, f4⟩ := exact (decide (n < 0)) hmag g2 (g3.trans e6) ⟨by omega, by decide, by decide⟩
    exact ⟨decide (n < 0), k2, l2, by rw [hT _ g1]; exact g1, by rw [hT _ g1]; exact f1, f3, f2.trans (g3.trans e6), fun _ => ⟨hs, f4⟩⟩
/-- A length comes back from its float. -/
theorem back {n : Int} (hn : -68719476736 ≤ n ∧ n ≤ 68719476736) : nFrom (TF n) = some (n, 0) := by
  have hK := KK_ge
  obtain ⟨s, m, e, h1, h2, h3, h4, h5⟩ := TF_in (n := n) (by omega)
  unfold nFrom
  rw [class_num h2]
  by_cases h0 : n = 0
  · subst h0
    have hm : m = 0 := by
      rcases Nat.eq_zero_or_pos m with h | h
      · exact h
      · have := u_pos h e
        rw [h4, show Int.natAbs 0 = 0 from rfl, u_zero] at this
        omega
    rw [if_pos hm]
    cases s <;> rfl
  · obtain ⟨hs, hm⟩ := h5 h0
    rw [if_neg (show ¬ m = 0 by omega), if_neg (by decide), if_neg (by decide), if_neg (by decide), if_neg (by decide), mul_num h2, Option.bind_some]
    have hl := h3.lo
    have hu : u (m * 4503599627370496) (e + -46) = u n.natAbs 0 := by
      have a1 := u_shift m (e := e + -46) (by omega) 52
      rw [show e + -46 + ((52 : Nat) : Int) = e + 6 by omega] at a1
      have a2 := u_mul m 0 (e := e) (f := 6) (by omega) (by decide)
      have a3 := u_mul n.natAbs 0 (e := -6) (f := 6) (by omega) (by decide)
      rw [show (-6 : Int) + 6 = 0 from rfl] at a3
      rw [a3, ← h4, ← a2, a1]
    obtain ⟨k, l, f1, f2, f3, f4⟩ := exact s (by omega) (by omega) hu ⟨by omega, by decide, by decide⟩
    rw [hu, u_int] at f2
    have ho : ¬ 68719476736 * one < u k l := by
      rw [f2]
      exact Nat.not_lt.2 (Nat.mul_le_mul_right _ (by omega))
    rw [nLen_num f1 f3 ho, f2, Nat.mul_div_cancel _ one_pos, Nat.mul_mod_left, inc_zero _ _ one_pos, Nat.add_zero, hs]
/-- What is between a float and its length: not more than a half. -/
theorem near {b : Nat} {n : Int} (h : nFrom b = some (n, 0)) : ∃ x d, D.mul b C64 = some x ∧ D.sub x (ofI n) = some d ∧ ((D.order d CNH == some .gt) || (D.order d CNH == some .eq)) = true ∧ ((D.order d CH == some .lt) || (D.order d CH == some .eq)) = true := by
  have hK := KK_ge
  have done : ∀ {x : Nat} {s : Bool} {m : Nat} {e : Int}, D.mul b C64 = some x → D.read x = .number s m e → Num m e → ¬ 68719476736 * one < u m e → n = sg s (u m e / one + inc (u m e / one) (u m e % one) one) → ∃ x d, D.mul b C64 = some x ∧ D.sub x (ofI n) = some d ∧ ((D.order d CNH == some .gt) || (D.order d CNH == some .eq)) = true ∧ ((D.order d CH == some .lt) || (D.order d CH == some .eq)) = true := by
    intro x s m e hx hr hn ho hq
    have hq1 := q_small ho
    have hi := inc_le (u m e / one) (u m e % one) one
    have hdm := Nat.div_add_mod (u m e) one
    have hlt := Nat.mod_lt (u m e) one_pos
    obtain ⟨m', e', r1, r2, r3⟩ := rest_num hn
    have hnb : n.natAbs < 9007199254740992 := by
      have := sg_bd s (n := u m e / one + inc (u m e / one) (u m e % one) one) (by omega)
      omega
    have ho1 := one_eq
    have hp := hf_pos
    by_cases hc : one < 2 * (u m e % one) ∨ (one = 2 * (u m e % one) ∧ u m e / one % 2 = 1)
    · have hin : inc (u m e / one) (u m e % one) one = 1 := if_pos hc
      rw [hin] at hq
      have hv : val s m e - n * one = if s then ((one - u m e % one : Nat) : Int) else -((one - u m e % one : Nat) : Int) := by
        rw [hq]
        unfold val sg
        generalize u m e / one = q at hdm
        generalize u m e % one = r at hdm hlt
        rw [← hdm]
        cases s
        · rw [if_neg (by decide), if_neg (by decide), if_neg (by decide), Int.natCast_add, Int.natCast_mul, Int.natCast_add, Int.add_mul, Int.mul_comm]
          omega
        · rw [if_pos rfl, if_pos rfl, if_pos rfl, Int.natCast_add, Int.natCast_mul, Int.natCast_add, Int.neg_mul, Int.add_mul, Int.mul_comm]
          omega
      have hrep : ∃ m2 e2, one - u m e % one = u m2 e2 ∧ Num m2 e2 := by
        rcases hc with hc | hc
        · exact r3 hc
        · refine ⟨m', e', ?_, r2⟩
          rw [← r1]
          omega
      obtain ⟨m2, e2, t1, t2⟩ := hrep
      have hab : (val s m e - n * one).natAbs = u m2 e2 := by
        rw [hv, ← t1]
        cases s
        · rw [if_neg (by decide)]; omega
        · rw [if_pos rfl]; omega
      obtain ⟨d, hd, hi2⟩ := is_sub ⟨s, m, e, hr, hn, rfl⟩ (ofI_is hnb) hab t2
      rw [hv] at hi2
      refine ⟨x, d, hx, hd, ?_, ?_⟩
      · rw [is_order hi2 isNH, cmp_gt, cmp_eq, ← Bool.decide_or]
        refine decide_eq_true ?_
        cases s
        · rw [if_neg (by decide)]; omega
        · rw [if_pos rfl]; omega
      · rw [is_order hi2 isH, cmp_lt, cmp_eq, ← Bool.decide_or]
        refine decide_eq_true ?_
        cases s
        · rw [if_neg (by decide)]; omega
        · rw [if_pos rfl]; omega
    · have hin : inc (u m e / one) (u m e % one) one = 0 := if_neg hc
      rw [hin, Nat.add_zero] at hq
      have hv : val s m e - n * one = if s then -((u m e % one : Nat) : Int) else ((u m e % one : Nat) : Int) := by
        rw [hq]
        unfold val sg
        generalize u m e / one = q at hdm
        generalize u m e % one = r at hdm
        rw [← hdm]
        cases s
        · rw [if_neg (by decide), if_neg (by decide), if_neg (by decide), Int.natCast_add, Int.natCast_mul, Int.mul_comm]
          omega
        · rw [if_pos rfl, if_pos rfl, if_pos rfl, Int.natCast_add, Int.natCast_mul, Int.neg_mul, Int.mul_comm]
          omega
      have hab : (val s m e - n * one).natAbs = u m' e' := by
        rw [hv, ← r1]
        cases s
        · rw [if_neg (by decide)]; omega
        · rw [if_pos rfl]; omega
      obtain ⟨d, hd, hi2⟩ := is_sub ⟨s, m, e, hr, hn, rfl⟩ (ofI_is hnb) hab r2
      rw [hv] at hi2
      refine ⟨x, d, hx, hd, ?_, ?_⟩
      · rw [is_order hi2 isNH, cmp_gt, cmp_eq, ← Bool.decide_or]
        refine decide_eq_true ?_
        cases s
        · rw [if_neg (by decide)]; omega
        · rw [if_pos rfl]; omega
      · rw [is_order hi2 isH, cmp_lt, cmp_eq, ← Bool.decide_or]
        refine decide_eq_true ?_
        cases s
        · rw [if_neg (by decide)]; omega
        · rw [if_pos rfl]; omega
  unfold nFrom at h
  rcases read_cases b with ⟨s, m, e, hb, hn⟩ | ⟨s, hb⟩ | ⟨s, t, hb⟩
  · rw [class_num hb] at h
    have hx := mul_num hb
    by_cases h0 : m = 0
    · subst h0
      rw [Nat.zero_mul, nearest_zero] at hx
      rw [if_pos rfl] at h
      have hz : n = 0 := by
        cases s
        · exact (Prod.mk.inj (Option.some.inj (h : some ((0 : Int), (0 : Int)) = _))).1.symm
        · exact (Prod.mk.inj (Option.some.inj (h : some ((0 : Int), (0 : Int)) = _))).1.symm
      refine done hx (read_zero s) n0 (by rw [u_zero]; exact Nat.not_lt_zero _) ?_
      rw [u_zero, Nat.zero_div, Nat.zero_mod, inc_zero _ _ one_pos, hz]
      cases s <;> rfl
    · rw [if_neg h0, if_neg (by decide), if_neg (by decide), if_neg (by decide), if_neg (by decide), hx, Option.bind_some] at h
      have h' := h
      rcases nearest_cases s (m * 4503599627370496) (e + -46) with ⟨k, l, h1, h2⟩ | h1
      · by_cases ho : 68719476736 * one < u k l
        · unfold nLen at h'
          rw [nOver_num h1 h2, decide_eq_true ho, if_pos rfl] at h'
          cases h'
        · rw [nLen_num h1 h2 ho] at h'
          exact done hx h1 h2 ho (Prod.mk.inj (Option.some.inj h')).1.symm
      · unfold nLen at h'
        rw [nOver_inf h1, if_pos rfl] at h'
        cases h'
  · rw [class_inf hb] at h
    cases h
  · rw [class_nan hb] at h
    cases h
end Go.Proofs.YtipjoejaeipgnaaDoor.Fl
