/- Floats as lengths: the class of a float, the length of one, by two ways of reckoning. Plain arithmetic, no program. Conditions: as each theorem says. -/
import Derived.Test.YtipjoejaeipgnaaDoorFl2
set_option linter.unusedVariables false
set_option linter.unusedSimpArgs false
namespace Go.Proofs.YtipjoejaeipgnaaDoor.Fl
open Ieee
def C64 : Nat := 4634204016564240384
def CMAX : Nat := 4769312005385355264
def CMIN : Nat := 13992684042240131072
def CH : Nat := 4602678819172646912
def CNH : Nat := 13826050856027422720
def CMF : Nat := 9218868437227405311
theorem rd64 : D.read C64 = .number false 4503599627370496 (-46) := by decide +kernel
theorem rdMax : D.read CMAX = .number false 4503599627370496 (-16) := by decide +kernel
theorem rdMin : D.read CMIN = .number true 4503599627370496 (-16) := by decide +kernel
theorem rdH : D.read CH = .number false 4503599627370496 (-53) := by decide +kernel
theorem rdNH : D.read CNH = .number true 4503599627370496 (-53) := by decide +kernel
theorem rdMF : D.read CMF = .number false 9007199254740991 971 := by decide +kernel
theorem u_big : u 4503599627370496 (-16) = 68719476736 * one := by
  have hK := KK_ge
  have h := u_shift 68719476736 (e := -16) (by omega) 16
  rw [show (-16 : Int) + ((16 : Nat) : Int) = 0 from rfl, u_int] at h
  rw [h]
theorem u_half : u 4503599627370496 (-53) = hf := by
  have hK := KK_ge
  have h := u_shift 1 (e := -53) (by omega) 52
  rw [show (-53 : Int) + ((52 : Nat) : Int) = -1 from rfl] at h
  unfold hf
  rw [h]
theorem isMax : Is CMAX (68719476736 * (one : Int)) := ⟨_, _, _, rdMax, ⟨by decide, by decide, by decide⟩, by unfold val; rw [if_neg (by decide), u_big, Int.natCast_mul]; rfl⟩
theorem isMin : Is CMIN (-(68719476736 * (one : Int))) := ⟨_, _, _, rdMin, ⟨by decide, by decide, by decide⟩, by unfold val; rw [if_pos rfl, u_big, Int.natCast_mul]; rfl⟩
theorem isH : Is CH (hf : Int) := ⟨_, _, _, rdH, ⟨by decide, by decide, by decide⟩, by unfold val; rw [if_neg (by decide), u_half]⟩
theorem isNH : Is CNH (-(hf : Int)) := ⟨_, _, _, rdNH, ⟨by decide, by decide, by decide⟩, by unfold val; rw [if_pos rfl, u_half]⟩
def ClassV (b : Nat) : Int :=
  match D.read b with
  | .nan .. => 1
  | .infinity _ => 2
  | .number s m _ => if m = 0 then (if s then 4 else 3) else 0
/-- To the nearest whole number, the even one between two. -/
def RE (x : Nat) : Nat := D.write ((D.read x).integral .even)
def toI (x : Nat) : Option Int := match (D.read x).toInt .zero with
  | some n => if -9223372036854775808 ≤ n ∧ n ≤ 9223372036854775807 then some n else none
  | none => none
def ofI (n : Int) : Nat := D.write (.number (n < 0) n.natAbs 0)
def nOver (x : Nat) : Bool := D.order (x % 9223372036854775808) CMAX == some .gt
def rOver (x : Nat) : Bool := (D.order x CMAX == some .gt) || (D.order x CMIN == some .lt)
def nLen (x : Nat) : Option (Int × Int) := if nOver x = true then some (0, 10) else (toI (RE x)).bind fun n => some (n, 0)
def up (n : Int) (l : Nat) : Bool := (D.order l CH == some .gt) || ((D.order l CH == some .eq) && (n.tmod 2 != 0))
def dn (n : Int) (l : Nat) : Bool := (D.order l CNH == some .lt) || ((D.order l CNH == some .eq) && (n.tmod 2 != 0))
def rLen (x : Nat) : Option (Int × Int) := if rOver x = true then some (0, 10) else (toI x).bind fun n => (D.sub x (ofI n)).bind fun l => if up n l = true then some (n + 1, 0) else if dn n l = true then some (n - 1, 0) else some (n, 0)
theorem abs_read {w : Nat} {s : Bool} {m : Nat} {e : Int} (h : D.read w = .number s m e) : D.read (w % 9223372036854775808) = .number false m e := by
  rw [read_eq] at h ⊢
  rw [Nat.mod_mod, Nat.div_eq_of_lt (Nat.mod_lt _ (by decide))]
  generalize w % 9223372036854775808 = r at h ⊢
  show body false r = _
  unfold body at h ⊢
  by_cases h1 : r < 4503599627370496
  · rw [if_pos h1] at h ⊢
    cases h
    rfl
  · rw [if_neg h1] at h ⊢
    by_cases h2 : r < 9218868437227405312
    · rw [if_pos h2] at h ⊢
      cases h
      rfl
    · rw [if_neg h2] at h
      split at h <;> cases h
theorem abs_inf {w : Nat} {s : Bool} (h : D.read w = .infinity s) : D.read (w % 9223372036854775808) = .infinity false := by
  rw [read_eq] at h ⊢
  rw [Nat.mod_mod, Nat.div_eq_of_lt (Nat.mod_lt _ (by decide))]
  generalize w % 9223372036854775808 = r at h ⊢
  show body false r = _
  unfold body at h ⊢
  by_cases h1 : r < 4503599627370496
  · rw [if_pos h1] at h
    cases h
  · rw [if_neg h1] at h ⊢
    by_cases h2 : r < 9218868437227405312
    · rw [if_pos h2] at h
      cases h
    · rw [if_neg h2] at h ⊢
      by_cases h3 : r = 9218868437227405312
      · rw [if_pos h3]
      · rw [if_neg h3] at h
        cases h
section
variable {x : Nat} {s : Bool} {m : Nat} {e : Int}
theorem nOver_inf (h : D.read x = .infinity s) : nOver x = true := by
  unfold nOver Format.order
  rw [abs_inf h, rdMax]
  rfl
theorem rOver_inf (h : D.read x = .infinity s) : rOver x = true := by
  unfold rOver Format.order
  rw [h, rdMax, rdMin]
  cases s <;> rfl
theorem nOver_num (h : D.read x = .number s m e) (hn : Num m e) : nOver x = decide (68719476736 * one < u m e) := by
  unfold nOver
  rw [is_order ⟨_, _, _, abs_read h, hn, rfl⟩ isMax, cmp_gt]
  unfold val
  rw [if_neg (by decide)]
  congr 1
  exact propext ⟨fun a => by omega, fun a => by omega⟩
theorem rOver_num (h : D.read x = .number s m e) (hn : Num m e) : rOver x = decide (68719476736 * one < u m e) := by
  unfold rOver
  rw [is_order ⟨_, _, _, h, hn, rfl⟩ isMax, is_order ⟨_, _, _, h, hn, rfl⟩ isMin, cmp_gt, cmp_lt, ← Bool.decide_or]
  congr 1
  unfold val
  cases s
  · rw [if_neg (by decide)]
    exact propext ⟨fun a => by omega, fun a => by omega⟩
  · rw [if_pos rfl]
    exact propext ⟨fun a => by omega, fun a => by omega⟩
theorem one_pos : 0 < one := by
  have := hf_pos
  rw [one_eq]
  omega
theorem q_small (h : ¬ 68719476736 * one < u m e) : u m e / one ≤ 68719476736 := by
  refine Nat.div_le_of_le_mul ?_
  rw [Nat.mul_comm]
  omega
theorem inc_le (q r g : Nat) : inc q r g ≤ 1 := by
  unfold inc
  split <;> omega
theorem sg_bd (s : Bool) {n : Nat} (h : n ≤ 68719476737) : -68719476737 ≤ sg s n ∧ sg s n ≤ 68719476737 := by
  unfold sg
  split <;> omega
theorem toI_of {w : Nat} {n : Int} (h : (D.read w).toInt .zero = some n) (hn : -68719476737 ≤ n ∧ n ≤ 68719476737) : toI w = some n := by
  unfold toI
  rw [h]
  exact if_pos (by omega)
theorem nLen_num (h : D.read x = .number s m e) (hn : Num m e) (ho : ¬ 68719476736 * one < u m e) : nLen x = some (sg s (u m e / one + inc (u m e / one) (u m e % one) one), 0) := by
  have hq := q_small ho
  have hi := inc_le (u m e / one) (u m e % one) one
  unfold nLen
  rw [nOver_num h hn, decide_eq_false ho, if_neg (by decide)]
  unfold RE
  rw [round_even h hn, toI_of (toInt_int s (by omega)) (sg_bd s (by omega))]
  rfl
theorem ofI_is {n : Int} (hn : n.natAbs < 9007199254740992) : Is (ofI n) (n * one) := by
  have h := is_int (decide (n < 0)) hn
  have e : sg (decide (n < 0)) n.natAbs = n := by
    unfold sg
    by_cases h0 : n < 0
    · rw [decide_eq_true h0, if_pos rfl]
      omega
    · rw [decide_eq_false h0, if_neg (by decide)]
      omega
  rw [e] at h
  exact h
/-- What is left behind the whole part is a number too. -/
theorem rest_num (hn : Num m e) : ∃ m' e', u m e % one = u m' e' ∧ Num m' e' ∧ (one < 2 * (u m e % one) → ∃ m2 e2, one - u m e % one = u m2 e2 ∧ Num m2 e2) := by
  have hK := KK_ge
  obtain ⟨hm, hl, hh⟩ := hn
  rcases Int.lt_or_le e 0 with he | he
  · obtain ⟨h1, h2⟩ := u_part m he (by omega)
    have hg : 0 < 2 ^ (-e).toNat := Nat.pow_pos (by decide)
    have hr : u m e % one = u (m % 2 ^ (-e).toNat) e := by
      rw [h1, h2, Nat.mul_mod_mul_right]
      rfl
    have hle := Nat.mod_le m (2 ^ (-e).toNat)
    have hlt := Nat.mod_lt m hg
    refine ⟨_, e, hr, ⟨by omega, hl, hh⟩, fun h => ?_⟩
    have h3 : one - u m e % one = u (2 ^ (-e).toNat - m % 2 ^ (-e).toNat) e := by
      rw [hr, h2]
      unfold u
      rw [Nat.sub_mul]
    refine ⟨_, e, h3, ⟨?_, hl, hh⟩⟩
    rw [hr, h2] at h
    unfold u at h
    rw [← Nat.mul_assoc] at h
    have h4 := Nat.lt_of_mul_lt_mul_right h
    omega
  · have hr : u m e % one = 0 := by
      rw [u_nat m he, Nat.mul_mod_left]
    refine ⟨0, 0, by rw [hr, u_zero], ⟨by decide, by decide, by decide⟩, fun h => ?_⟩
    rw [hr] at h
    omega
theorem odd_sg (s : Bool) (q : Nat) : ((sg s q).tmod 2 != 0) = decide (q % 2 = 1) := by
  have et : (q : Int).tmod 2 = ((q % 2 : Nat) : Int) := by
    rw [Int.tmod_eq_emod_of_nonneg (by omega)]
    omega
  unfold sg
  cases s
  · rw [if_neg (by decide)]
    by_cases h : q % 2 = 1
    · rw [decide_eq_true h, bne_iff_ne, et]
      omega
    · rw [decide_eq_false h, bne_eq_false_iff_eq, et]
      omega
  · rw [if_pos rfl]
    by_cases h : q % 2 = 1
    · rw [decide_eq_true h, bne_iff_ne, Int.neg_tmod, et]
      omega
    · rw [decide_eq_false h, bne_eq_false_iff_eq, Int.neg_tmod, et]
      omega
theorem rLen_num (h : D.read x = .number s m e) (hn : Num m e) (ho : ¬ 68719476736 * one < u m e) : rLen x = some (sg s (u m e / one + inc (u m e / one) (u m e % one) one), 0) := by
  have hq := q_small ho
  have hdm := Nat.div_add_mod (u m e) one
  have hlt := Nat.mod_lt (u m e) one_pos
  obtain ⟨m', e', hr, hn', _⟩ := rest_num hn
  unfold rLen
  rw [rOver_num h hn, decide_eq_false ho, if_neg (by decide), toI_of (toInt_zero h hn) (sg_bd s (by omega)), Option.bind_some]
  have hv : val s m e - sg s (u m e / one) * one = if s then -((u m e % one : Nat) : Int) else ((u m e % one : Nat) : Int) := by
    unfold val sg
    generalize u m e / one = q at hdm
    generalize u m e % one = r at hdm
    rw [← hdm]
    cases s
    · rw [if_neg (by decide), if_neg (by decide), if_neg (by decide), Int.natCast_add, Int.natCast_mul, Int.mul_comm]
      omega
    · rw [if_pos rfl, if_pos rfl, if_pos rfl, Int.natCast_add, Int.natCast_mul, Int.neg_mul, Int.mul_comm]
      omega
  have hab : (val s m e - sg s (u m e / one) * one).natAbs = u m' e' := by
    rw [hv, ← hr]
    cases s
    · rw [if_neg (by decide)]; omega
    · rw [if_pos rfl]; omega
  obtain ⟨l, hl, hi⟩ := is_sub ⟨s, m, e, h, hn, rfl⟩ (ofI_is (n := sg s (u m e / one)) (by have := sg_bd s (n := u m e / one) (by omega); omega)) hab hn'
  rw [hl, Option.bind_some]
  rw [hv] at hi
  have hup : up (sg s (u m e / one)) l = (!s && decide (inc (u m e / one) (u m e % one) one = 1)) := by
    unfold up
    rw [is_order hi isH, cmp_gt, cmp_eq, odd_sg, ← Bool.decide_and, ← Bool.decide_or]
    generalize u m e / one = q
    generalize u m e % one = r
    have hp := hf_pos
    cases s
    · rw [if_neg (by decide), Bool.not_false, Bool.true_and, inc, one_eq]
      congr 1
      refine propext ⟨fun a => if_pos (by omega), fun a => ?_⟩
      by_cases hc : 2 * hf < 2 * r ∨ (2 * hf = 2 * r ∧ q % 2 = 1)
      · omega
      · rw [if_neg hc] at a
        omega
    · rw [if_pos rfl, Bool.not_true, Bool.false_and]
      exact decide_eq_false (by omega)
  have hdn : dn (sg s (u m e / one)) l = (s && decide (inc (u m e / one) (u m e % one) one = 1)) := by
    unfold dn
    rw [is_order hi isNH, cmp_lt, cmp_eq, odd_sg, ← Bool.decide_and, ← Bool.decide_or]
    generalize u m e / one = q
    generalize u m e % one = r
    have hp := hf_pos
    cases s
    · rw [if_neg (by decide), Bool.false_and]
      exact decide_eq_false (by omega)
    · rw [if_pos rfl, Bool.true_and, inc, one_eq]
      congr 1
      refine propext ⟨fun a => if_pos (by omega), fun a => ?_⟩
      by_cases hc : 2 * hf < 2 * r ∨ (2 * hf = 2 * r ∧ q % 2 = 1)
      · omega
      · rw [if_neg hc] at a
        omega
  rw [hup, hdn]
  have hi1 := inc_le (u m e / one) (u m e % one) one
  generalize inc (u m e / one) (u m e % one) one = c at hi1
  generalize u m e / one = q
  unfold sg
  cases s
  · by_cases hc : c = 1
    · subst hc
      rw [if_pos (by rfl), if_neg (by decide), if_neg (by decide)]
      congr 1
    · rw [if_neg (by rw [decide_eq_false hc]; decide), if_neg (by rw [decide_eq_false hc]; decide), if_neg (by decide), if_neg (by decide), show c = 0 by omega]
      rfl
  · by_cases hc : c = 1
    · subst hc
      rw [if_neg (by decide), if_pos (by rfl), if_pos rfl, if_pos rfl]
      congr 2
      omega
    · rw [if_neg (by rw [decide_eq_false hc]; decide), if_neg (by rw [decide_eq_false hc]; decide), if_pos rfl, if_pos rfl, show c = 0 by omega]
      rfl
end
/-- Both ways tell the same length of what is a number or an infinity. -/
theorem lens {x : Nat} (h : (∃ s m e, D.read x = .number s m e ∧ Num m e) ∨ ∃ s, D.read x = .infinity s) : ∃ n g, nLen x = some (n, g) ∧ rLen x = some (n, g) := by
  rcases h with ⟨s, m, e, h, hn⟩ | ⟨s, h⟩
  · by_cases ho : 68719476736 * one < u m e
    · exact ⟨0, 10, if_pos (by rw [nOver_num h hn, decide_eq_true ho]), if_pos (by rw [rOver_num h hn, decide_eq_true ho])⟩
    · exact ⟨_, 0, nLen_num h hn ho, rLen_num h hn ho⟩
  · exact ⟨0, 10, if_pos (nOver_inf h), if_pos (rOver_inf h)⟩
end Go.Proofs.YtipjoejaeipgnaaDoor.Fl
