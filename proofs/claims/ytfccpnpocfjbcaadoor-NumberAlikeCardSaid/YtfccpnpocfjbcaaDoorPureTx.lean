/- Numbers' texts (layer 2): by the program and by the document. Conditions: as each statement says. -/
import Derived.Test.YtfccpnpocfjbcaaDoorPNtx3
import Derived.Test.YtfccpnpocfjbcaaDoorPNtx7
import Derived.Test.YtfccpnpocfjbcaaDoorPNtx8
import Derived.Test.YtfccpnpocfjbcaaDoorPNtx9
import Derived.Test.YtfccpnpocfjbcaaDoorPNtx10
import Derived.Test.YtfccpnpocfjbcaaDoorEv
import Derived.Lib.ItoaNum
set_option linter.unusedVariables false
set_option linter.unusedSimpArgs false
namespace Go.Proofs.YtfccpnpocfjbcaaDoor.PureTx
open Go.RowKit Go.Proofs.YtfccpnpocfjbcaaDoorW.PrintWords Go.Proofs.YtfccpnpocfjbcaaDoorW.PrintMore Go.Proofs.YtfccpnpocfjbcaaDoor.Evs Go.Proofs.YtfccpnpocfjbcaaDoor.Opn Go.Proofs.YtfccpnpocfjbcaaDoor.PNt Go.Proofs.YtfccpnpocfjbcaaDoor.Giv
def dec (n : Int) : ByteArray := ⟨(Lib.decDigits n.toNat).toArray⟩
def fr (sc : Int) : Nat → Int → ByteArray
  | 0, _ => ⟨#[]⟩
  | j + 1, left => if left > 0 then dec (10 * left / sc) ++ fr sc j (10 * left % sc) else ⟨#[]⟩
def gone (sc : Int) : Nat → Int → Bool
  | 0, left => decide (left = 0)
  | j + 1, left => gone sc j (10 * left % sc)
theorem gone_zero (sc : Int) : ∀ j, gone sc j 0 = true
  | 0 => rfl
  | j + 1 => by
    show gone sc j (10 * 0 % sc) = true
    rw [Int.mul_zero, Int.zero_emod]
    exact gone_zero sc j
theorem gone_all64 : (List.range 64).all (fun n => gone 64 6 (n : Int)) = true := by decide +kernel
theorem gone_all1000 : (List.range 1000).all (fun n => gone 1000 6 (n : Int)) = true := by decide +kernel
def IsScale (sc : Int) : Prop := sc = 1 ∨ sc = 64 ∨ sc = 1000
theorem gone_of {sc : Int} (hs : IsScale sc) {left : Int} (h0 : 0 ≤ left) (h1 : left < sc) : gone sc 6 left = true := by
  obtain ⟨n, rfl⟩ := Int.eq_ofNat_of_zero_le h0
  rcases hs with rfl | rfl | rfl
  · obtain rfl : n = 0 := by omega
    exact gone_zero 1 6
  · exact List.all_eq_true.1 gone_all64 n (List.mem_range.2 (by omega))
  · exact List.all_eq_true.1 gone_all1000 n (List.mem_range.2 (by omega))
theorem nd_le : ∀ (k u : Nat), u < 10 ^ (k + 1) → Lib.nDigits u ≤ k + 1
  | 0, u, h => by
    rw [Lib.nDigits_small (by simpa using h)]
    exact Nat.le_refl _
  | k + 1, u, h => by
    by_cases h1 : u < 10
    · rw [Lib.nDigits_small h1]
      omega
    · rw [Lib.nDigits_big h1]
      have := nd_le k (u / 10) (by rw [Nat.pow_succ] at h; omega)
      omega
theorem dec_size (n : Int) (h0 : 0 ≤ n) (h1 : n ≤ 9223372036854775807) : (dec n).size ≤ 20 := by
  show (Lib.decDigits n.toNat).toArray.size ≤ 20
  rw [List.size_toArray, Lib.decDigits_length]
  exact nd_le 19 _ (by omega)
theorem dec_one (n : Int) (h0 : 0 ≤ n) (h1 : n ≤ 9) : dec n = ⟨#[UInt8.ofNat (48 + n.toNat)]⟩ := by
  unfold dec
  rw [Lib.decDigits_one (by omega)]
theorem ap_assoc (a b c : ByteArray) : a ++ b ++ c = a ++ (b ++ c) := ByteArray.append_assoc
theorem ap_nil (a : ByteArray) : a ++ (⟨#[]⟩ : ByteArray) = a := ByteArray.append_empty
theorem nil_ap (a : ByteArray) : (⟨#[]⟩ : ByteArray) ++ a = a := ByteArray.empty_append
theorem itoa_f (n : Int) (h0 : 0 ≤ n) (h1 : n ≤ 9223372036854775807) : strconv_Itoa.f n = some (dec n) := by
  unfold strconv_Itoa.f
  rw [if_pos (by omega), if_pos h1]
  unfold dec Lib.itoa
  rw [if_neg (by omega)]
theorem str_one (n : Int) (h0 : 0 ≤ n) : strOfNums [(wrap64 (48 + (Int.tmod n 10))) % 256] = ⟨#[UInt8.ofNat (48 + n.toNat % 10)]⟩ := by
  have e : ((wrap64 (48 + (Int.tmod n 10))) % 256).toNat = 48 + n.toNat % 10 := by
    rw [Int.tmod_eq_emod_of_nonneg h0, w64 (by omega) (by omega)]
    omega
  show (⟨#[UInt8.ofNat ((wrap64 (48 + (Int.tmod n 10))) % 256).toNat]⟩ : ByteArray) = _
  rw [e]
theorem whole_l0 : ∀ (m : Nat) (n : Int) (acc : ByteArray), n.toNat = m → 0 ≤ n → n ≤ 1000000000000000 → acc.size + m ≤ 2000000000000000 → Ev (fun k => parterreref02_Whole.l0 k n acc) (dec n ++ acc) := by
  intro m
  induction m using Nat.strongRecOn with
  | _ m ih =>
    intro n acc hm h0 h1 h2
    refine ev_step ?_
    simp only [parterreref02_Whole.l0]
    refine ev_bindc rfl ?_
    rw [str_one n h0, Int.tdiv_eq_ediv_of_nonneg h0, w64 (x := n / 10) (by omega) (by omega)]
    have hz : (⟨#[UInt8.ofNat (48 + n.toNat % 10)]⟩ : ByteArray).size = 1 := rfl
    refine ev_pos (by rw [hz]; omega) (ev_ite (fun h3 => ?_) (fun h3 => ?_))
    · refine ev_eq ?_
      rw [dec_one n h0 (by omega), show 48 + n.toNat % 10 = 48 + n.toNat by omega]
    · have hi := ih (n / 10).toNat (by omega) (n / 10) ((⟨#[UInt8.ofNat (48 + n.toNat % 10)]⟩ : ByteArray) ++ acc) rfl (by omega) (by omega) (by rw [ByteArray.size_append, hz]; omega)
      have e : dec n = dec (n / 10) ++ ⟨#[UInt8.ofNat (48 + n.toNat % 10)]⟩ := by
        unfold dec
        conv => lhs; rw [Lib.decDigits, dif_neg (show ¬ n.toNat < 10 by omega)]
        rw [show (n / 10).toNat = n.toNat / 10 by omega]
        apply ByteArray.ext
        simp
      rw [e, ap_assoc]
      exact hi
theorem whole_ev (n : Int) (h0 : 0 ≤ n) (h1 : n ≤ 1000000000000000) : Ev (fun k => parterreref02_Whole.f k n) (dec n) := by
  have h := whole_l0 n.toNat n ⟨#[]⟩ rfl h0 h1 (by show 0 + n.toNat ≤ _; omega)
  rw [ap_nil] at h
  exact h
theorem left_bd {sc left : Int} (hs : IsScale sc) (h0 : 0 ≤ left) (h1 : left < sc) : 0 ≤ 10 * left / sc ∧ 10 * left / sc ≤ 9 ∧ 0 ≤ 10 * left % sc ∧ 10 * left % sc < sc := by
  rcases hs with rfl | rfl | rfl <;> omega
theorem digit_size {n : Int} (h0 : 0 ≤ n) (h1 : n ≤ 9) : (dec n).size = 1 := by
  rw [dec_one n h0 h1]
  rfl
theorem fr_size {sc : Int} (hs : IsScale sc) : ∀ (j : Nat) (left : Int), 0 ≤ left → left < sc → (fr sc j left).size ≤ j
  | 0, left, h0, h1 => Nat.le_refl _
  | j + 1, left, h0, h1 => by
    have hb := left_bd hs h0 h1
    have hi := fr_size hs j _ hb.2.2.1 hb.2.2.2
    unfold fr
    split
    · rw [ByteArray.size_append, digit_size hb.1 hb.2.1]
      omega
    · show 0 ≤ j + 1
      omega
theorem nleft {sc : Int} (hs : IsScale sc) : ∀ (j : Nat) (left : Int) (acc : ByteArray), 0 ≤ left → left < sc → gone sc j left = true → acc.size + j ≤ 1000000 → Ev (fun k => number_Text.l0 k sc acc left) (acc ++ fr sc j left)
  | 0, left, acc, h0, h1, hg, hz => by
    have hl : left = 0 := of_decide_eq_true hg
    refine ev_step ?_
    simp only [number_Text.l0]
    refine ev_neg (by omega) (ev_eq ?_)
    show acc = acc ++ ⟨#[]⟩
    rw [ap_nil]
  | j + 1, left, acc, h0, h1, hg, hz => by
    have hb := left_bd hs h0 h1
    have hsc : 1 ≤ sc ∧ sc ≤ 1000 := by rcases hs with rfl | rfl | rfl <;> decide
    have hd := digit_size hb.1 hb.2.1
    refine ev_step ?_
    simp only [number_Text.l0]
    refine ev_ite (fun h2 => ev_neg (by omega) ?_) (fun h2 => ?_)
    · rw [Int.mul_comm left 10, w64 (x := 10 * left) (by omega) (by omega), Int.tdiv_eq_ediv_of_nonneg (by omega), Int.tmod_eq_emod_of_nonneg (by omega), w64 (x := 10 * left / sc) (by omega) (by omega)]
      refine ev_bindc (itoa_f _ (by omega) (by omega)) (ev_pos (by omega) ?_)
      have hi := nleft hs j (10 * left % sc) (acc ++ dec (10 * left / sc)) hb.2.2.1 hb.2.2.2 hg (by rw [ByteArray.size_append]; omega)
      unfold fr
      rw [if_pos h2, ← ap_assoc]
      exact hi
    · refine ev_eq ?_
      unfold fr
      rw [if_neg h2, ap_nil]
theorem rleft {sc : Int} (hs : IsScale sc) : ∀ (j : Nat) (left : Int) (acc : ByteArray), 0 ≤ left → left < sc → gone sc j left = true → acc.size + j ≤ 1000000 → Ev (fun k => parterreref02_Text.l0 k sc acc left) (acc ++ fr sc j left)
  | 0, left, acc, h0, h1, hg, hz => by
    have hl : left = 0 := of_decide_eq_true hg
    refine ev_step ?_
    simp only [parterreref02_Text.l0]
    refine ev_neg (by omega) (ev_eq ?_)
    show acc = acc ++ ⟨#[]⟩
    rw [ap_nil]
  | j + 1, left, acc, h0, h1, hg, hz => by
    have hb := left_bd hs h0 h1
    have hsc : 1 ≤ sc ∧ sc ≤ 1000 := by rcases hs with rfl | rfl | rfl <;> decide
    have hd := digit_size hb.1 hb.2.1
    refine ev_step ?_
    simp only [parterreref02_Text.l0]
    refine ev_ite (fun h2 => ev_neg (by omega) ?_) (fun h2 => ?_)
    · rw [w64 (x := 10 * left) (by omega) (by omega), Int.tdiv_eq_ediv_of_nonneg (by omega), Int.tmod_eq_emod_of_nonneg (by omega), w64 (x := 10 * left / sc) (by omega) (by omega)]
      refine ev_bind (whole_ev _ (by omega) (by omega)) (ev_pos (by omega) ?_)
      have hi := rleft hs j (10 * left % sc) (acc ++ dec (10 * left / sc)) hb.2.2.1 hb.2.2.2 hg (by rw [ByteArray.size_append]; omega)
      unfold fr
      rw [if_pos h2, ← ap_assoc]
      exact hi
    · refine ev_eq ?_
      unfold fr
      rw [if_neg h2, ap_nil]
/-- A length's text: its sign, its whole digits, those behind the point. -/
def tail (sc n : Int) : ByteArray := if n % sc > 0 then (⟨#[46]⟩ : ByteArray) ++ fr sc 6 (n % sc) else ⟨#[]⟩
def body (sc n : Int) : ByteArray := dec (n / sc) ++ tail sc n
def txt (sc n : Int) : ByteArray := if n < 0 then (⟨#[45]⟩ : ByteArray) ++ body sc (-n) else body sc n
theorem div_bd {sc n : Int} (hs : IsScale sc) (h0 : 0 ≤ n) (h1 : n ≤ 68719476736) : 0 ≤ n / sc ∧ n / sc ≤ 68719476736 ∧ 0 ≤ n % sc ∧ n % sc < sc := by
  rcases hs with rfl | rfl | rfl <;> omega
theorem ntext_j1 {sc : Int} (hs : IsScale sc) (n : Int) (h0 : 0 ≤ n) (h1 : n ≤ 68719476736) (acc : ByteArray) (hz : acc.size ≤ 1) : Ev (fun k => number_Text.j1 k n sc acc) (acc ++ body sc n) := by
  have hb := div_bd hs h0 h1
  have hsc : 1 ≤ sc ∧ sc ≤ 1000 := by rcases hs with rfl | rfl | rfl <;> decide
  have hd := dec_size (n / sc) hb.1 (by omega)
  have hg := gone_of hs hb.2.2.1 hb.2.2.2
  refine ev_step ?_
  simp only [number_Text.j1]
  refine ev_neg (by omega) ?_
  rw [Int.tdiv_eq_ediv_of_nonneg h0, Int.tmod_eq_emod_of_nonneg h0, w64 (x := n / sc) (by omega) (by omega)]
  unfold body tail
  refine ev_bindc (itoa_f _ (by omega) (by omega)) (ev_pos (by omega) (ev_ite (fun h2 => ev_pos (by rw [ByteArray.size_append]; omega) ?_) (fun h2 => ?_)))
  · rw [if_pos h2, ← ap_assoc, ← ap_assoc]
    refine ev_step ?_
    simp only [number_Text.j2]
    exact nleft hs 6 _ _ hb.2.2.1 hb.2.2.2 hg (by rw [ByteArray.size_append, ByteArray.size_append]; show _ + 1 + 6 ≤ _; omega)
  · rw [if_neg h2, ap_nil]
    refine ev_step ?_
    simp only [number_Text.j2]
    have h := nleft hs 0 (n % sc) (acc ++ dec (n / sc)) hb.2.2.1 hb.2.2.2 (decide_eq_true (by omega)) (by rw [ByteArray.size_append]; omega)
    rw [show fr sc 0 (n % sc) = (⟨#[]⟩ : ByteArray) from rfl, ap_nil] at h
    exact h
theorem rtext_j1 {sc : Int} (hs : IsScale sc) (n : Int) (h0 : 0 ≤ n) (h1 : n ≤ 68719476736) (acc : ByteArray) (hz : acc.size ≤ 1) : Ev (fun k => parterreref02_Text.j1 k n sc acc) (acc ++ body sc n) := by
  have hb := div_bd hs h0 h1
  have hsc : 1 ≤ sc ∧ sc ≤ 1000 := by rcases hs with rfl | rfl | rfl <;> decide
  have hd := dec_size (n / sc) hb.1 (by omega)
  have hg := gone_of hs hb.2.2.1 hb.2.2.2
  refine ev_step ?_
  simp only [parterreref02_Text.j1]
  refine ev_neg (by omega) ?_
  rw [Int.tdiv_eq_ediv_of_nonneg h0, Int.tmod_eq_emod_of_nonneg h0, w64 (x := n / sc) (by omega) (by omega)]
  unfold body tail
  refine ev_bind (whole_ev _ (by omega) (by omega)) (ev_pos (by omega) (ev_ite (fun h2 => ev_pos (by rw [ByteArray.size_append]; omega) ?_) (fun h2 => ?_)))
  · rw [if_pos h2, ← ap_assoc, ← ap_assoc]
    refine ev_step ?_
    simp only [parterreref02_Text.j2]
    exact rleft hs 6 _ _ hb.2.2.1 hb.2.2.2 hg (by rw [ByteArray.size_append, ByteArray.size_append]; show _ + 1 + 6 ≤ _; omega)
  · rw [if_neg h2, ap_nil]
    refine ev_step ?_
    simp only [parterreref02_Text.j2]
    have h := rleft hs 0 (n % sc) (acc ++ dec (n / sc)) hb.2.2.1 hb.2.2.2 (decide_eq_true (by omega)) (by rw [ByteArray.size_append]; omega)
    rw [show fr sc 0 (n % sc) = (⟨#[]⟩ : ByteArray) from rfl, ap_nil] at h
    exact h
def Is (n : Int) : Prop := -68719476736 ≤ n ∧ n ≤ 68719476736
instance (n : Int) : Decidable (Is n) := inferInstanceAs (Decidable (_ ∧ _))
instance (n : Int) : Decidable (IsScale n) := inferInstanceAs (Decidable (_ ∨ _ ∨ _))
theorem is_f (n : Int) : fixed_Is.f n = some (decide (Is n)) := by
  unfold fixed_Is.f Is
  by_cases h : n ≥ -68719476736
  · rw [if_pos h]
    congr 1
    exact decide_eq_decide.2 ⟨fun k => ⟨h, k⟩, fun k => k.2⟩
  · rw [if_neg h]
    congr 1
    exact (decide_eq_false (fun k => h k.1)).symm
theorem ris_f (n : Int) : parterreref01_Is.f n = some (decide (Is n)) := is_f n
theorem scale_f (n : Int) : number_isScale.f n = some (decide (IsScale n)) := by
  unfold number_isScale.f
  by_cases h1 : n = 1
  · rw [if_pos h1]
    congr 1
    exact (decide_eq_true (show IsScale n from Or.inl h1)).symm
  · rw [if_neg h1]
    by_cases h2 : n = 64
    · rw [if_pos h2]
      congr 1
      exact (decide_eq_true (show IsScale n from Or.inr (Or.inl h2))).symm
    · rw [if_neg h2]
      congr 1
      by_cases h3 : n = 1000
      · rw [decide_eq_true (show IsScale n from Or.inr (Or.inr h3)), h3]
        rfl
      · rw [decide_eq_false (show ¬ IsScale n from fun k => by rcases k with k | k | k <;> omega)]
        simpa using h3
/-- The text, of any number and by any scale. -/
def Txt (n sc : Int) : ByteArray := if Is n ∧ IsScale sc then txt sc n else ⟨#[]⟩
theorem ntext_j0 {sc n : Int} (hs : IsScale sc) (hn : Is n) : Ev (fun k => number_Text.j0 k n sc false) (txt sc n) := by
  refine ev_step ?_
  simp only [number_Text.j0]
  unfold Is at hn
  unfold txt
  refine ev_neg (by decide) (ev_ite (fun h => ?_) (fun h => ?_))
  · rw [if_pos h, w64 (by omega) (by omega)]
    exact ntext_j1 hs (-n) (by omega) (by omega) _ (Nat.le_refl _)
  · rw [if_neg h]
    have := ntext_j1 hs n (by omega) (by omega) ⟨#[]⟩ (by decide)
    rw [nil_ap] at this
    exact this
theorem rtext_j0 {sc n : Int} (hs : IsScale sc) (hn : Is n) : Ev (fun k => parterreref02_Text.j0 k n sc false) (txt sc n) := by
  refine ev_step ?_
  simp only [parterreref02_Text.j0]
  unfold Is at hn
  unfold txt
  refine ev_neg (by decide) (ev_ite (fun h => ?_) (fun h => ?_))
  · rw [if_pos h, w64 (by omega) (by omega)]
    exact rtext_j1 hs (-n) (by omega) (by omega) _ (Nat.le_refl _)
  · rw [if_neg h]
    have := rtext_j1 hs n (by omega) (by omega) ⟨#[]⟩ (by decide)
    rw [nil_ap] at this
    exact this
theorem ntext_no (n sc : Int) : Ev (fun k => number_Text.j0 k n sc true) ⟨#[]⟩ := by
  refine ev_step ?_
  simp only [number_Text.j0]
  exact ev_pos trivial (ev_eq rfl)
theorem rtext_no (n sc : Int) : Ev (fun k => parterreref02_Text.j0 k n sc true) ⟨#[]⟩ := by
  refine ev_step ?_
  simp only [parterreref02_Text.j0]
  exact ev_pos trivial (ev_eq rfl)
theorem nText (n sc : Int) : Ev (fun k => number_Text.f k n sc) (Txt n sc) := by
  unfold number_Text.f Txt
  refine ev_bindc (is_f n) (ev_ite (fun h => ev_bindc (scale_f sc) ?_) (fun h => ?_))
  · have hn := of_decide_eq_true h
    by_cases hs : IsScale sc
    · rw [if_pos ⟨hn, hs⟩, decide_eq_true hs]
      exact ntext_j0 hs hn
    · rw [if_neg (fun k => hs k.2), decide_eq_false hs]
      exact ntext_no n sc
  · rw [if_neg (fun k => h (decide_eq_true k.1))]
    exact ntext_no n sc
theorem rText (n sc : Int) : Ev (fun k => parterreref02_Text.f k n sc) (Txt n sc) := by
  unfold parterreref02_Text.f Txt
  refine ev_bindc (ris_f n) (ev_ite (fun h => ?_) (fun h => ?_))
  · have hn := of_decide_eq_true h
    by_cases hs : IsScale sc
    · rw [if_pos ⟨hn, hs⟩]
      refine ev_ite (fun _ => rtext_j0 hs hn) (fun h1 => ev_ite (fun _ => rtext_j0 hs hn) (fun h2 => ?_))
      have : (sc != 1000) = false := by
        rcases hs with k | k | k
        · exact absurd k h1
        · exact absurd k h2
        · rw [k]
          rfl
      rw [this]
      exact rtext_j0 hs hn
    · rw [if_neg (fun k => hs k.2)]
      refine ev_neg (fun k => hs (Or.inl k)) (ev_neg (fun k => hs (Or.inr (Or.inl k))) ?_)
      have : (sc != 1000) = true := by simpa using (fun k => hs (Or.inr (Or.inr k)))
      rw [this]
      exact rtext_no n sc
  · rw [if_neg (fun k => h (decide_eq_true k.1))]
    exact rtext_no n sc
theorem lives_ev : Ev (fun k => parterrelaw02_lives.f k) true := Ev.of (fun k => parterrelaw02_lives.mono k) (k := 60) (by decide +kernel)
end Go.Proofs.YtfccpnpocfjbcaaDoor.PureTx
