/- The value of a number's text: by the program and by the document. Conditions: as each statement says. -/
import Derived.Test.YtfccpnpocfjbcaaDoorPNtx3
import Derived.Test.YtfccpnpocfjbcaaDoorPNtx5
import Derived.Test.YtfccpnpocfjbcaaDoorPNtx6
import Derived.Test.YtfccpnpocfjbcaaDoorPureTu
import Derived.Test.YtfccpnpocfjbcaaDoorPureTv
set_option linter.unusedVariables false
set_option linter.unusedSimpArgs false
namespace Go.Proofs.YtfccpnpocfjbcaaDoor.PureTw
open Go.RowKit Go.Proofs.YtfccpnpocfjbcaaDoorW.PrintWords Go.Proofs.YtfccpnpocfjbcaaDoorW.PrintMore Go.Proofs.YtfccpnpocfjbcaaDoor.Evs Go.Proofs.YtfccpnpocfjbcaaDoor.Opn Go.Proofs.YtfccpnpocfjbcaaDoor.PNt Go.Proofs.YtfccpnpocfjbcaaDoor.Dig Go.Proofs.YtfccpnpocfjbcaaDoor.PureTu Go.Proofs.YtfccpnpocfjbcaaDoor.PureTv

/-! ### Bytes of parts -/
def dig (c : Int) : Int := (c - 48) % 256
theorem bytes_app (a b : ByteArray) : bytesOf (a ++ b) = bytesOf a ++ bytesOf b := by
  unfold bytesOf
  rw [ByteArray.toList_data_append, List.map_append]
theorem bytes_extract (s : ByteArray) (a b : Nat) : bytesOf (s.extract a b) = ((bytesOf s).drop a).take (b - a) := by
  unfold bytesOf
  rw [ByteArray.data_extract, Array.toList_extract, List.extract_eq_take_drop, List.map_take, List.map_drop]
theorem bytes_get (s : ByteArray) (i : Nat) (h : i < s.size) : (bytesOf s)[i]? = some (bt s (i : Nat)) := by
  have hl : i < (bytesOf s).length := by rw [bytesOf_length]; exact h
  rw [← rd_bytesOf]
  unfold rd
  rw [Int.toNat_natCast, List.getD_eq_getElem?_getD, List.getElem?_eq_getElem hl]
  rfl
theorem bt_of_bytes {s : ByteArray} {i : Nat} {c : Int} (h : (bytesOf s)[i]? = some c) : bt s (i : Nat) = c := by
  rw [← rd_bytesOf]
  unfold rd
  rw [Int.toNat_natCast, List.getD_eq_getElem?_getD, h]
  rfl
theorem bytes_range (s : ByteArray) : bytesOf s = (List.range s.size).map fun j => bt s (j : Nat) := by
  apply List.ext_getElem?
  intro i
  by_cases h : i < s.size
  · rw [bytes_get s i h, List.getElem?_map, List.getElem?_range h]
    rfl
  · rw [List.getElem?_eq_none (by rw [bytesOf_length]; omega), List.getElem?_eq_none (by rw [List.length_map, List.length_range]; omega)]
theorem digs_bytes (s : ByteArray) : number_Value.digs s = (bytesOf s).map dig := by
  rw [bytes_range, List.map_map]
  rfl
theorem extract_range (s : ByteArray) (a b : Nat) (h : b ≤ s.size) : bytesOf (s.extract a b) = (List.range (b - a)).map fun t => bt s ((a + t : Nat) : Int) := by
  rw [bytes_extract]
  apply List.ext_getElem?
  intro i
  by_cases h1 : i < b - a
  · rw [List.getElem?_take_of_lt h1, List.getElem?_drop, bytes_get s (a + i) (by omega), List.getElem?_map, List.getElem?_range h1]
    rfl
  · rw [List.getElem?_eq_none (by rw [List.length_take]; omega), List.getElem?_eq_none (by rw [List.length_map, List.length_range]; omega)]
/-- The digits ahead of the point, and behind it. -/
def dl (s : ByteArray) : List Int := ((List.range (number_parts.w1 s - number_parts.w0 s)).map fun t => dig (bt s ((number_parts.w0 s + t : Nat) : Int))) ++ ((List.range (pn s)).map fun t => dig (bt s ((number_parts.w1 s + 1 + t : Nat) : Int)))
theorem part_bytes (s : ByteArray) : bytesOf (number_parts.part s) = (List.range (pn s)).map fun t => bt s ((number_parts.w1 s + 1 + t : Nat) : Int) := by
  unfold number_parts.part
  by_cases h : number_parts.isDot s (number_parts.w1 s) = true
  · have h1 := p1_bd h
    rw [if_pos h, extract_range s _ _ h1.2]
    have e : number_parts.p1 s - (number_parts.w1 s + 1) = pn s := by
      unfold pn number_parts.at2
      rw [if_pos h]
      split <;> omega
    rw [e]
  · rw [if_neg h]
    have e : pn s = 0 := by
      unfold pn number_parts.at2
      rw [if_neg h]
      omega
    rw [e]
    rfl
theorem digs_parts (s : ByteArray) : number_Value.digs (s.extract (number_parts.w0 s) (number_parts.w1 s) ++ number_parts.part s) = dl s := by
  rw [digs_bytes, bytes_app, List.map_append, part_bytes, extract_range s _ _ (w1_bd s).2, List.map_map, List.map_map]
  rfl
theorem dig_of {c : Int} (h : isD c = true) : 0 ≤ dig c ∧ dig c ≤ 9 ∧ dig c = c - 48 := by
  have := of_decide_eq_true h
  unfold dig
  omega
theorem whole_digit (s : ByteArray) {t : Nat} (h : t < number_parts.w1 s - number_parts.w0 s) : isD (bt s ((number_parts.w0 s + t : Nat) : Int)) = true := stop_digit s _ (number_parts.w0 s) _ rfl (by omega) (show _ < number_parts.w1 s by omega)
theorem pn_dot {s : ByteArray} (h : 0 < pn s) : number_parts.isDot s (number_parts.w1 s) = true ∧ number_parts.w1 s + 1 + pn s = number_parts.stop s (number_parts.w1 s + 1) ∧ number_parts.at2 s = number_parts.w1 s + 1 + pn s := by
  by_cases h1 : number_parts.isDot s (number_parts.w1 s) = true
  · have h2 := p1_bd h1
    have h3 : number_parts.at2 s = number_parts.p1 s := by
      unfold pn at h
      unfold number_parts.at2 at h ⊢
      rw [if_pos h1] at h ⊢
      split <;> rename_i h4
      · rw [if_pos h4] at h
        omega
      · rfl
    have h4 : number_parts.p1 s = number_parts.stop s (number_parts.w1 s + 1) := by unfold number_parts.p1; rw [if_pos h1]
    refine ⟨h1, ?_, ?_⟩
    · rw [← h4]
      unfold pn at h ⊢
      omega
    · unfold pn at h ⊢
      omega
  · unfold pn number_parts.at2 at h
    rw [if_neg h1] at h
    omega
theorem part_digit (s : ByteArray) {t : Nat} (h : t < pn s) : isD (bt s ((number_parts.w1 s + 1 + t : Nat) : Int)) = true := by
  have h1 := pn_dot (s := s) (by omega)
  exact stop_digit s _ (number_parts.w1 s + 1) _ rfl (by omega) (by omega)
theorem dl_dg (s : ByteArray) : Dg (dl s) := by
  intro x hx
  unfold dl at hx
  rcases List.mem_append.1 hx with hx | hx
  · obtain ⟨t, ht, rfl⟩ := List.mem_map.1 hx
    have := dig_of (whole_digit s (List.mem_range.1 ht))
    omega
  · obtain ⟨t, ht, rfl⟩ := List.mem_map.1 hx
    have := dig_of (part_digit s (List.mem_range.1 ht))
    omega
theorem dl_len (s : ByteArray) : (dl s).length = (number_parts.w1 s - number_parts.w0 s) + pn s := by
  unfold dl
  rw [List.length_append, List.length_map, List.length_range, List.length_map, List.length_range]
theorem w1pn_bd (s : ByteArray) : number_parts.w1 s + pn s ≤ s.size := by
  have := at2_bd s
  unfold pn
  omega

/-! ### The exponent -/
def expF (s : ByteArray) : Nat → Nat → Int → Int
  | 0, _, n => n
  | d + 1, i, n => expF s d (i + 1) (min 1000 (10 * n + (bt s (i : Nat) - 48)))
def X (s : ByteArray) : Int := if number_parts.hasE s = true then (if bt s ((number_parts.at2 s + 1 : Nat) : Int) = 45 then - expF s (s.size - number_parts.x0 s) (number_parts.x0 s) 0 else expF s (s.size - number_parts.x0 s) (number_parts.x0 s) 0) else 0
theorem expF_bd (s : ByteArray) : ∀ (d i : Nat) (n : Int), 0 ≤ n → n ≤ 1000 → i + d = s.size → (∀ m, i ≤ m → m < s.size → isD (bt s (m : Nat)) = true) → 0 ≤ expF s d i n ∧ expF s d i n ≤ 1000
  | 0, i, n, h0, h1, hi, hd => ⟨h0, h1⟩
  | d + 1, i, n, h0, h1, hi, hd => by
    have := of_decide_eq_true (hd i (Nat.le_refl _) (by omega))
    exact expF_bd s d (i + 1) _ (by omega) (by omega) (by omega) (fun m hm => hd m (by omega))
theorem hasE_bd {s : ByteArray} (h : number_parts.hasE s = true) : number_parts.isE s (number_parts.at2 s) = true ∧ number_parts.at2 s + 1 ≤ number_parts.x0 s ∧ number_parts.x0 s < number_parts.x1 s ∧ number_parts.x1 s ≤ s.size ∧ number_parts.x0 s ≤ number_parts.at2 s + 2 := by
  unfold number_parts.hasE at h
  rw [Bool.and_eq_true] at h
  have h1 := x0_bd h.1
  have h2 := x1_bd h.1
  have h3 := of_decide_eq_true h.2
  exact ⟨h.1, h1.1, h3, h2.2, h1.2.2⟩
theorem exp_digits {s : ByteArray} (h : number_parts.hasE s = true) (he : number_parts.x1 s = s.size) (m : Nat) (h1 : number_parts.x0 s ≤ m) (h2 : m < s.size) : isD (bt s (m : Nat)) = true := stop_digit s _ (number_parts.x0 s) m rfl h1 (show m < number_parts.x1 s by omega)
theorem X_bd {s : ByteArray} (he : endOf s = s.size) : -1000 ≤ X s ∧ X s ≤ 1000 := by
  unfold X
  by_cases h : number_parts.hasE s = true
  · rw [if_pos h]
    unfold endOf at he
    rw [if_pos h] at he
    have hb := hasE_bd h
    have := expF_bd s (s.size - number_parts.x0 s) (number_parts.x0 s) 0 (by omega) (by omega) (by omega) (exp_digits h he)
    split <;> omega
  · rw [if_neg h]
    omega
theorem bt_extract (s : ByteArray) (a j : Nat) (h : a + j < s.size) : bt (s.extract a s.size) (j : Nat) = bt s ((a + j : Nat) : Int) := by
  apply bt_of_bytes
  rw [extract_range s _ _ (Nat.le_refl _), List.getElem?_map, List.getElem?_range (by omega)]
  rfl
theorem nexp_l0 (s : ByteArray) (hs : s.size ≤ 140737488351232) (a : Nat) (ha : a < s.size) (b : Bool) (p1 p2 : ByteArray) (e : Int) : ∀ (d j : Nat) (n : Int), 0 ≤ n → n ≤ 1000 → a + j + d = s.size → (∀ m, a + j ≤ m → m < s.size → isD (bt s (m : Nat)) = true) →
    Ev (fun k => number_text_exponent.l0 k n ((s.extract a s.size).size : Nat) (j : Nat) b p1 p2 (s.extract a s.size) e) (if bt s (a : Nat) = 45 then - expF s d (a + j) n else expF s d (a + j) n)
  | 0, j, n, h0, h1, hi, hd => by
    have hz : (s.extract a s.size).size = s.size - a := by rw [ByteArray.size_extract]; omega
    refine ev_step ?_
    simp only [number_text_exponent.l0]
    have hne : ¬ (s.extract a s.size).toList = ([] : List UInt8) := by
      intro k
      have h2 : (s.extract a s.size).data.toList = [] := by
        rw [ByteArray.toList_eq] at k
        exact k
      have h3 : (s.extract a s.size).data.toList.length = s.size - a := by rw [data_length]; exact hz
      rw [h2] at h3
      simp only [List.length_nil] at h3
      omega
    have hb0 := bt_extract s a 0 (by omega)
    refine ev_neg (by omega) (ev_neg hne (ev_pos (by omega) ?_))
    rw [show bt (s.extract a s.size) 0 = bt s (a : Nat) from hb0]
    refine ev_ite (fun h => ?_) (fun h => ?_)
    · rw [if_pos h, w64 (by omega) (by omega)]
      exact ev_eq rfl
    · rw [if_neg h]
      exact ev_eq rfl
  | d + 1, j, n, h0, h1, hi, hd => by
    have hz : (s.extract a s.size).size = s.size - a := by rw [ByteArray.size_extract]; omega
    have hD := hd (a + j) (Nat.le_refl _) (by omega)
    have hb := of_decide_eq_true hD
    refine ev_step ?_
    simp only [number_text_exponent.l0]
    rw [bt_extract s a j (by omega)]
    refine ev_pos (by omega) (ev_pos (by omega) (ev_pos (by omega) (ev_bindc (digit_f _) (ev_pos hD ?_))))
    rw [mn_eq, w64 (x := 10 * n) (by omega) (by omega), show (bt s ((a + j : Nat) : Int) - 48) % 256 = bt s ((a + j : Nat) : Int) - 48 by omega, w64 (x := 10 * n + (bt s ((a + j : Nat) : Int) - 48)) (by omega) (by omega), w64 (x := (j : Int) + 1) (by omega) (by omega)]
    exact nexp_l0 s hs a ha b p1 p2 e d (j + 1) _ (by omega) (by omega) (by omega) (fun m hm => hd m (by omega))
theorem nexp_ev (s : ByteArray) (hs : s.size ≤ 140737488351232) (he : endOf s = s.size) (b : Bool) (p1 p2 : ByteArray) (e : Int) : Ev (fun k => number_text_exponent.f k b p1 p2 (expOf s) e) (X s) := by
  unfold number_text_exponent.f X expOf
  by_cases h : number_parts.hasE s = true
  · rw [if_pos h, if_pos h]
    have hb := hasE_bd h
    unfold endOf at he
    rw [if_pos h] at he
    rw [he]
    have hd := exp_digits h he
    by_cases hx : number_parts.x0 s = number_parts.at2 s + 1
    · rw [hx] at hd ⊢
      exact nexp_l0 s hs (number_parts.at2 s + 1) (by omega) b p1 p2 e (s.size - (number_parts.at2 s + 1)) 0 0 (by omega) (by omega) (by omega) (fun m hm => hd m (by omega))
    · have hx2 : number_parts.x0 s = number_parts.at2 s + 1 + 1 := by omega
      have hz : (s.extract (number_parts.at2 s + 1) s.size).size = s.size - (number_parts.at2 s + 1) := by rw [ByteArray.size_extract]; omega
      have hsg : isD (bt s ((number_parts.at2 s + 1 : Nat) : Int)) = false := by
        have : number_parts.isSign s (number_parts.at2 s + 1) = true := by
          by_cases k : number_parts.isSign s (number_parts.at2 s + 1) = true
          · exact k
          · exfalso
            apply hx
            unfold number_parts.x0 number_parts.sgn
            rw [if_neg k]
        unfold number_parts.isSign at this
        simp at this
        unfold isD
        apply decide_eq_false
        rcases this.2 with k | k <;> rw [show ((number_parts.at2 s + 1 : Nat) : Int) = (number_parts.at2 s : Int) + 1 by omega, k] <;> omega
      refine ev_step ?_
      simp only [number_text_exponent.l0]
      have hb0 := bt_extract s (number_parts.at2 s + 1) 0 (by omega)
      rw [show bt (s.extract (number_parts.at2 s + 1) s.size) 0 = bt s ((number_parts.at2 s + 1 : Nat) : Int) from hb0]
      refine ev_pos (by omega) (ev_pos (by omega) (ev_pos (by omega) (ev_bindc (digit_f _) (ev_neg (by rw [hsg]; decide) ?_))))
      rw [hx2] at hd ⊢
      rw [show wrap64 ((0 : Int) + 1) = ((1 : Nat) : Int) from w64 (by omega) (by omega)]
      exact nexp_l0 s hs (number_parts.at2 s + 1) (by omega) b p1 p2 e (s.size - (number_parts.at2 s + 1 + 1)) 1 0 (by omega) (by omega) (by omega) (fun m hm => hd m (by omega))
  · rw [if_neg h, if_neg h]
    refine ev_step ?_
    simp only [number_text_exponent.l0]
    exact ev_neg (by decide) (ev_pos (by rw [ByteArray.toList_eq]) (ev_eq rfl))

/-! ### The digits, as the document collects them -/
/-! ### The value -/
/-- What a number's text is worth. -/
def V (s : ByteArray) (sc : Int) : Int × Int :=
  if S (L (dl s).reverse * sc) ((pn s : Int) - X s) ≤ 68719476736 then (if bt s 0 = 45 then (- S (L (dl s).reverse * sc) ((pn s : Int) - X s), 0) else (S (L (dl s).reverse * sc) ((pn s : Int) - X s), 0)) else (0, 10)
theorem S_nonneg {B : Int} (h : 0 ≤ B) (b : Int) : 0 ≤ S B b := by
  unfold S
  split
  · exact m10_nonneg _ h
  · have := q_nonneg b.toNat h
    split <;> omega
theorem noNum_pos {s : ByteArray} (h : noNum s = false) : 0 < s.size := by
  have hw := w1_bd s
  have ha := at2_bd s
  rcases Nat.eq_zero_or_pos s.size with k | k
  · have : noNum s = true := by
      unfold noNum
      apply decide_eq_true
      omega
    rw [this] at h
    cases h
  · exact k
theorem nvalue_ev (s : ByteArray) (hs : s.size ≤ 300) (sc : Int) (hsc : IsScale sc) (hn : noNum s = false) (he : endOf s = s.size) : Ev (fun k => number_Value.f k s sc) (V s sc) := by
  have hw := w1_bd s
  have hp := w1pn_bd s
  have hX := X_bd he
  have hlen := dl_len s
  have hb := hsc.bd
  have hpos := noNum_pos hn
  unfold number_Value.f
  have h1 : number_isScale.f sc = some true := by
    rcases hsc with rfl | rfl | rfl <;> rfl
  refine ev_bindc h1 (ev_pos rfl (ev_bindc (nparts s (by omega)) ?_))
  rw [if_neg (by rw [hn]; decide)]
  have hz : (s.extract (number_parts.w0 s) (number_parts.w1 s)).size = number_parts.w1 s - number_parts.w0 s := by rw [ByteArray.size_extract]; omega
  have hz2 : (number_parts.part s).size = pn s := by
    rw [← bytesOf_length, part_bytes, List.length_map, List.length_range]
  refine ev_neg (by show ¬ ((endOf s : Int) = 0 ∨ (endOf s : Int) ≠ (s.size : Int) ∨ 300 < (s.size : Int)); rw [he]; omega) (ev_pos (by show (s.extract (number_parts.w0 s) (number_parts.w1 s)).size + (number_parts.part s).size ≤ 140737488351232; rw [hz, hz2]; omega) (ev_bind (nexp_ev s (by omega) he _ _ _ _) ?_))
  rw [digs_parts, hz, w64 (by omega) (by omega)]
  obtain ⟨n, ok, h2, h3, h4⟩ := scaled_ev hsc (dl s) (dl_dg s) (by omega) (((number_parts.w1 s - number_parts.w0 s : Nat) : Int) + X s) (by omega) (by omega)
  rw [show ((dl s).length : Int) - (((number_parts.w1 s - number_parts.w0 s : Nat) : Int) + X s) = (pn s : Int) - X s by omega] at h3 h4
  have hS0 := S_nonneg (B := L (dl s).reverse * sc) (Int.mul_nonneg (L_nonneg (dl_dg s).rev) (by omega)) ((pn s : Int) - X s)
  refine ev_bind h2 ?_
  unfold V
  cases ok with
  | true =>
    obtain ⟨h5, h6⟩ := h3 rfl
    rw [if_pos (show S (L (dl s).reverse * sc) ((pn s : Int) - X s) ≤ 68719476736 by omega), h5]
    refine ev_pos rfl ?_
    have hneg : number_parts.neg s 0 = decide (bt s 0 = 45) := by
      unfold number_parts.neg number_parts.isSign
      rw [decide_eq_true hpos]
      by_cases k : bt s 0 = 45
      · rw [show bt s ((0 : Nat) : Int) = 45 from k, decide_eq_true k]
        rfl
      · rw [decide_eq_false k]
        have : (bt s ((0 : Nat) : Int) == 45) = false := by simpa using k
        rw [this]
        simp
    rw [hneg]
    refine ev_ite (fun h7 => ?_) (fun h7 => ?_)
    · rw [if_pos (of_decide_eq_true h7), w64 (by omega) (by omega)]
      exact ev_eq rfl
    · rw [if_neg (fun k => h7 (decide_eq_true k))]
      exact ev_eq rfl
  | false =>
    have := h4 rfl
    rw [if_neg (show ¬ S (L (dl s).reverse * sc) ((pn s : Int) - X s) ≤ 68719476736 by omega)]
    exact ev_neg (by simp) (ev_eq rfl)
/-- Both, of any text and by any scale. -/
def Val (s : ByteArray) (sc : Int) : Int × Int := if sc = 1 ∨ sc = 64 ∨ sc = 1000 then (if noNum s = true ∨ endOf s ≠ s.size ∨ 300 < s.size then (0, 21) else V s sc) else (0, 2)
theorem nVal (s : ByteArray) (hs : s.size ≤ 2000) (sc : Int) : Ev (fun k => number_Value.f k s sc) (Val s sc) := by
  unfold Val
  by_cases h : sc = 1 ∨ sc = 64 ∨ sc = 1000
  · rw [if_pos h]
    by_cases h2 : noNum s = true ∨ endOf s ≠ s.size ∨ 300 < s.size
    · rw [if_pos h2]
      unfold number_Value.f
      have h1 : number_isScale.f sc = some true := by
        rcases h with rfl | rfl | rfl <;> rfl
      refine ev_bindc h1 (ev_pos rfl (ev_bindc (nparts s (by omega)) ?_))
      by_cases h3 : noNum s = true
      · rw [if_pos h3]
        exact ev_pos (Or.inl rfl) (ev_eq rfl)
      · rw [if_neg h3]
        refine ev_pos ?_ (ev_eq rfl)
        rcases h2 with k | k | k
        · exact absurd k h3
        · exact Or.inr (Or.inl (by show (endOf s : Int) ≠ _; omega))
        · exact Or.inr (Or.inr (by omega))
    · rw [if_neg h2]
      by_cases h3 : noNum s = true
      · exact absurd (Or.inl h3) h2
      · by_cases h4 : endOf s = s.size
        · exact nvalue_ev s (by omega) sc h (by simpa using h3) h4
        · exact absurd (Or.inr (Or.inl h4)) h2
  · rw [if_neg h]
    unfold number_Value.f
    have h1 : number_isScale.f sc = some false := by
      unfold number_isScale.f
      rw [if_neg (fun k => h (Or.inl k)), if_neg (fun k => h (Or.inr (Or.inl k)))]
      rw [show (sc == 1000) = false by simpa using (fun k => h (Or.inr (Or.inr k)))]
    exact ev_bindc h1 (ev_neg (by decide) (ev_eq rfl))
end Go.Proofs.YtfccpnpocfjbcaaDoor.PureTw
