/- LineReadsSaid, part 12 of 13: contracts of the program's functions, the words that they use, and the plain laws on what they compute. Conditions: none beyond what the statements say. -/
import Derived.Test.YtofdhdafabmhmaaKLr0
import Derived.Test.YtofdhdafabmhmaaKLr2
import Derived.Test.YtofdhdafabmhmaaKLr3
import Derived.Test.YtofdhdafabmhmaaKLr8
import Derived.Test.YtofdhdafabmhmaaKLr10
import Derived.Test.YtofdhdafabmhmaaKLr4
import Derived.Test.YtofdhdafabmhmaaKLr1
import Derived.Lib.IndexLaws
import Derived.Test.YtofdhdafabmhmaaKLr7
import Derived.Test.YtofdhdafabmhmaaKLr9
set_option linter.unusedVariables false
set_option linter.unusedSimpArgs false
section
/- The value of a number's text: by the program and by the document. Conditions: as each statement says. -/
namespace Go.Proofs.Ytofdhdafabmhmaa.PureNw
open Go.RowKit Go.Proofs.YtofdhdafabmhmaaW.PrintWords Go.Proofs.YtofdhdafabmhmaaW.PrintMore Go.Proofs.Ytofdhdafabmhmaa.Evs Go.Proofs.Ytofdhdafabmhmaa.Opn Go.Proofs.Ytofdhdafabmhmaa.PLr Go.Proofs.Ytofdhdafabmhmaa.Dig Go.Proofs.Ytofdhdafabmhmaa.PureNu Go.Proofs.Ytofdhdafabmhmaa.PureNv

/-! ### Bytes of parts -/
def dig (c : Int) : Int := (c - 48) % 256
theorem bytes_app (a b : ByteArray) : bytesOf (a ++ b) = bytesOf a ++ bytesOf b := by
  unfold bytesOf; rw [ByteArray.toList_data_append, List.map_append]
theorem bytes_extract (s : ByteArray) (a b : Nat) : bytesOf (s.extract a b) = ((bytesOf s).drop a).take (b - a) := by
  unfold bytesOf; rw [ByteArray.data_extract, Array.toList_extract, List.extract_eq_take_drop, List.map_take, List.map_drop]
theorem bytes_get (s : ByteArray) (i : Nat) (h : i < s.size) : (bytesOf s)[i]? = some (bt s (i : Nat)) := by
  have hl : i < (bytesOf s).length := by rw [bytesOf_length]; exact h
  rw [← rd_bytesOf]; unfold rd; rw [Int.toNat_natCast, List.getD_eq_getElem?_getD, List.getElem?_eq_getElem hl]; rfl
theorem bt_of_bytes {s : ByteArray} {i : Nat} {c : Int} (h : (bytesOf s)[i]? = some c) : bt s (i : Nat) = c := by
  rw [← rd_bytesOf]; unfold rd; rw [Int.toNat_natCast, List.getD_eq_getElem?_getD, h]; rfl
theorem bytes_range (s : ByteArray) : bytesOf s = (List.range s.size).map fun j => bt s (j : Nat) := by
  apply List.ext_getElem?
  intro i; by_cases h : i < s.size
  · rw [bytes_get s i h, List.getElem?_map, List.getElem?_range h]
    rfl
  rw [List.getElem?_eq_none (by rw [bytesOf_length]; omega), List.getElem?_eq_none (by rw [List.length_map, List.length_range]; omega)]
theorem digs_bytes (s : ByteArray) : number_Value.digs s = (bytesOf s).map dig := by
  rw [bytes_range, List.map_map]; rfl
theorem extract_range (s : ByteArray) (a b : Nat) (h : b ≤ s.size) : bytesOf (s.extract a b) = (List.range (b - a)).map fun t => bt s ((a + t : Nat) : Int) := by
  rw [bytes_extract]; apply List.ext_getElem?
  intro i; by_cases h1 : i < b - a
  · rw [List.getElem?_take_of_lt h1, List.getElem?_drop, bytes_get s (a + i) (by omega), List.getElem?_map, List.getElem?_range h1]
    rfl
  rw [List.getElem?_eq_none (by rw [List.length_take]; omega), List.getElem?_eq_none (by rw [List.length_map, List.length_range]; omega)]
/-- The digits ahead of the point, and behind it. -/
def dl (s : ByteArray) : List Int := ((List.range (number_parts.w1 s - number_parts.w0 s)).map fun t => dig (bt s ((number_parts.w0 s + t : Nat) : Int))) ++ ((List.range (pn s)).map fun t => dig (bt s ((number_parts.w1 s + 1 + t : Nat) : Int)))
theorem part_bytes (s : ByteArray) : bytesOf (number_parts.part s) = (List.range (pn s)).map fun t => bt s ((number_parts.w1 s + 1 + t : Nat) : Int) := by
  unfold number_parts.part; by_cases h : number_parts.isDot s (number_parts.w1 s) = true
  · have h1 := p1_bd h
    rw [if_pos h, extract_range s _ _ h1.2]; have e : number_parts.p1 s - (number_parts.w1 s + 1) = pn s := by
      unfold pn number_parts.at2; rw [if_pos h]; split <;> omega
    rw [e]
  rw [if_neg h]; have e : pn s = 0 := by
    unfold pn number_parts.at2; rw [if_neg h]; omega
  rw [e]; rfl
theorem digs_parts (s : ByteArray) : number_Value.digs (s.extract (number_parts.w0 s) (number_parts.w1 s) ++ number_parts.part s) = dl s := by
  rw [digs_bytes, bytes_app, List.map_append, part_bytes, extract_range s _ _ (w1_bd s).2, List.map_map, List.map_map]; rfl
theorem dig_of {c : Int} (h : isD c = true) : 0 ≤ dig c ∧ dig c ≤ 9 ∧ dig c = c - 48 := by
  have := od_ h
  unfold dig; omega
theorem whole_digit (s : ByteArray) {t : Nat} (h : t < number_parts.w1 s - number_parts.w0 s) : isD (bt s ((number_parts.w0 s + t : Nat) : Int)) = true := stop_digit s _ (number_parts.w0 s) _ rfl (by omega) (show _ < number_parts.w1 s by omega)
theorem pn_dot {s : ByteArray} (h : 0 < pn s) : number_parts.isDot s (number_parts.w1 s) = true ∧ number_parts.w1 s + 1 + pn s = number_parts.stop s (number_parts.w1 s + 1) ∧ number_parts.at2 s = number_parts.w1 s + 1 + pn s := by
  by_cases h1 : number_parts.isDot s (number_parts.w1 s) = true
  · have h2 := p1_bd h1
    have h3 : number_parts.at2 s = number_parts.p1 s := by
      unfold pn at h; unfold number_parts.at2 at h ⊢; rw [if_pos h1] at h ⊢; split <;> rename_i h4
      · rw [if_pos h4] at h
        omega
      rfl
    have h4 : number_parts.p1 s = number_parts.stop s (number_parts.w1 s + 1) := by unfold number_parts.p1; rw [if_pos h1]
    refine ⟨h1, ?_, ?_⟩
    · rw [← h4]
      unfold pn at h ⊢; omega
    unfold pn at h ⊢; omega
  unfold pn number_parts.at2 at h; rw [if_neg h1] at h; omega
theorem part_digit (s : ByteArray) {t : Nat} (h : t < pn s) : isD (bt s ((number_parts.w1 s + 1 + t : Nat) : Int)) = true := by
  have h1 := pn_dot (s := s) (by omega); exact stop_digit s _ (number_parts.w1 s + 1) _ rfl (by omega) (by omega)
theorem dl_dg (s : ByteArray) : Dg (dl s) := by
  intro x hx; unfold dl at hx; rcases List.mem_append.1 hx with hx | hx
  · obtain ⟨t, ht, rfl⟩ := List.mem_map.1 hx
    have := dig_of (whole_digit s (List.mem_range.1 ht))
    omega
  obtain ⟨t, ht, rfl⟩ := List.mem_map.1 hx; have := dig_of (part_digit s (List.mem_range.1 ht))
  omega
theorem dl_len (s : ByteArray) : (dl s).length = (number_parts.w1 s - number_parts.w0 s) + pn s := by
  unfold dl; rw [List.length_append, List.length_map, List.length_range, List.length_map, List.length_range]
theorem w1pn_bd (s : ByteArray) : number_parts.w1 s + pn s ≤ s.size := by
  have := at2_bd s
  unfold pn; omega

/-! ### The exponent -/
def expF (s : ByteArray) : Nat → Nat → Int → Int
  | 0, _, n => n
  | d + 1, i, n => expF s d (i + 1) (min 1000 (10 * n + (bt s (i : Nat) - 48)))
def X (s : ByteArray) : Int := if number_parts.hasE s = true then (if bt s ((number_parts.at2 s + 1 : Nat) : Int) = 45 then - expF s (s.size - number_parts.x0 s) (number_parts.x0 s) 0 else expF s (s.size - number_parts.x0 s) (number_parts.x0 s) 0) else 0
theorem expF_bd (s : ByteArray) : ∀ (d i : Nat) (n : Int), 0 ≤ n → n ≤ 1000 → i + d = s.size → (∀ m, i ≤ m → m < s.size → isD (bt s (m : Nat)) = true) → 0 ≤ expF s d i n ∧ expF s d i n ≤ 1000
  | 0, i, n, h0, h1, hi, hd => ⟨h0, h1⟩
  | d + 1, i, n, h0, h1, hi, hd => by
    have := od_ (hd i (Nat.le_refl _) (by omega))
    exact expF_bd s d (i + 1) _ (by omega) (by omega) (by omega) (fun m hm => hd m (by omega))
theorem hasE_bd {s : ByteArray} (h : number_parts.hasE s = true) : number_parts.isE s (number_parts.at2 s) = true ∧ number_parts.at2 s + 1 ≤ number_parts.x0 s ∧ number_parts.x0 s < number_parts.x1 s ∧ number_parts.x1 s ≤ s.size ∧ number_parts.x0 s ≤ number_parts.at2 s + 2 := by
  unfold number_parts.hasE at h; rw [Bool.and_eq_true] at h; have h1 := x0_bd h.1; have h2 := x1_bd h.1; have h3 := od_ h.2; exact ⟨h.1, h1.1, h3, h2.2, h1.2.2⟩
theorem exp_digits {s : ByteArray} (h : number_parts.hasE s = true) (he : number_parts.x1 s = s.size) (m : Nat) (h1 : number_parts.x0 s ≤ m) (h2 : m < s.size) : isD (bt s (m : Nat)) = true := stop_digit s _ (number_parts.x0 s) m rfl h1 (show m < number_parts.x1 s by omega)
theorem X_bd {s : ByteArray} (he : endOf s = s.size) : -1000 ≤ X s ∧ X s ≤ 1000 := by
  unfold X; by_cases h : number_parts.hasE s = true
  · rw [if_pos h]
    unfold endOf at he; rw [if_pos h] at he; have hb := hasE_bd h; have := expF_bd s (s.size - number_parts.x0 s) (number_parts.x0 s) 0 (by omega) (by omega) (by omega) (exp_digits h he)
    split <;> omega
  rw [if_neg h]; omega
theorem rexp_l0 (s : ByteArray) (hs : s.size ≤ 140737488351232) (a : Nat) (ha : a < s.size) (sg : Bool) : ∀ (d i : Nat) (n : Int), 0 ≤ n → n ≤ 1000 → i + d = s.size → (∀ m, i ≤ m → m < s.size → isD (bt s (m : Nat)) = true) →
    Ev (fun k => r02_exponent.l0 k s (a : Nat) n (i : Nat)) (if bt s (a : Nat) = 45 then - expF s d i n else expF s d i n)
  | 0, i, n, h0, h1, hi, hd => by
    refine ev_step ?_
    simp only [r02_exponent.l0]; refine ev_neg (by omega) (ev_pos (by omega) (ev_pos (by omega) (ev_ite (fun h => ?_) (fun h => ?_))))
    · rw [if_pos h, w64 (by omega) (by omega)]
      exact ev_eq rfl
    rw [if_neg h]; exact ev_eq rfl
  | d + 1, i, n, h0, h1, hi, hd => by
    have hb := od_ (hd i (Nat.le_refl _) (by omega)); refine ev_step ?_
    simp only [r02_exponent.l0]; refine ev_pos (by omega) (ev_pos (by omega) ?_)
    rw [mn_eq, w64 (x := 10 * n) (by omega) (by omega), show (bt s (i : Nat) - 48) % 256 = bt s (i : Nat) - 48 by omega, w64 (x := 10 * n + (bt s (i : Nat) - 48)) (by omega) (by omega), w64 (x := (i : Int) + 1) (by omega) (by omega)]; exact rexp_l0 s hs a ha sg d (i + 1) _ (by omega) (by omega) (by omega) (fun m hm => hd m (by omega))
theorem rexp_ev (s : ByteArray) (hs : s.size ≤ 140737488351232) (he : endOf s = s.size) : Ev (fun k => r02_exponent.f k s (expAt s : Nat)) (X s) := by
  unfold r02_exponent.f X expAt; by_cases h : number_parts.hasE s = true
  · rw [if_pos h, if_pos h]
    have hb := hasE_bd h; unfold endOf at he; rw [if_pos h] at he; refine ev_neg (by omega) (ev_bindc (sign_f s _) ?_)
    rw [show number_parts.sgn s (number_parts.at2 s + 1) = number_parts.x0 s from rfl, w64 (by omega) (by omega), show ((number_parts.at2 s + 1 : Nat) : Int) + ((number_parts.x0 s : Int) - ((number_parts.at2 s + 1 : Nat) : Int)) = ((number_parts.x0 s : Nat) : Int) by omega]; exact rexp_l0 s hs _ (by omega) true (s.size - number_parts.x0 s) (number_parts.x0 s) 0 (by omega) (by omega) (by omega) (exp_digits h he)
  rw [if_neg h, if_neg h]; exact ev_pos rfl (ev_eq rfl)
theorem bt_extract (s : ByteArray) (a j : Nat) (h : a + j < s.size) : bt (s.extract a s.size) (j : Nat) = bt s ((a + j : Nat) : Int) := by
  apply bt_of_bytes
  rw [extract_range s _ _ (Nat.le_refl _), List.getElem?_map, List.getElem?_range (by omega)]; rfl
theorem nexp_l0 (s : ByteArray) (hs : s.size ≤ 140737488351232) (a : Nat) (ha : a < s.size) (b : Bool) (p1 p2 : ByteArray) (e : Int) : ∀ (d j : Nat) (n : Int), 0 ≤ n → n ≤ 1000 → a + j + d = s.size → (∀ m, a + j ≤ m → m < s.size → isD (bt s (m : Nat)) = true) →
    Ev (fun k => number_text_exponent.l0 k n ((s.extract a s.size).size : Nat) (j : Nat) b p1 p2 (s.extract a s.size) e) (if bt s (a : Nat) = 45 then - expF s d (a + j) n else expF s d (a + j) n)
  | 0, j, n, h0, h1, hi, hd => by
    have hz : (s.extract a s.size).size = s.size - a := by rw [ByteArray.size_extract]; omega
    refine ev_step ?_
    simp only [number_text_exponent.l0]; have hne : ¬ (s.extract a s.size).toList = ([] : List UInt8) := by
      intro k; have h2 : (s.extract a s.size).data.toList = [] := by
        rw [ByteArray.toList_eq] at k; exact k
      have h3 : (s.extract a s.size).data.toList.length = s.size - a := by rw [data_length]; exact hz
      rw [h2] at h3; simp only [List.length_nil] at h3; omega
    have hb0 := bt_extract s a 0 (by omega); refine ev_neg (by omega) (ev_neg hne (ev_pos (by omega) ?_))
    rw [show bt (s.extract a s.size) 0 = bt s (a : Nat) from hb0]; refine ev_ite (fun h => ?_) (fun h => ?_)
    · rw [if_pos h, w64 (by omega) (by omega)]
      exact ev_eq rfl
    rw [if_neg h]; exact ev_eq rfl
  | d + 1, j, n, h0, h1, hi, hd => by
    have hz : (s.extract a s.size).size = s.size - a := by rw [ByteArray.size_extract]; omega
    have hD := hd (a + j) (Nat.le_refl _) (by omega); have hb := od_ hD; refine ev_step ?_
    simp only [number_text_exponent.l0]; rw [bt_extract s a j (by omega)]; refine ev_pos (by omega) (ev_pos (by omega) (ev_pos (by omega) (ev_bindc (digit_f _) (ev_pos hD ?_))))
    rw [mn_eq, w64 (x := 10 * n) (by omega) (by omega), show (bt s ((a + j : Nat) : Int) - 48) % 256 = bt s ((a + j : Nat) : Int) - 48 by omega, w64 (x := 10 * n + (bt s ((a + j : Nat) : Int) - 48)) (by omega) (by omega), w64 (x := (j : Int) + 1) (by omega) (by omega)]; exact nexp_l0 s hs a ha b p1 p2 e d (j + 1) _ (by omega) (by omega) (by omega) (fun m hm => hd m (by omega))
theorem nexp_ev (s : ByteArray) (hs : s.size ≤ 140737488351232) (he : endOf s = s.size) (b : Bool) (p1 p2 : ByteArray) (e : Int) : Ev (fun k => number_text_exponent.f k b p1 p2 (expOf s) e) (X s) := by
  unfold number_text_exponent.f X expOf; by_cases h : number_parts.hasE s = true
  · rw [if_pos h, if_pos h]
    have hb := hasE_bd h; unfold endOf at he; rw [if_pos h] at he; rw [he]; have hd := exp_digits h he; by_cases hx : number_parts.x0 s = number_parts.at2 s + 1
    · rw [hx] at hd ⊢
      exact nexp_l0 s hs (number_parts.at2 s + 1) (by omega) b p1 p2 e (s.size - (number_parts.at2 s + 1)) 0 0 (by omega) (by omega) (by omega) (fun m hm => hd m (by omega))
    have hx2 : number_parts.x0 s = number_parts.at2 s + 1 + 1 := by omega
    have hz : (s.extract (number_parts.at2 s + 1) s.size).size = s.size - (number_parts.at2 s + 1) := by rw [ByteArray.size_extract]; omega
    have hsg : isD (bt s ((number_parts.at2 s + 1 : Nat) : Int)) = false := by
      have : number_parts.isSign s (number_parts.at2 s + 1) = true := by
        by_cases k : number_parts.isSign s (number_parts.at2 s + 1) = true
        · exact k
        exfalso
        apply hx
        unfold number_parts.x0 number_parts.sgn; rw [if_neg k]
      unfold number_parts.isSign at this; simp at this
      unfold isD; apply df_
      rcases this.2 with k | k <;> rw [show ((number_parts.at2 s + 1 : Nat) : Int) = (number_parts.at2 s : Int) + 1 by omega, k] <;> omega
    refine ev_step ?_
    simp only [number_text_exponent.l0]; have hb0 := bt_extract s (number_parts.at2 s + 1) 0 (by omega); rw [show bt (s.extract (number_parts.at2 s + 1) s.size) 0 = bt s ((number_parts.at2 s + 1 : Nat) : Int) from hb0]; refine ev_pos (by omega) (ev_pos (by omega) (ev_pos (by omega) (ev_bindc (digit_f _) (ev_neg (by rw [hsg]; decide) ?_))))
    rw [hx2] at hd ⊢; rw [show wrap64 ((0 : Int) + 1) = ((1 : Nat) : Int) from w64 (by omega) (by omega)]; exact nexp_l0 s hs (number_parts.at2 s + 1) (by omega) b p1 p2 e (s.size - (number_parts.at2 s + 1 + 1)) 1 0 (by omega) (by omega) (by omega) (fun m hm => hd m (by omega))
  rw [if_neg h, if_neg h]; refine ev_step ?_
  simp only [number_text_exponent.l0]; exact ev_neg (by decide) (ev_pos (by rw [ByteArray.toList_eq]) (ev_eq rfl))

/-! ### The digits, as the document collects them -/
def sel (s : ByteArray) (i : Nat) : Bool := isD (bt s (i : Nat)) && (decide (i < number_parts.w1 s) || (decide (number_parts.w1 s < i) && decide (i ≤ number_parts.w1 s + pn s))) && decide (i < s.size)
def col (s : ByteArray) : Nat → List Int
  | 0 => []
  | i + 1 => (if sel s (number_parts.w0 s + i) = true then [dig (bt s ((number_parts.w0 s + i : Nat) : Int))] else []) ++ col s i
theorem rvalue_l0 (s : ByteArray) (hs : s.size ≤ 2000) (sc : Int) (R : Int × Int) (e : Int)
    (h : Ev (fun k => (r02_scaled.f k (col s (number_parts.w1 s - number_parts.w0 s + pn s + 1)) sc).bind fun t176 => ((r02_exponent.f k s e).bind fun t179 => ((r02_round.f k t176 (wrap64 ((pn s : Nat) - t179))).bind fun t180 => (if t180 > 68719476736 then (some (0, 10)) else (if 0 < (s.size : Int) then (if (bt s 0) = 45 then (some (wrap64 (-t180), 0)) else (some (t180, 0))) else (none)))))) R) :
    ∀ (i : Nat) (acc : List Int), acc ++ col s i = col s (number_parts.w1 s - number_parts.w0 s + pn s + 1) → acc.length + i ≤ s.size + 1 → i ≤ number_parts.w1 s - number_parts.w0 s + pn s + 1 → 
    Ev (fun k => r02_Value.l0 k s sc (number_parts.w0 s : Nat) ((number_parts.w1 s : Int) - (number_parts.w0 s : Int)) (pn s : Nat) e acc ((number_parts.w0 s : Int) + (i : Int) - 1)) R
  | 0, acc, hc, hl, hi => by
    have hw := w1_bd s; have hp := w1pn_bd s; rw [show col s 0 = [] from rfl, List.append_nil] at hc; subst hc; refine ev_step ?_
    simp only [r02_Value.l0]; exact ev_neg (by omega) h
  | i + 1, acc, hc, hl, hi => by
    have hw := w1_bd s; have hp := w1pn_bd s; have ih := fun acc2 h1 h2 => rvalue_l0 s hs sc R e h i acc2 h1 h2 (by omega)
    refine ev_step ?_
    simp only [r02_Value.l0]; have e1 : (number_parts.w0 s : Int) + ((i + 1 : Nat) : Int) - 1 = ((number_parts.w0 s + i : Nat) : Int) := by omega
    have e2 : wrap64 (((number_parts.w0 s + i : Nat) : Int) - 1) = (number_parts.w0 s : Int) + (i : Int) - 1 := by
      rw [w64 (by omega) (by omega)]; omega
    have e3 : wrap64 ((number_parts.w0 s : Int) + ((number_parts.w1 s : Int) - (number_parts.w0 s : Int))) = (number_parts.w1 s : Int) := by
      rw [w64 (by omega) (by omega)]; omega
    have e4 : wrap64 ((number_parts.w1 s : Int) + ((pn s : Nat) : Int)) = ((number_parts.w1 s + pn s : Nat) : Int) := by
      rw [w64 (by omega) (by omega)]; omega
    rw [e1, e2]; simp only [e3, e4]; have hlen : ∀ x : Int, (acc ++ [x]).length = acc.length + 1 := fun x => by simp
    have hno : sel s (number_parts.w0 s + i) = false → acc ++ col s i = col s (number_parts.w1 s - number_parts.w0 s + pn s + 1) := by
      intro k; rw [show col s (i + 1) = (if sel s (number_parts.w0 s + i) = true then [dig (bt s ((number_parts.w0 s + i : Nat) : Int))] else []) ++ col s i from rfl, k] at hc; exact hc
    have hyes : sel s (number_parts.w0 s + i) = true → (acc ++ [dig (bt s ((number_parts.w0 s + i : Nat) : Int))]) ++ col s i = col s (number_parts.w1 s - number_parts.w0 s + pn s + 1) := by
      intro k; rw [show col s (i + 1) = (if sel s (number_parts.w0 s + i) = true then [dig (bt s ((number_parts.w0 s + i : Nat) : Int))] else []) ++ col s i from rfl, if_pos k] at hc; rw [List.append_assoc]; exact hc
    refine ev_pos (by omega) (ev_ite (fun h1 => ev_pos (by omega) (ev_bindc (rdigit_f _) (ev_ite (fun h2 => ev_ite (fun h3 => ev_pos (by omega) ?_) (fun h3 => ev_ite (fun h4 => ev_ite (fun h5 => ev_pos (by omega) ?_) (fun h5 => ?_)) (fun h4 => ?_))) (fun h2 => ?_)))) (fun h1 => ?_))
    · refine ih _ (hyes ?_) (by rw [hlen]; omega)
      unfold sel; rw [h2, dt_ (show number_parts.w0 s + i < number_parts.w1 s by omega), dt_ (show number_parts.w0 s + i < s.size by omega)]; rfl
    · refine ih _ (hyes ?_) (by rw [hlen]; omega)
      unfold sel; rw [h2, dt_ (show number_parts.w1 s < number_parts.w0 s + i by omega), dt_ (show number_parts.w0 s + i ≤ number_parts.w1 s + pn s by omega), dt_ (show number_parts.w0 s + i < s.size by omega)]; simp
    · refine ih _ (hno ?_) (by omega)
      unfold sel; rw [df_ (show ¬ number_parts.w0 s + i < number_parts.w1 s by omega), df_ (show ¬ number_parts.w0 s + i ≤ number_parts.w1 s + pn s by omega)]; simp
    · refine ih _ (hno ?_) (by omega)
      unfold sel; rw [df_ (show ¬ number_parts.w0 s + i < number_parts.w1 s by omega), df_ (show ¬ number_parts.w1 s < number_parts.w0 s + i by omega)]; simp
    · refine ih _ (hno ?_) (by omega)
      unfold sel; rw [show isD (bt s ((number_parts.w0 s + i : Nat) : Int)) = false by simpa using h2]; rfl
    refine ih _ (hno ?_) (by omega)
    unfold sel; rw [df_ (show ¬ number_parts.w0 s + i < s.size by omega)]; simp
theorem col_whole (s : ByteArray) : ∀ i, i ≤ number_parts.w1 s - number_parts.w0 s → col s i = ((List.range i).map fun t => dig (bt s ((number_parts.w0 s + t : Nat) : Int))).reverse
  | 0, hi => rfl
  | i + 1, hi => by
    have hw := w1_bd s; have hs : sel s (number_parts.w0 s + i) = true := by
      unfold sel; rw [whole_digit s (by omega), dt_ (show number_parts.w0 s + i < number_parts.w1 s by omega), dt_ (show number_parts.w0 s + i < s.size by omega)]; rfl
    unfold col; rw [if_pos hs, col_whole s i (by omega), List.range_succ, List.map_append, List.reverse_append]; rfl
theorem col_part (s : ByteArray) : ∀ j, j ≤ pn s → col s (number_parts.w1 s - number_parts.w0 s + 1 + j) = (((List.range (number_parts.w1 s - number_parts.w0 s)).map fun t => dig (bt s ((number_parts.w0 s + t : Nat) : Int))) ++ ((List.range j).map fun t => dig (bt s ((number_parts.w1 s + 1 + t : Nat) : Int)))).reverse
  | 0, hj => by
    have hw := w1_bd s; show col s ((number_parts.w1 s - number_parts.w0 s) + 1) = _
    have hs : sel s (number_parts.w0 s + (number_parts.w1 s - number_parts.w0 s)) = false := by
      unfold sel; rw [df_ (show ¬ number_parts.w0 s + (number_parts.w1 s - number_parts.w0 s) < number_parts.w1 s by omega), df_ (show ¬ number_parts.w1 s < number_parts.w0 s + (number_parts.w1 s - number_parts.w0 s) by omega)]; simp
    unfold col; rw [if_neg (by rw [hs]; decide), col_whole s _ (Nat.le_refl _)]; simp
  | j + 1, hj => by
    have hw := w1_bd s; have hp := w1pn_bd s; have h1 := pn_dot (s := s) (by omega); have h2 := (at2_bd s).2.1; show col s ((number_parts.w1 s - number_parts.w0 s + 1 + j) + 1) = _
    have e : number_parts.w0 s + (number_parts.w1 s - number_parts.w0 s + 1 + j) = number_parts.w1 s + 1 + j := by omega
    have hs : sel s (number_parts.w0 s + (number_parts.w1 s - number_parts.w0 s + 1 + j)) = true := by
      rw [e]; unfold sel; rw [part_digit s (by omega), dt_ (show number_parts.w1 s < number_parts.w1 s + 1 + j by omega), dt_ (show number_parts.w1 s + 1 + j ≤ number_parts.w1 s + pn s by omega), dt_ (show number_parts.w1 s + 1 + j < s.size by omega)]; simp
    unfold col; rw [if_pos hs, col_part s j (by omega), e, List.range_succ, List.map_append]; simp
theorem col_dl (s : ByteArray) : col s (number_parts.w1 s - number_parts.w0 s + pn s + 1) = (dl s).reverse := by
  rw [show number_parts.w1 s - number_parts.w0 s + pn s + 1 = number_parts.w1 s - number_parts.w0 s + 1 + pn s by omega, col_part s _ (Nat.le_refl _)]; rfl

/-! ### The value -/
/-- What a number's text is worth. -/
def V (s : ByteArray) (sc : Int) : Int × Int :=
  if S (L (dl s).reverse * sc) ((pn s : Int) - X s) ≤ 68719476736 then (if bt s 0 = 45 then (- S (L (dl s).reverse * sc) ((pn s : Int) - X s), 0) else (S (L (dl s).reverse * sc) ((pn s : Int) - X s), 0)) else (0, 10)
theorem S_nonneg {B : Int} (h : 0 ≤ B) (b : Int) : 0 ≤ S B b := by
  unfold S; split
  · exact m10_nonneg _ h
  have := q_nonneg b.toNat h
  split <;> omega
theorem noNum_pos {s : ByteArray} (h : noNum s = false) : 0 < s.size := by
  have hw := w1_bd s; have ha := at2_bd s; rcases Nat.eq_zero_or_pos s.size with k | k
  · have : noNum s = true := by
      unfold noNum; apply dt_
      omega
    rw [this] at h; cases h
  exact k
theorem rvalue_ev (s : ByteArray) (hs : s.size ≤ 2000) (sc : Int) (hsc : IsScale sc) (hn : noNum s = false) (he : endOf s = s.size) : Ev (fun k => r02_Value.l0 k s sc (number_parts.w0 s : Nat) ((number_parts.w1 s : Int) - (number_parts.w0 s : Int)) (pn s : Nat) (expAt s : Nat) [] (wrap64 (wrap64 ((number_parts.w0 s : Int) + ((number_parts.w1 s : Int) - (number_parts.w0 s : Int))) + (pn s : Nat)))) (V s sc) := by
  have hw := w1_bd s; have hp := w1pn_bd s; have hX := X_bd he; have hlen := dl_len s; have h := rvalue_l0 s (by omega) sc (V s sc) (expAt s : Nat) ?_ (number_parts.w1 s - number_parts.w0 s + pn s + 1) [] rfl (by simp only [List.length_nil]; omega) (Nat.le_refl _)
  · rw [w64 (x := (number_parts.w0 s : Int) + ((number_parts.w1 s : Int) - (number_parts.w0 s : Int))) (by omega) (by omega), w64 (by omega) (by omega)]
    rw [show (number_parts.w0 s : Int) + ((number_parts.w1 s - number_parts.w0 s + pn s + 1 : Nat) : Int) - 1 = (number_parts.w0 s : Int) + ((number_parts.w1 s : Int) - (number_parts.w0 s : Int)) + (pn s : Nat) by omega] at h; exact h
  rw [col_dl]; refine ev_bind (rscaled_ev hsc _ (by rw [List.length_reverse]; omega) (dl_dg s).rev) (ev_bind (rexp_ev s (by omega) he) ?_)
  rw [w64 (x := (pn s : Nat) - X s) (by omega) (by omega)]; refine ev_bind (round_ev _ (prod_dg _ _) (by have := prod_len sc (dl s).reverse; rw [List.length_reverse] at this; omega) _ (by omega) (by omega)) ?_
  have hpos := noNum_pos hn; have hb := hsc.bd; have hS0 := S_nonneg (B := L (dl s).reverse * sc) (Int.mul_nonneg (L_nonneg (dl_dg s).rev) (by omega)) ((pn s : Int) - X s); unfold V; rcases T_S hsc (dl s).reverse (dl_dg s).rev ((pn s : Int) - X s) with ⟨h1, h2⟩ | ⟨h1, h2⟩
  · rw [if_pos h1, h2]
    refine ev_neg (by omega) (ev_pos (by omega) (ev_ite (fun h3 => ?_) (fun h3 => ?_)))
    · rw [if_pos h3, w64 (by omega) (by omega)]
      exact ev_eq rfl
    rw [if_neg h3]; exact ev_eq rfl
  rw [if_neg (show ¬ S (L (dl s).reverse * sc) ((pn s : Int) - X s) ≤ 68719476736 by omega)]; exact ev_pos (by omega) (ev_eq rfl)
theorem nvalue_ev (s : ByteArray) (hs : s.size ≤ 300) (sc : Int) (hsc : IsScale sc) (hn : noNum s = false) (he : endOf s = s.size) : Ev (fun k => number_Value.f k s sc) (V s sc) := by
  have hw := w1_bd s; have hp := w1pn_bd s; have hX := X_bd he; have hlen := dl_len s; have hb := hsc.bd; have hpos := noNum_pos hn; unfold number_Value.f; have h1 : number_isScale.f sc = some true := by
    rcases hsc with rfl | rfl | rfl <;> rfl
  refine ev_bindc h1 (ev_pos rfl (ev_bindc (nparts s (by omega)) ?_))
  rw [if_neg (by rw [hn]; decide)]; have hz : (s.extract (number_parts.w0 s) (number_parts.w1 s)).size = number_parts.w1 s - number_parts.w0 s := by rw [ByteArray.size_extract]; omega
  have hz2 : (number_parts.part s).size = pn s := by
    rw [← bytesOf_length, part_bytes, List.length_map, List.length_range]
  refine ev_neg (by show ¬ ((endOf s : Int) = 0 ∨ (endOf s : Int) ≠ (s.size : Int) ∨ 300 < (s.size : Int)); rw [he]; omega) (ev_pos (by show (s.extract (number_parts.w0 s) (number_parts.w1 s)).size + (number_parts.part s).size ≤ 140737488351232; rw [hz, hz2]; omega) (ev_bind (nexp_ev s (by omega) he _ _ _ _) ?_))
  rw [digs_parts, hz, w64 (by omega) (by omega)]; obtain ⟨n, ok, h2, h3, h4⟩ := scaled_ev hsc (dl s) (dl_dg s) (by omega) (((number_parts.w1 s - number_parts.w0 s : Nat) : Int) + X s) (by omega) (by omega); rw [show ((dl s).length : Int) - (((number_parts.w1 s - number_parts.w0 s : Nat) : Int) + X s) = (pn s : Int) - X s by omega] at h3 h4; have hS0 := S_nonneg (B := L (dl s).reverse * sc) (Int.mul_nonneg (L_nonneg (dl_dg s).rev) (by omega)) ((pn s : Int) - X s); refine ev_bind h2 ?_
  unfold V
  cases ok with
  | true =>
    obtain ⟨h5, h6⟩ := h3 rfl; rw [if_pos (show S (L (dl s).reverse * sc) ((pn s : Int) - X s) ≤ 68719476736 by omega), h5]; refine ev_pos rfl ?_
    have hneg : number_parts.neg s 0 = decide (bt s 0 = 45) := by
      unfold number_parts.neg number_parts.isSign; rw [dt_ hpos]; by_cases k : bt s 0 = 45
      · rw [show bt s ((0 : Nat) : Int) = 45 from k, dt_ k]
        rfl
      rw [df_ k]; have : (bt s ((0 : Nat) : Int) == 45) = false := by simpa using k
      rw [this]; simp
    rw [hneg]; refine ev_ite (fun h7 => ?_) (fun h7 => ?_)
    · rw [if_pos (od_ h7), w64 (by omega) (by omega)]
      exact ev_eq rfl
    rw [if_neg (fun k => h7 (dt_ k))]; exact ev_eq rfl
  | false =>
    have := h4 rfl
    rw [if_neg (show ¬ S (L (dl s).reverse * sc) ((pn s : Int) - X s) ≤ 68719476736 by omega)]; exact ev_neg (by simp) (ev_eq rfl)
/-- Both, of any text and by any scale. -/
def Val (s : ByteArray) (sc : Int) : Int × Int := if sc = 1 ∨ sc = 64 ∨ sc = 1000 then (if noNum s = true ∨ endOf s ≠ s.size ∨ 300 < s.size then (0, 21) else V s sc) else (0, 2)
theorem nVal (s : ByteArray) (hs : s.size ≤ 2000) (sc : Int) : Ev (fun k => number_Value.f k s sc) (Val s sc) := by
  unfold Val; by_cases h : sc = 1 ∨ sc = 64 ∨ sc = 1000
  · rw [if_pos h]
    by_cases h2 : noNum s = true ∨ endOf s ≠ s.size ∨ 300 < s.size
    · rw [if_pos h2]
      unfold number_Value.f; have h1 : number_isScale.f sc = some true := by
        rcases h with rfl | rfl | rfl <;> rfl
      refine ev_bindc h1 (ev_pos rfl (ev_bindc (nparts s (by omega)) ?_))
      by_cases h3 : noNum s = true
      · rw [if_pos h3]
        exact ev_pos (Or.inl rfl) (ev_eq rfl)
      rw [if_neg h3]; refine ev_pos ?_ (ev_eq rfl)
      rcases h2 with k | k | k
      · exact absurd k h3
      · exact Or.inr (Or.inl (by show (endOf s : Int) ≠ _; omega))
      exact Or.inr (Or.inr (by omega))
    rw [if_neg h2]; by_cases h3 : noNum s = true
    · exact absurd (Or.inl h3) h2
    by_cases h4 : endOf s = s.size
    · exact nvalue_ev s (by omega) sc h (by simpa using h3) h4
    exact absurd (Or.inr (Or.inl h4)) h2
  rw [if_neg h]; unfold number_Value.f; have h1 : number_isScale.f sc = some false := by
    unfold number_isScale.f; rw [if_neg (fun k => h (Or.inl k)), if_neg (fun k => h (Or.inr (Or.inl k)))]; rw [show (sc == 1000) = false by simpa using (fun k => h (Or.inr (Or.inr k)))]
  exact ev_bindc h1 (ev_neg (by decide) (ev_eq rfl))
theorem rVal_j1 (s : ByteArray) (hs : s.size ≤ 2000) (sc : Int) (hsc : IsScale sc) (b : Bool) (hb : b = decide (noNum s = true ∨ endOf s ≠ s.size ∨ 300 < s.size)) :
    Ev (fun k => r02_Value.j1 k s sc (refParts s).1 (refParts s).2.1 (refParts s).2.2.1 (refParts s).2.2.2.1 b) (if noNum s = true ∨ endOf s ≠ s.size ∨ 300 < s.size then (0, 21) else V s sc) := by
  refine ev_step ?_
  simp only [r02_Value.j1]; subst hb; by_cases h2 : noNum s = true ∨ endOf s ≠ s.size ∨ 300 < s.size
  · rw [if_pos h2]
    exact ev_pos (dt_ h2) (ev_eq rfl)
  rw [if_neg h2]; refine ev_neg (fun k => h2 (od_ k)) ?_
  by_cases h3 : noNum s = true
  · exact absurd (Or.inl h3) h2
  have h4 : endOf s = s.size := by
    by_cases k : endOf s = s.size
    · exact k
    exact absurd (Or.inr (Or.inl k)) h2
  unfold refParts; rw [if_neg h3]; exact rvalue_ev s hs sc hsc (by simpa using h3) h4
theorem rVal_j0 (s : ByteArray) (hs : s.size ≤ 2000) (sc : Int) (hsc : IsScale sc) : Ev (fun k => r02_Value.j0 k s sc false) (if noNum s = true ∨ endOf s ≠ s.size ∨ 300 < s.size then (0, 21) else V s sc) := by
  refine ev_step ?_
  simp only [r02_Value.j0]; refine ev_neg (by decide) (ev_bind (parts_ev s (by omega)) ?_)
  have e : (refParts s).2.2.2.2 = if noNum s = true then 0 else (endOf s : Int) := by
    unfold refParts; split <;> rfl
  by_cases h3 : noNum s = true
  · rw [if_pos h3] at e
    exact ev_pos e (rVal_j1 s hs sc hsc true (dt_ (Or.inl h3)).symm)
  rw [if_neg h3] at e; have hpos := noNum_pos (s := s) (by simpa using h3); refine ev_ite (fun h => rVal_j1 s hs sc hsc true (dt_ (Or.inr (Or.inl (by omega)))).symm) (fun h => ev_ite (fun h4 => ?_) (fun h4 => rVal_j1 s hs sc hsc true (dt_ (Or.inr (Or.inl (by omega)))).symm))
  refine rVal_j1 s hs sc hsc _ (decide_eq_decide.2 ⟨fun k => Or.inr (Or.inr (by omega)), fun k => ?_⟩)
  rcases k with k | k | k
  · exact absurd k h3
  · exact absurd (by omega) k
  omega
theorem rVal (s : ByteArray) (hs : s.size ≤ 2000) (sc : Int) : Ev (fun k => r02_Value.f k s sc) (Val s sc) := by
  unfold Val r02_Value.f; by_cases h : sc = 1 ∨ sc = 64 ∨ sc = 1000
  · rw [if_pos h]
    refine ev_ite (fun _ => rVal_j0 s hs sc h) (fun h1 => ev_ite (fun _ => rVal_j0 s hs sc h) (fun h2 => ?_))
    have : (sc != 1000) = false := by
      rcases h with k | k | k
      · exact absurd k h1
      · exact absurd k h2
      rw [k]; rfl
    rw [this]; exact rVal_j0 s hs sc h
  rw [if_neg h]; refine ev_neg (fun k => h (Or.inl k)) (ev_neg (fun k => h (Or.inr (Or.inl k))) ?_)
  have : (sc != 1000) = true := by simpa using (fun k => h (Or.inr (Or.inr k)))
  rw [this]; refine ev_step ?_
  simp only [r02_Value.j0]; exact ev_pos trivial (ev_eq rfl)
end Go.Proofs.Ytofdhdafabmhmaa.PureNw
end
section
/- Names and texts as they are written (layer 4): the plain programs and the document's, byte for byte. Conditions: as each statement says. -/
namespace Go.Proofs.Ytofdhdafabmhmaa.PureId
open Go.RowKit Go.Proofs.YtofdhdafabmhmaaW.PrintWords Go.Proofs.YtofdhdafabmhmaaW.PrintMore Go.Proofs.Ytofdhdafabmhmaa.Evs Go.Proofs.Ytofdhdafabmhmaa.Opn Go.Proofs.Ytofdhdafabmhmaa.PLr

/-! ### The 256 bytes, each looked at -/
/-! ### A nought -/
theorem bt_get (s : ByteArray) (i : Nat) (h : i < s.size) : bt s (i : Int) = ((s.data.toList[i]'(by rw [data_length]; exact h)).toNat : Int) := by
  rw [← bt_at s (i : Int) (by simpa using h)]; simp
  rfl
theorem bt_zero (s : ByteArray) (i : Nat) (h : i < s.size) : bt s (i : Int) = 0 ↔ s.data.toList[i]? = some 0 := by
  have h' : i < s.data.toList.length := by rw [data_length]; exact h
  rw [bt_get s i h, List.getElem?_eq_getElem h', Option.some_inj]; constructor
  · intro e
    apply UInt8.toNat_inj.1
    simpa using e
  intro e; rw [e]; rfl
def has0 (s : ByteArray) : Bool := decide (0 ≤ Lib.indexByte s.data.toList 0)
theorem has0_true {s : ByteArray} {i : Nat} (h : i < s.size) (hb : bt s (i : Int) = 0) : has0 s = true := by
  unfold has0; apply dt_
  by_cases h0 : Lib.indexByte s.data.toList 0 = -1
  · exact absurd ((bt_zero s i h).1 hb) (Lib.indexByte_none h0 i)
  have := Lib.indexByte_ge s.data.toList 0
  omega
theorem has0_false {s : ByteArray} (h : ∀ i, i < s.size → bt s (i : Int) ≠ 0) : has0 s = false := by
  unfold has0; apply df_
  intro h0; obtain ⟨o, ho⟩ := Int.eq_ofNat_of_zero_le h0; obtain ⟨h1, _⟩ := Lib.indexByte_some ho; have h2 := (List.getElem?_eq_some_iff.1 h1).1; rw [data_length] at h2; exact h o h2 ((bt_zero s o h2).2 h1)
theorem nought_ev (s : ByteArray) (hs : s.size ≤ 140737488351232) : ∀ d i : Nat, s.size - i = d → i ≤ s.size → (∀ j, j < i → bt s (j : Int) ≠ 0) → Ev (fun k => r04_nought.l0 k s (i : Int)) (has0 s) := by
  intro d; induction d with
  | zero =>
    intro i hd hi hj; refine ev_step ?_
    simp only [r04_nought.l0]; rw [has0_false (fun j h => hj j (by omega))]; exact ev_neg (by omega) ev_some
  | succ d ih =>
    intro i hd hi hj; refine ev_step ?_
    simp only [r04_nought.l0]; refine ev_pos (by omega) (ev_pos (by omega) (ev_ite (fun h => ?_) (fun h => ?_)))
    · rw [has0_true (by omega) h]
      exact ev_some
    rw [w64 (by omega) (by omega)]; refine ih (i + 1) (by omega) (by omega) (fun j hj' => ?_)
    rcases Nat.lt_or_ge j i with h1 | h1
    · exact hj j h1
    obtain rfl : j = i := by omega
    exact h
theorem noughts (s : ByteArray) (hs : s.size ≤ 140737488351232) : Ev (fun k => r04_nought.f k s) (has0 s) := nought_ev s hs _ 0 rfl (Nat.zero_le _) (fun j h => absurd h (Nat.not_lt_zero _))
theorem index0 (s : ByteArray) : strings_IndexByte.f s 0 = some (Lib.indexByte s.data.toList 0) := rfl
theorem has0_lt (s : ByteArray) : decide (Lib.indexByte s.data.toList 0 < 0) = !has0 s := by
  unfold has0; rw [← decide_not]; exact decide_eq_decide.2 (by omega)

/-! ### A name -/
def isName (s : ByteArray) : Bool := if s.toList = ([] : List UInt8) then false else if (s.size : Int) ≤ 64 then !has0 s else false
theorem name_f (s : ByteArray) : ident_Name.f s = some (isName s) := by
  unfold ident_Name.f isName; split
  · rfl
  split
  · rw [index0]
    show some (decide _) = _
    rw [has0_lt]
  rfl
theorem name_ev (s : ByteArray) (hs : s.size ≤ 140737488351232) : Ev (fun k => r04_Name.f k s) (isName s) := by
  unfold r04_Name.f isName; by_cases h : s.toList = ([] : List UInt8)
  · rw [if_pos h]
    exact ev_pos h ev_some
  rw [if_neg h]; refine ev_neg h ?_
  by_cases h2 : (s.size : Int) ≤ 64
  · rw [if_pos h2]
    exact ev_pos h2 (ev_bind (noughts s hs) ev_some)
  rw [if_neg h2]; exact ev_neg h2 ev_some

/-! ### Written -/
theorem wr (s : ByteArray) (i : Nat) (hs : s.size ≤ 1000000) (hi : i < s.size) : wrap64 ((i : Int) + 1) = ((i + 1 : Nat) : Int) := by
  rw [w64 (by omega) (by omega)]; omega
/-! ### Quoted -/
end Go.Proofs.Ytofdhdafabmhmaa.PureId
end
section
/- IdentTells, as a statement on bytes. Conditions: none beyond the arguments' own kinds. -/
namespace Go.Proofs.Ytofdhdafabmhmaa.PureIdT
open Go.RowKit Go.Proofs.YtofdhdafabmhmaaW.PrintWords Go.Proofs.YtofdhdafabmhmaaW.PrintMore Go.Proofs.Ytofdhdafabmhmaa.Evs Go.Proofs.Ytofdhdafabmhmaa.Opn Go.Proofs.Ytofdhdafabmhmaa.PLr Go.Proofs.Ytofdhdafabmhmaa.PureId
def lowN (s : ByteArray) (n : Nat) : List Int := (List.range n).map fun j => ident_Lower.low (bt s (j : Nat))
def L (s : ByteArray) : ByteArray := strOfNums (lowN s s.size)
theorem lower_f (s : ByteArray) (hs : s.size ≤ 1000000) : ident_Lower.f s = some (L s) := if_pos (by omega)
theorem strOfNums_app (a b : List Int) : strOfNums (a ++ b) = strOfNums a ++ strOfNums b := by
  apply ByteArray.ext
  simp [strOfNums]
theorem strOfNums_size (a : List Int) : (strOfNums a).size = a.length := by
  show (strOfNums a).data.size = _
  simp [strOfNums]
theorem lowN_succ (s : ByteArray) (n : Nat) : lowN s (n + 1) = lowN s n ++ [ident_Lower.low (bt s (n : Nat))] := by
  simp [lowN, List.range_succ]
theorem lowN_size (s : ByteArray) (n : Nat) : (lowN s n).length = n := by simp [lowN]
theorem lower_loop (s : ByteArray) (hs : s.size ≤ 1000000) : ∀ d i : Nat, s.size - i = d → i ≤ s.size → Ev (fun k => r04_Lower.l0 k s (strOfNums (lowN s i)) (i : Int)) (L s) := by
  intro d; induction d with
  | zero =>
    intro i hd hi; obtain rfl : i = s.size := by omega
    refine ev_step ?_
    simp only [r04_Lower.l0]; exact ev_neg (by omega) ev_some
  | succ d ih =>
    intro i hd hi; have hlt : i < s.size := by omega
    have k0 := ih (i + 1) (by omega) (by omega); rw [lowN_succ, strOfNums_app] at k0; have hz := strOfNums_size (lowN s i); rw [lowN_size] at hz; have hw := wr s i hs hlt; have one : ∀ c : Int, (strOfNums [c]).size = 1 := fun c => strOfNums_size [c]
    refine ev_step ?_
    simp only [r04_Lower.l0, hw]; unfold ident_Lower.low at k0; refine ev_pos (by omega) (ev_pos (by omega) (ev_ite (fun p1 => ?_) (fun p1 => ?_)))
    · rw [if_pos p1] at k0
      refine ev_ite (fun p2 => ?_) (fun p2 => ?_)
      · rw [if_pos p2] at k0
        have e : (bt s (i : Int) - 65) % 256 + 97 = bt s (i : Int) + 32 := by omega
        have e2 : (bt s (i : Int) + 32) % 256 = bt s (i : Int) + 32 := by omega
        refine ev_let (ev_pos ?_ ?_)
        · rw [one]; omega
        rw [e, e2]; exact k0
      rw [if_neg p2] at k0; refine ev_let (ev_pos ?_ k0)
      rw [one]; omega
    rw [if_neg p1] at k0; refine ev_let (ev_pos ?_ k0)
    rw [one]; omega
theorem lower_ev (s : ByteArray) (hs : s.size ≤ 1000000) : Ev (fun k => r04_Lower.f k s) (L s) := by
  unfold r04_Lower.f; exact lower_loop s hs s.size 0 rfl (Nat.zero_le _)
theorem is_f (a b : ByteArray) (ha : a.size ≤ 1000000) (hb : b.size ≤ 1000000) : ident_Is.f a b = some ((L a).toList == (L b).toList) := by
  unfold ident_Is.f; rw [lower_f a ha, lower_f b hb]; rfl
theorem is_ev (a b : ByteArray) (ha : a.size ≤ 1000000) (hb : b.size ≤ 1000000) : Ev (fun k => r04_Is.f k a b) ((L a).toList == (L b).toList) := by
  unfold r04_Is.f; exact ev_bind (lower_ev a ha) (ev_bind (lower_ev b hb) ev_some)
theorem custom_loop (s : ByteArray) (l : List ByteArray) (hs : s.size ≤ 1000000) (hl : l.length ≤ 100) (hx : ∀ x ∈ l, x.size ≤ 1000000) : ∀ d i : Nat, l.length - i = d → i ≤ l.length →
    Ev (fun k => r04_Custom.l0 k s l (i : Int)) (if (l.drop i).any (fun x => (L s).toList == (L x).toList) = true then false else isName s) := by
  intro d; induction d with
  | zero =>
    intro i hd hi; refine ev_step ?_
    simp only [r04_Custom.l0]; rw [List.drop_eq_nil_of_le (by omega)]; refine ev_neg (by omega) (ev_cast (ev_bind_some (name_ev s (by omega))) ?_)
    simp
  | succ d ih =>
    intro i hd hi; have hlt : i < l.length := by omega
    have hr : rdOf ByteArray.empty l (i : Int) = l[i] := by
      simp [rdOf, List.getD_eq_getElem?_getD, List.getElem?_eq_getElem hlt]
    refine ev_step ?_
    simp only [r04_Custom.l0, hr]; rw [List.drop_eq_getElem_cons hlt, List.any_cons]; refine ev_pos (by omega) (ev_pos (by omega) (ev_bind (is_ev s l[i] hs (hx _ (List.getElem_mem hlt))) (ev_ite (fun p => ?_) (fun p => ?_))))
    · rw [p, Bool.true_or, if_pos rfl]
      exact ev_some
    rw [Bool.eq_false_iff.2 p, Bool.false_or, w64 (by omega) (by omega)]; exact ih (i + 1) (by omega) (by omega)
def kws : List ByteArray := [(⟨#[115, 112, 97, 110]⟩ : ByteArray), (⟨#[97, 117, 116, 111]⟩ : ByteArray), (⟨#[105, 110, 105, 116, 105, 97, 108]⟩ : ByteArray), (⟨#[105, 110, 104, 101, 114, 105, 116]⟩ : ByteArray), (⟨#[117, 110, 115, 101, 116]⟩ : ByteArray), (⟨#[100, 101, 102, 97, 117, 108, 116]⟩ : ByteArray), (⟨#[114, 101, 118, 101, 114, 116]⟩ : ByteArray)]
theorem kws_low : kws.map (fun x => (L x).data.toList) = [[115, 112, 97, 110], [97, 117, 116, 111], [105, 110, 105, 116, 105, 97, 108], [105, 110, 104, 101, 114, 105, 116], [117, 110, 115, 101, 116], [100, 101, 102, 97, 117, 108, 116], [114, 101, 118, 101, 114, 116]] := by decide +kernel
def custom (s : ByteArray) : Bool := if kws.any (fun x => (L s).toList == (L x).toList) = true then false else isName s
theorem custom_ev (s : ByteArray) (hs : s.size ≤ 1000000) : Ev (fun k => r04_Custom.f k s) (custom s) := by
  unfold r04_Custom.f; exact custom_loop s kws hs (by decide) (by decide) kws.length 0 rfl (Nat.zero_le _)
theorem custom_f (s : ByteArray) (hs : s.size ≤ 1000000) : ident_Custom.f s = some (custom s) := by
  have e : kws.any (fun x => (L s).toList == (L x).toList) = (kws.map (fun x => (L x).data.toList)).any (fun x => (L s).toList == x) := by
    rw [List.any_map]; congr 1
    funext x
    simp only [Function.comp, ByteArray.toList_eq]
  unfold ident_Custom.f custom; rw [lower_f s hs, e, kws_low, name_f]; simp only [Option.bind_some, List.any_cons, List.any_nil]; generalize (L s).toList = x
  repeat' first
    | rfl
    | (split <;> rename_i h1 <;> first | (subst h1; rfl) | skip)
  simp_all
end Go.Proofs.Ytofdhdafabmhmaa.PureIdT
namespace Go.Proofs.Ytofdhdafabmhmaa.Pure
open Go.RowKit Go.Proofs.YtofdhdafabmhmaaW.PrintWords Go.Proofs.YtofdhdafabmhmaaW.PrintMore Go.Proofs.Ytofdhdafabmhmaa.Evs Go.Proofs.Ytofdhdafabmhmaa.Opn Go.Proofs.Ytofdhdafabmhmaa.PLr Go.Proofs.Ytofdhdafabmhmaa.PureId Go.Proofs.Ytofdhdafabmhmaa.PureIdT
end Go.Proofs.Ytofdhdafabmhmaa.Pure
end
section
/- Any words read as a line, by the program and by the document: one answer. Conditions: as each theorem says. -/
namespace Go.Proofs.Ytofdhdafabmhmaa.PureLq
open Go.RowKit Go.Proofs.YtofdhdafabmhmaaW.PrintWords Go.Proofs.YtofdhdafabmhmaaW.PrintMore Go.Proofs.Ytofdhdafabmhmaa.Evs Go.Proofs.Ytofdhdafabmhmaa.Opn Go.Proofs.Ytofdhdafabmhmaa.PLr Go.Proofs.Ytofdhdafabmhmaa.Giv
open Go.Proofs.Ytofdhdafabmhmaa.PureIdT (L lower_f is_f is_ev custom custom_f custom_ev kws lowN)
open Go.Proofs.Ytofdhdafabmhmaa.PureNw (Val nVal rVal)
open Go.Proofs.Ytofdhdafabmhmaa.PureId (isName bt_get)

abbrev Tok := S43
structure Few (l : List Tok) : Prop where
  n : l.length ≤ 500
  z : ∀ t ∈ l, t.f2.size ≤ 400 ∧ t.f3.size ≤ 400
def noTok : Tok := ⟨8, 0, ⟨#[]⟩, ⟨#[]⟩⟩
def tok (l : List Tok) (a : Int) : Tok := if 0 ≤ a ∧ a < (l.length : Int) then rd_T43 l a else noTok
section
variable {l : List Tok} {a k : Int}
theorem tok_size (hf : Few l) (a : Int) : (tok l a).f2.size ≤ 400 ∧ (tok l a).f3.size ≤ 400 := by
  unfold tok; by_cases h : 0 ≤ a ∧ a < (l.length : Int)
  · rw [if_pos h]
    unfold rd_T43; have hl : a.toNat < l.length := by omega
    rw [List.getD_eq_getElem?_getD, List.getElem?_eq_getElem hl]; exact hf.z _ (List.getElem_mem hl)
  rw [if_neg h]; exact ⟨Nat.zero_le _, Nat.zero_le _⟩
theorem tok_in (h : (tok l a).f0 ≠ 8) : 0 ≤ a ∧ a < (l.length : Int) := by
  by_cases e : 0 ≤ a ∧ a < (l.length : Int)
  · exact e
  unfold tok at h; rw [if_neg e] at h; exact absurd rfl h
theorem word_f (l : List Tok) (a : Int) : value_word.f l a = some ((tok l a).f0, (tok l a).f1, (tok l a).f2, (tok l a).f3) := by
  unfold value_word.f tok; by_cases h1 : a < 0
  · rw [if_pos h1, if_neg (by omega)]
    rfl
  rw [if_neg h1]; by_cases h2 : a ≥ (l.length : Int)
  · rw [if_pos h2, if_neg (by omega)]
    rfl
  rw [if_neg h2, if_pos (by omega), if_pos (by omega), if_pos (by omega)]
theorem rword_f (l : List Tok) (a : Int) : r05_Word.f l a = some ((tok l a).f0, (tok l a).f1, (tok l a).f2, (tok l a).f3) := by
  unfold r05_Word.f tok; by_cases h1 : a < 0
  · rw [if_pos h1, if_neg (by omega)]
    rfl
  rw [if_neg h1]; by_cases h2 : a ≥ (l.length : Int)
  · rw [if_pos h2, if_neg (by omega)]
    rfl
  rw [if_neg h2, if_pos (by omega), if_pos (by omega), if_pos (by omega)]
/-! ### Keywords -/
def same (s x : ByteArray) : Bool := (L s).toList == (L x).toList
def kwR (p : ByteArray → Bool) (a : Int) : List ByteArray → Int → Int × Int
  | [], _ => (-1, a)
  | x :: r, j => if p x = true then (j, a + 1) else kwR p a r (j + 1)
theorem kw_loop (s : ByteArray) (xs : List ByteArray) (a : Int) (ha : 0 ≤ a ∧ a ≤ 1000) (hs : s.size ≤ 1000000) (hx : ∀ x ∈ xs, x.size ≤ 1000000) (hl : xs.length ≤ 100) (x0 x1 : Int) (x3 : ByteArray) :
    ∀ d j : Nat, xs.length - j = d → j ≤ xs.length → Ev (fun k => value_Keyword.l0 k a xs (xs.length : Int) (j : Int) x0 x1 s x3) (kwR (same s) a (xs.drop j) (j : Int)) := by
  intro d; induction d with
  | zero =>
    intro j hd hj; rw [List.drop_eq_nil_of_le (by omega)]; refine ev_step ?_
    simp only [value_Keyword.l0]; exact ev_neg (by omega) ev_some
  | succ d ih =>
    intro j hd hj; have hlt : j < xs.length := by omega
    have hr : rdOf ByteArray.empty xs (j : Int) = xs[j] := by simp [rdOf, List.getD_eq_getElem?_getD, List.getElem?_eq_getElem hlt]
    rw [List.drop_eq_getElem_cons hlt]; refine ev_step ?_
    simp only [value_Keyword.l0, hr, kwR]; refine ev_pos (by omega) (ev_pos (by omega) (ev_pos (by omega) (ev_bindc (is_f s xs[j] hs (hx _ (List.getElem_mem hlt))) ?_)))
    refine ev_ite (fun h => ?_) (fun h => ?_)
    · rw [if_pos (show same s xs[j] = true from h), w64 (by omega) (by omega)]
      exact ev_some
    rw [if_neg (show ¬ same s xs[j] = true from h), w64 (by omega) (by omega)]; exact ih (j + 1) (by omega) (by omega)
def isKw (t : Tok) (x : ByteArray) : Bool := decide (t.f0 = 1) && same t.f2 x
theorem isKw_eq {t : Tok} (h : t.f0 = 1) : isKw t = same t.f2 := by
  funext x
  unfold isKw; rw [dt_ h, Bool.true_and]
theorem kwR_no (p : ByteArray → Bool) (a : Int) (hp : ∀ x, p x = false) : ∀ (xs : List ByteArray) (j : Int), kwR p a xs j = (-1, a)
  | [], _ => rfl
  | x :: r, j => by
    unfold kwR; rw [hp x, if_neg (by decide)]; exact kwR_no p a hp r (j + 1)
theorem isKw_no {t : Tok} (h : t.f0 ≠ 1) (x : ByteArray) : isKw t x = false := by
  unfold isKw; rw [df_ h, Bool.false_and]
theorem kw_ev (hf : Few l) (a : Int) (xs : List ByteArray) (hx : ∀ x ∈ xs, x.size ≤ 1000000) (hl : xs.length ≤ 100) : Ev (fun k => value_Keyword.f k l a xs) (kwR (isKw (tok l a)) a xs 0) := by
  simp only [value_Keyword.f]; have hz := tok_size hf a; refine ev_bindc (word_f l a) (ev_ite (fun h => ?_) (fun h => ?_))
  · have hi := tok_in (l := l) (a := a) (by rw [show (tok l a).f0 = 1 from h]; decide)
    have := hf.n
    rw [isKw_eq h]; exact kw_loop _ xs a (by omega) (show (tok l a).f2.size ≤ 1000000 by omega) hx hl _ _ _ _ 0 rfl (Nat.zero_le _)
  rw [kwR_no _ _ (isKw_no h)]; exact ev_some
theorem rkw_loop (xs : List ByteArray) (a : Int) (t : Tok) (ha : t.f0 = 1 → 0 ≤ a ∧ a ≤ 1000) (hs : t.f2.size ≤ 1000000) (hx : ∀ x ∈ xs, x.size ≤ 1000000) (hl : xs.length ≤ 100) :
    ∀ d j : Nat, xs.length - j = d → j ≤ xs.length → Ev (fun k => r05_Keyword.l0 k a xs (j : Int) t.f0 t.f1 t.f2 t.f3) (kwR (isKw t) a (xs.drop j) (j : Int)) := by
  intro d; induction d with
  | zero =>
    intro j hd hj; rw [List.drop_eq_nil_of_le (by omega)]; refine ev_step ?_
    simp only [r05_Keyword.l0]; exact ev_neg (by omega) ev_some
  | succ d ih =>
    intro j hd hj; have hlt : j < xs.length := by omega
    have hr : rdOf ByteArray.empty xs (j : Int) = xs[j] := by simp [rdOf, List.getD_eq_getElem?_getD, List.getElem?_eq_getElem hlt]
    rw [List.drop_eq_getElem_cons hlt]; refine ev_step ?_
    simp only [r05_Keyword.l0, hr, kwR]; have ih1 := ih (j + 1) (by omega) (by omega); refine ev_pos (by omega) (ev_ite (fun h1 => ev_pos (by omega) (ev_bind (is_ev t.f2 xs[j] hs (hx _ (List.getElem_mem hlt))) ?_)) (fun h1 => ?_))
    · have ha1 := ha h1
      rw [show isKw t xs[j] = same t.f2 xs[j] from congrFun (isKw_eq h1) _]; refine ev_ite (fun h => ?_) (fun h => ?_)
      · rw [if_pos (show same t.f2 xs[j] = true from h), w64 (by omega) (by omega)]
        exact ev_some
      rw [if_neg (show ¬ same t.f2 xs[j] = true from h), w64 (by omega) (by omega)]; exact ih1
    rw [isKw_no h1, if_neg (by decide), w64 (by omega) (by omega)]; exact ih1
theorem rkw_ev (hf : Few l) (a : Int) (xs : List ByteArray) (hx : ∀ x ∈ xs, x.size ≤ 1000000) (hl : xs.length ≤ 100) : Ev (fun k => r05_Keyword.f k l a xs) (kwR (isKw (tok l a)) a xs 0) := by
  simp only [r05_Keyword.f]; have hz := tok_size hf a; refine ev_bindc (rword_f l a) (rkw_loop xs a (tok l a) (fun h => ?_) (by omega) hx hl _ 0 rfl (Nat.zero_le _))
  have hi := tok_in (l := l) (a := a) (by rw [h]; decide); have := hf.n
  omega
/-! ### Whole numbers -/
theorem contains1 (s : ByteArray) (c : UInt8) : strings_Contains.f s ⟨#[c]⟩ = some (s.data.toList.any (· == c)) := by
  unfold strings_Contains.f strings_Index.f; rw [if_pos (show (⟨#[c]⟩ : ByteArray).size = 1 from rfl)]; show some (decide (Lib.indexByte s.data.toList c ≥ 0)) = _
  congr 1
  rw [Bool.eq_iff_iff, decide_eq_true_eq, List.any_eq_true]; constructor
  · intro h
    obtain ⟨m, hm⟩ := Int.eq_ofNat_of_zero_le h; exact ⟨c, List.mem_of_getElem? (Lib.indexByte_some hm).1, beq_self_eq_true c⟩
  rintro ⟨x, hx, e⟩
  have e := eq_of_beq e; subst e; rcases Int.lt_or_le (Lib.indexByte s.data.toList x) 0 with h1 | h1
  · have h2 := Lib.indexByte_ge s.data.toList x
    obtain ⟨i, hi⟩ := List.getElem?_of_mem hx; exact absurd hi (Lib.indexByte_none (by omega) i)
  exact h1
def lowB (b : UInt8) : UInt8 := UInt8.ofNat (ident_Lower.low (b.toNat : Int)).toNat
theorem L_list (s : ByteArray) : (L s).data.toList = s.data.toList.map lowB := by
  have h1 : (L s).data.toList = (lowN s s.size).map (fun c => UInt8.ofNat c.toNat) := rfl; rw [h1]; refine List.ext_getElem? fun i => ?_
  by_cases hi : i < s.size
  · have hb := bt_get s i hi
    rw [List.getElem?_map, List.getElem?_map, List.getElem?_eq_getElem (l := s.data.toList) (by rw [data_length]; exact hi)]; unfold lowN; rw [List.getElem?_map, List.getElem?_range hi]; show some (UInt8.ofNat (ident_Lower.low (bt s (i : Int))).toNat) = some (lowB _)
    rw [hb]; rfl
  rw [List.getElem?_eq_none (by simp [lowN]; omega), List.getElem?_eq_none (by rw [List.length_map, data_length]; omega)]
theorem lowB_e (b : UInt8) : (lowB b == 101) = (b == 101 || b == 69) := by
  have hb : b.toNat < 256 := b.toNat_lt; have e : lowB b = 101 ↔ b = 101 ∨ b = 69 := by
    rw [← UInt8.toNat_inj, ← UInt8.toNat_inj (a := b) (b := 101), ← UInt8.toNat_inj (a := b) (b := 69)]; unfold lowB ident_Lower.low; rw [UInt8.toNat_ofNat']; show _ = 101 ↔ b.toNat = 101 ∨ b.toNat = 69
    split
    · split <;> omega
    omega
  rw [Bool.eq_iff_iff, Bool.or_eq_true, beq_iff_eq, beq_iff_eq, beq_iff_eq]; exact e
def isDE (b : UInt8) : Bool := b == 46 || (b == 101 || b == 69)
def dotE (s : ByteArray) : Bool := s.data.toList.any isDE
theorem any_or {α : Type} (l : List α) (p q : α → Bool) : l.any (fun x => p x || q x) = (l.any p || l.any q) := by
  induction l with
  | nil => rfl
  | cons x r ih =>
    simp only [List.any_cons, ih]; cases p x <;> cases q x <;> simp
theorem dotE_eq (s : ByteArray) : dotE s = (s.data.toList.any (· == 46) || (L s).data.toList.any (· == 101)) := by
  unfold dotE isDE; rw [any_or, L_list, List.any_map]; congr 2
  funext b
  exact (lowB_e b).symm
def IntV (l : List Tok) (a : Int) : Int × Int × Int :=
  if (tok l a).f0 = 3 then (if dotE (tok l a).f3 = true then (0, a, 50) else if (Val (tok l a).f3 1).2 = 0 then ((Val (tok l a).f3 1).1, a + 1, 0) else if (Val (tok l a).f3 1).2 = 10 then (0, a, 10) else (0, a, 50)) else (0, a, 50)
section
variable (h3 : (tok l a).f0 = 3)
include h3
theorem IntV_dot (hd : dotE (tok l a).f3 = true) : IntV l a = (0, a, 50) := by
  unfold IntV; rw [if_pos h3, if_pos hd]
theorem IntV_ok (hd : ¬ dotE (tok l a).f3 = true) (e : (Val (tok l a).f3 1).2 = 0) : IntV l a = ((Val (tok l a).f3 1).1, a + 1, 0) := by
  unfold IntV; rw [if_pos h3, if_neg hd, if_pos e]
theorem IntV_over (hd : ¬ dotE (tok l a).f3 = true) (e0 : ¬ (Val (tok l a).f3 1).2 = 0) (e : (Val (tok l a).f3 1).2 = 10) : IntV l a = (0, a, 10) := by
  unfold IntV; rw [if_pos h3, if_neg hd, if_neg e0, if_pos e]
theorem IntV_bad (hd : ¬ dotE (tok l a).f3 = true) (e0 : ¬ (Val (tok l a).f3 1).2 = 0) (e : ¬ (Val (tok l a).f3 1).2 = 10) : IntV l a = (0, a, 50) := by
  unfold IntV; rw [if_pos h3, if_neg hd, if_neg e0, if_neg e]
end
theorem nInt_j0 (hf : Few l) (a : Int) (h3 : (tok l a).f0 = 3) (b : Bool) (hb : b = dotE (tok l a).f3) (x0 x1 : Int) (x2 : ByteArray) : Ev (fun k => value_Integer.j0 k a b x0 x1 x2 (tok l a).f3) (IntV l a) := by
  have hz := tok_size hf a; have hi := tok_in (l := l) (a := a) (by rw [h3]; decide); have hn := hf.n; refine ev_step ?_
  simp only [value_Integer.j0, value_scaled.f]; refine ev_ite (fun h => ?_) (fun h => ?_)
  · rw [IntV_dot h3 (by rw [← hb]; exact h)]
    exact ev_some
  have hd : ¬ dotE (tok l a).f3 = true := by rw [← hb]; exact h
  by_cases e0 : (Val (tok l a).f3 1).2 = 0
  · rw [IntV_ok h3 hd e0]
    refine ev_bind (a := ((Val (tok l a).f3 1).1, (Val (tok l a).f3 1).2)) (ev_bind (nVal (tok l a).f3 (by omega) 1) (ev_pos e0 ev_some)) (ev_pos e0 (ev_eq ?_))
    rw [w64 (by omega) (by omega)]
  by_cases e1 : (Val (tok l a).f3 1).2 = 10
  · rw [IntV_over h3 hd e0 e1]
    refine ev_bind (a := ((Val (tok l a).f3 1).1, (Val (tok l a).f3 1).2)) (ev_bind (nVal (tok l a).f3 (by omega) 1) (ev_neg e0 (ev_pos e1 ev_some))) (ev_neg e0 (ev_eq ?_))
    rw [show (((Val (tok l a).f3 1).1, (Val (tok l a).f3 1).2) : Int × Int).2 = 10 from e1]
  rw [IntV_bad h3 hd e0 e1]; exact ev_bind (a := ((Val (tok l a).f3 1).1, (50 : Int))) (ev_bind (nVal (tok l a).f3 (by omega) 1) (ev_neg e0 (ev_neg e1 ev_some))) (ev_neg (show ¬ (50 : Int) = 0 by decide) ev_some)
theorem nInt (hf : Few l) (a : Int) : Ev (fun k => value_Integer.f k l a) (IntV l a) := by
  have hz := tok_size hf a; simp only [value_Integer.f]; refine ev_bindc (word_f l a) (ev_ite (fun h3 => ?_) (fun h3 => ?_))
  · refine ev_bindc (contains1 (tok l a).f3 46) (ev_ite (fun h => ?_) (fun h => ?_))
    · exact nInt_j0 hf a h3 true (by rw [dotE_eq, h, Bool.true_or]) _ _ _
    refine ev_bindc (lower_f (tok l a).f3 (by omega)) (ev_bindc (contains1 (L (tok l a).f3) 101) (nInt_j0 hf a h3 _ ?_ _ _ _))
    rw [dotE_eq, Bool.eq_false_iff.2 h, Bool.false_or]
  refine ev_step ?_
  simp only [value_Integer.j0]; unfold IntV; rw [if_neg (show ¬ (tok l a).f0 = 3 from h3)]; exact ev_pos (by trivial) ev_some
theorem rInt_loop (hf : Few l) (a : Int) (h3 : (tok l a).f0 = 3) (x0 x1 : Int) (x2 : ByteArray) : ∀ d i : Nat, (tok l a).f3.size - i = d → i ≤ (tok l a).f3.size →
    ((tok l a).f3.data.toList.drop i).any isDE = dotE (tok l a).f3 → Ev (fun k => r05_Integer.l0 k a (i : Int) x0 x1 x2 (tok l a).f3) (IntV l a) := by
  have hz := tok_size hf a; have hi := tok_in (l := l) (a := a) (by rw [h3]; decide); have hn := hf.n; intro d; induction d with
  | zero =>
    intro i hd hl hD; rw [List.drop_eq_nil_of_le (by rw [data_length]; omega)] at hD; refine ev_step ?_
    simp only [r05_Integer.l0]; have hd0 : ¬ dotE (tok l a).f3 = true := by rw [← hD]; decide
    refine ev_neg (by omega) (ev_bind (rVal (tok l a).f3 (by omega) 1) ?_)
    by_cases e0 : (Val (tok l a).f3 1).2 = 0
    · rw [IntV_ok h3 hd0 e0]
      refine ev_neg (by rw [e0]; decide) (ev_pos e0 (ev_eq ?_))
      rw [w64 (by omega) (by omega)]
    by_cases e1 : (Val (tok l a).f3 1).2 = 10
    · rw [IntV_over h3 hd0 e0 e1]
      exact ev_pos e1 ev_some
    rw [IntV_bad h3 hd0 e0 e1]; exact ev_neg e1 (ev_neg e0 ev_some)
  | succ d ih =>
    intro i hd hl hD; have hlt : i < (tok l a).f3.size := by omega
    have hlt2 : i < (tok l a).f3.data.toList.length := by rw [data_length]; exact hlt
    have hb := bt_get (tok l a).f3 i hlt; rw [List.drop_eq_getElem_cons hlt2, List.any_cons] at hD; have one : ∀ c : UInt8, bt (tok l a).f3 (i : Int) = (c.toNat : Int) ↔ ((tok l a).f3.data.toList[i] == c) = true := fun c => by
      rw [hb, beq_iff_eq, ← UInt8.toNat_inj]; omega
    have hit : isDE (tok l a).f3.data.toList[i] = true → IntV l a = (0, a, 50) := fun h => by
      rw [h, Bool.true_or] at hD; unfold IntV; rw [if_pos h3, ← hD, if_pos rfl]
    refine ev_step ?_
    simp only [r05_Integer.l0]; refine ev_pos (by omega) (ev_pos (by omega) (ev_ite (fun q1 => ?_) (fun q1 => ev_ite (fun q2 => ?_) (fun q2 => ev_ite (fun q3 => ?_) (fun q3 => ?_)))))
    · rw [hit (by unfold isDE; rw [(one 46).1 q1, Bool.true_or])]
      exact ev_some
    · rw [hit (by unfold isDE; rw [(one 101).1 q2, Bool.true_or, Bool.or_true])]
      exact ev_some
    · rw [hit (by unfold isDE; rw [(one 69).1 q3, Bool.or_true, Bool.or_true])]
      exact ev_some
    rw [w64 (by omega) (by omega)]; refine ih (i + 1) (by omega) (by omega) ?_
    rw [← hD]; have : isDE (tok l a).f3.data.toList[i] = false := by
      unfold isDE; rw [Bool.eq_false_iff.2 (fun h => q1 ((one 46).2 h)), Bool.eq_false_iff.2 (fun h => q2 ((one 101).2 h)), Bool.eq_false_iff.2 (fun h => q3 ((one 69).2 h))]; rfl
    rw [this, Bool.false_or]
theorem rInt (hf : Few l) (a : Int) : Ev (fun k => r05_Integer.f k l a) (IntV l a) := by
  simp only [r05_Integer.f]; refine ev_bindc (rword_f l a) (ev_ite (fun h3 => ?_) (fun h3 => ?_))
  · exact rInt_loop hf a h3 _ _ _ _ 0 rfl (Nat.zero_le _) rfl
  unfold IntV; rw [if_neg (show ¬ (tok l a).f0 = 3 from h3)]; exact ev_some
/-! ### What a word is -/
def SPAN : ByteArray := ⟨#[115, 112, 97, 110]⟩
def K (l : List Tok) (a : Int) : Int := if (tok l a).f0 = 1 then (if same (tok l a).f2 SPAN = true then 3 else if custom (tok l a).f2 = true then 2 else 0) else if (IntV l a).2.2 = 0 then 1 else if (IntV l a).2.2 = 10 then 1 else 0
theorem rkind (hf : Few l) (a : Int) : Ev (fun k => r07_kind.f k l a) (K l a) := by
  have hz := tok_size hf a; simp only [r07_kind.f]; unfold K; refine ev_bindc (rword_f l a) (ev_ite (fun h => ?_) (fun h => ?_))
  · rw [if_pos (show (tok l a).f0 = 1 from h)]
    refine ev_bind (is_ev (tok l a).f2 SPAN (by omega) (by decide)) (ev_ite (fun h2 => ?_) (fun h2 => ?_))
    · rw [if_pos (show same (tok l a).f2 SPAN = true from h2)]
      exact ev_some
    rw [if_neg (show ¬ same (tok l a).f2 SPAN = true from h2)]; refine ev_bind (custom_ev (tok l a).f2 (by omega)) (ev_ite (fun h3 => ?_) (fun h3 => ?_))
    · rw [if_pos h3]
      exact ev_some
    rw [if_neg h3]; exact ev_some
  rw [if_neg (show ¬ (tok l a).f0 = 1 from h)]; refine ev_bind (rInt hf a) (ev_ite (fun h2 => ?_) (fun h2 => ?_))
  · rw [if_pos h2]
    exact ev_some
  rw [if_neg h2]; refine ev_ite (fun h3 => ?_) (fun h3 => ?_)
  · rw [if_pos h3]
    exact ev_some
  rw [if_neg h3]; exact ev_some
theorem IntV_no (h : (tok l a).f0 ≠ 3) : IntV l a = (0, a, 50) := if_neg h
theorem K_in (h : K l a ≠ 0) : 0 ≤ a ∧ a < (l.length : Int) := by
  refine tok_in (fun e => h ?_)
  unfold K; rw [if_neg (by rw [e]; decide), IntV_no (by rw [e]; decide)]; rfl
theorem nil_list : (⟨#[]⟩ : ByteArray).toList = [] := by rw [ByteArray.toList_eq]
theorem nil_custom : custom ⟨#[]⟩ = false := by
  unfold custom isName; rw [if_pos (show (⟨#[]⟩ : ByteArray).toList = [] from nil_list)]; split <;> rfl
theorem custom_ne {s : ByteArray} (h : custom s = true) : ¬ s.toList = ([] : List UInt8) := fun e => by
  unfold custom isName at h; rw [if_pos e] at h; split at h <;> cases h
theorem span_custom {s : ByteArray} (h : same s SPAN = true) : custom s = false := by
  unfold custom; rw [if_pos]; exact List.any_eq_true.2 ⟨SPAN, by simp [kws, SPAN], h⟩
theorem text_tok (l : List Tok) (a : Int) : line_Read.text l a = if (tok l a).f0 = 1 then (tok l a).f2 else ⟨#[]⟩ := by
  unfold line_Read.text tok; by_cases h : 0 ≤ a ∧ a < (l.length : Int)
  · rw [if_pos h, if_pos h]
  rw [if_neg h, if_neg h]; rfl
theorem nil_span : same ⟨#[]⟩ SPAN = false := by decide +kernel
theorem text_size (hf : Few l) (a : Int) : (line_Read.text l a).size ≤ 400 := by
  have hz := tok_size hf a; rw [text_tok]; split
  · exact hz.1
  exact Nat.zero_le _
theorem K_num (l : List Tok) (a : Int) : (decide ((IntV l a).2.2 = 0) || decide ((IntV l a).2.2 = 10)) = decide (K l a = 1) := by
  unfold K; by_cases h : (tok l a).f0 = 1
  · rw [IntV_no (by rw [h]; decide), if_pos h]
    split
    · rfl
    split <;> rfl
  rw [if_neg h]; by_cases h1 : (IntV l a).2.2 = 0
  · rw [if_pos h1, dt_ h1]
    rfl
  rw [if_neg h1, df_ h1]; by_cases h2 : (IntV l a).2.2 = 10
  · rw [if_pos h2, dt_ h2]
    rfl
  rw [if_neg h2, df_ h2]; rfl
theorem K_span (l : List Tok) (a : Int) : same (line_Read.text l a) SPAN = decide (K l a = 3) := by
  rw [text_tok]; unfold K; by_cases h : (tok l a).f0 = 1
  · rw [if_pos h, if_pos h]
    by_cases h1 : same (tok l a).f2 SPAN = true
    · rw [if_pos h1, h1]
      rfl
    rw [if_neg h1, Bool.eq_false_iff.2 h1]; split <;> rfl
  rw [if_neg h, if_neg h, nil_span]; split
  · rfl
  split <;> rfl
theorem K_name (l : List Tok) (a : Int) : custom (line_Read.text l a) = decide (K l a = 2) := by
  rw [text_tok]; unfold K; by_cases h : (tok l a).f0 = 1
  · rw [if_pos h, if_pos h]
    by_cases h1 : same (tok l a).f2 SPAN = true
    · rw [if_pos h1, span_custom h1]
      rfl
    rw [if_neg h1]; by_cases h2 : custom (tok l a).f2 = true
    · rw [if_pos h2, h2]
      rfl
    rw [if_neg h2, Bool.eq_false_iff.2 h2]; rfl
  rw [if_neg h, if_neg h, nil_custom]; split
  · rfl
  split <;> rfl
theorem K2 (h : K l a = 2) : (tok l a).f0 = 1 ∧ custom (tok l a).f2 = true ∧ line_Read.text l a = (tok l a).f2 := by
  have hn := K_name l a; rw [dt_ h, text_tok] at hn; by_cases h1 : (tok l a).f0 = 1
  · rw [if_pos h1] at hn
    exact ⟨h1, hn, by rw [text_tok, if_pos h1]⟩
  rw [if_neg h1, nil_custom] at hn; cases hn
/-! ### The words of a line -/
inductive Sc (l : List Tok) (a : Int) : Int → Int → Int → Int → Int × Int × Int × Int → Prop
  | num {nu na sp k R} (h : K l k = 1) (h0 : nu < 0) (hr : Sc l a k na sp (k + 1) R) : Sc l a nu na sp k R
  | name {nu na sp k R} (h : K l k = 2) (h0 : na < 0) (hr : Sc l a nu k sp (k + 1) R) : Sc l a nu na sp k R
  | span {nu na sp k R} (h : K l k = 3) (h0 : sp < 0) (hk : ¬ k > a) (hr : Sc l a nu na k (k + 1) R) : Sc l a nu na sp k R
  | last {nu na sp k} (h : K l k = 3) (h0 : sp < 0) (hk : k > a) : Sc l a nu na sp k (nu, na, k, k + 1)
  | stop {nu na sp k} (h1 : ¬ (K l k = 1 ∧ nu < 0)) (h2 : ¬ (K l k = 2 ∧ na < 0)) (h3 : ¬ (K l k = 3 ∧ sp < 0)) : Sc l a nu na sp k (nu, na, sp, k)
theorem sc_total (l : List Tok) (a : Int) : ∀ (d : Nat) (nu na sp k : Int), (l.length : Int) - k ≤ d → ∃ R, Sc l a nu na sp k R := by
  intro d; induction d with
  | zero =>
    intro nu na sp k hd; have h0 : K l k = 0 := by
      by_cases h : K l k = 0
      · exact h
      have := K_in h
      omega
    exact ⟨_, Sc.stop (by rw [h0]; omega) (by rw [h0]; omega) (by rw [h0]; omega)⟩
  | succ d ih =>
    intro nu na sp k hd; by_cases h1 : K l k = 1 ∧ nu < 0
    · obtain ⟨R, hR⟩ := ih k na sp (k + 1) (by omega)
      exact ⟨R, Sc.num h1.1 h1.2 hR⟩
    by_cases h2 : K l k = 2 ∧ na < 0
    · obtain ⟨R, hR⟩ := ih nu k sp (k + 1) (by omega)
      exact ⟨R, Sc.name h2.1 h2.2 hR⟩
    by_cases h3 : K l k = 3 ∧ sp < 0
    · by_cases h4 : k > a
      · exact ⟨_, Sc.last h3.1 h3.2 h4⟩
      obtain ⟨R, hR⟩ := ih nu na k (k + 1) (by omega); exact ⟨R, Sc.span h3.1 h3.2 h4 hR⟩
    exact ⟨_, Sc.stop h1 h2 h3⟩
theorem sc_far {nu na sp k : Int} {R : Int × Int × Int × Int} (h : Sc l a nu na sp k R) : R = (nu, na, sp, k) ∨ k < R.2.2.2 := by
  induction h with
  | num h h0 hr ih => rcases ih with rfl | ih
                      · exact Or.inr (by dsimp only; omega)
                      exact Or.inr (by omega)
  | name h h0 hr ih => rcases ih with rfl | ih
                       · exact Or.inr (by dsimp only; omega)
                       exact Or.inr (by omega)
  | span h h0 hk hr ih => rcases ih with rfl | ih
                          · exact Or.inr (by dsimp only; omega)
                          exact Or.inr (by omega)
  | last h h0 hk => exact Or.inr (by dsimp only; omega)
  | stop => exact Or.inl rfl
def NaOk (l : List Tok) (na : Int) : Prop := na < 0 ∨ ((0 ≤ na ∧ na < (l.length : Int)) ∧ custom (tok l na).f2 = true)
theorem sc_na {nu na sp k : Int} {R : Int × Int × Int × Int} (h : Sc l a nu na sp k R) : NaOk l na → NaOk l R.2.1 := by
  induction h with
  | num h h0 hr ih => exact ih
  | name h h0 hr ih => exact fun _ => ih (Or.inr ⟨K_in (by rw [h]; decide), (K2 h).2.1⟩)
  | span h h0 hk hr ih => exact ih
  | last h h0 hk => exact id
  | stop => exact id
def nm (l : List Tok) (na : Int) : ByteArray := if na < 0 then ⟨#[]⟩ else (tok l na).f2
theorem nm_nil {na : Int} (h : NaOk l na) : (nm l na).toList = ([] : List UInt8) ↔ na < 0 := by
  unfold nm; rcases h with h | ⟨h, hc⟩
  · rw [if_pos h]
    exact ⟨fun _ => h, fun _ => nil_list⟩
  rw [if_neg (by omega)]; exact ⟨fun e => absurd e (custom_ne hc), fun e => by omega⟩
theorem num_ev (hf : Few l) (nu k : Int) : Ev (fun n => line_Read.isNum n l nu k) (decide (nu < 0) && decide (K l k = 1)) := by
  simp only [line_Read.isNum, line_Read.num]; refine ev_ite (fun h => ?_) (fun h => ?_)
  · rw [dt_ h, Bool.true_and, ← K_num]
    exact ev_bind (nInt hf k) ev_some
  rw [df_ h, Bool.false_and]; exact ev_some
theorem name_f (hf : Few l) {na : Int} (hn : NaOk l na) (k : Int) : line_Read.isName (nm l na) (line_Read.text l k) = some (decide (na < 0) && decide (K l k = 2)) := by
  unfold line_Read.isName; have ht := text_size hf k; by_cases h : na < 0
  · rw [if_pos ((nm_nil hn).2 h), custom_f _ (by omega), K_name, dt_ h, Bool.true_and]
  rw [if_neg (fun e => h ((nm_nil hn).1 e)), df_ h, Bool.false_and]
theorem span_f (hf : Few l) (k : Int) : ident_Is.f (line_Read.text l k) ⟨#[115, 112, 97, 110]⟩ = some (decide (K l k = 3)) := by
  have ht := text_size hf k; rw [is_f _ _ (by omega) (by decide)]; exact congrArg some (K_span l k)
theorem n_sc (hf : Few l) {nu na sp k : Int} {R : Int × Int × Int × Int} (h : Sc l a nu na sp k R) : NaOk l na → Ev (fun n => line_Read.l0 n l a nu sp k (nm l na)) (R.1, R.2.2.1, R.2.2.2, nm l R.2.1) := by
  have hlen := hf.n; induction h with
  | @num nu na sp k R h h0 hr ih =>
    intro hn; have hk := K_in (l := l) (a := k) (by rw [h]; decide); refine ev_step ?_
    simp only [line_Read.l0]; refine ev_bind (num_ev hf nu k) (ev_pos (by rw [dt_ h0, dt_ h]; rfl) ?_)
    rw [w64 (by omega) (by omega)]; exact ih hn
  | @name nu na sp k R h h0 hr ih =>
    intro hn; have hk := K_in (l := l) (a := k) (by rw [h]; decide); obtain ⟨_, hc, ht⟩ := K2 h; have hm : nm l k = line_Read.text l k := by rw [ht]; exact if_neg (by omega)
    refine ev_step ?_
    simp only [line_Read.l0]; refine ev_bind (num_ev hf nu k) (ev_neg (by rw [h]; simp) (ev_bindc (span_f hf k) (ev_neg (by rw [h]; decide) (ev_bindc (name_f hf hn k) (ev_pos (by rw [dt_ h0, dt_ h]; rfl) ?_)))))
    rw [w64 (by omega) (by omega), ← hm]; exact ih (Or.inr ⟨hk, hc⟩)
  | @span nu na sp k R h h0 hk0 hr ih =>
    intro hn; have hk := K_in (l := l) (a := k) (by rw [h]; decide); refine ev_step ?_
    simp only [line_Read.l0]; refine ev_bind (num_ev hf nu k) (ev_neg (by rw [h]; simp) (ev_bindc (span_f hf k) (ev_pos (by rw [h]; decide) (ev_pos h0 (ev_neg hk0 ?_)))))
    rw [w64 (by omega) (by omega)]; exact ih hn
  | @last nu na sp k h h0 hk0 =>
    intro hn; have hk := K_in (l := l) (a := k) (by rw [h]; decide); refine ev_step ?_
    simp only [line_Read.l0]; refine ev_bind (num_ev hf nu k) (ev_neg (by rw [h]; simp) (ev_bindc (span_f hf k) (ev_pos (by rw [h]; decide) (ev_pos h0 (ev_pos hk0 (ev_eq ?_))))))
    rw [w64 (by omega) (by omega)]
  | @stop nu na sp k h1 h2 h3 =>
    intro hn; refine ev_step ?_
    simp only [line_Read.l0]; have b1 : ¬ (decide (nu < 0) && decide (K l k = 1)) = true := fun e => by
      rw [Bool.and_eq_true, decide_eq_true_eq, decide_eq_true_eq] at e; exact h1 ⟨e.2, e.1⟩
    have b2 : ¬ (decide (na < 0) && decide (K l k = 2)) = true := fun e => by
      rw [Bool.and_eq_true, decide_eq_true_eq, decide_eq_true_eq] at e; exact h2 ⟨e.2, e.1⟩
    refine ev_bind (num_ev hf nu k) (ev_neg b1 (ev_bindc (span_f hf k) (ev_ite (fun e => ?_) (fun e => ?_))))
    · exact ev_neg (fun e2 => h3 ⟨od_ e, e2⟩) (ev_bindc (name_f hf hn k) (ev_neg b2 ev_some))
    exact ev_bindc (name_f hf hn k) (ev_neg b2 ev_some)
/-- What a line's words tell. -/
def FIN (l : List Tok) (a nu na sp k : Int) : Int × Int × ByteArray × Int × Int :=
  if k = a then (0, 0, ⟨#[]⟩, a, 50) else if sp ≥ 0 ∧ nu < 0 ∧ na < 0 then (0, 0, ⟨#[]⟩, k, 50) else
  if nu < 0 then (if sp ≥ 0 then 4 else 3, if sp ≥ 0 then 1 else 0, nm l na, k, 0) else
  if (IntV l nu).2.2 ≠ 0 ∨ (IntV l nu).1 > 10000 ∨ (IntV l nu).1 < -10000 then (0, 0, ⟨#[]⟩, nu, 52) else
    if (IntV l nu).1 = 0 ∨ ((IntV l nu).1 < 0 ∧ sp ≥ 0) then (0, 0, ⟨#[]⟩, nu, 50) else (if sp < 0 then 2 else 4, (IntV l nu).1, nm l na, k, 0)
section
variable {nu na sp : Int}
theorem F1 (h1 : k = a) : FIN l a nu na sp k = (0, 0, ⟨#[]⟩, a, 50) := if_pos h1
theorem F2 (h1 : ¬ k = a) (h2 : sp ≥ 0 ∧ nu < 0 ∧ na < 0) : FIN l a nu na sp k = (0, 0, ⟨#[]⟩, k, 50) := (if_neg h1).trans (if_pos h2)
theorem F3 (h1 : ¬ k = a) (h2 : ¬ (sp ≥ 0 ∧ nu < 0 ∧ na < 0)) (h3 : nu < 0) : FIN l a nu na sp k = (if sp ≥ 0 then 4 else 3, if sp ≥ 0 then 1 else 0, nm l na, k, 0) := (if_neg h1).trans ((if_neg h2).trans (if_pos h3))
theorem F4 (h1 : ¬ k = a) (h3 : ¬ nu < 0) (h4 : (IntV l nu).2.2 ≠ 0 ∨ (IntV l nu).1 > 10000 ∨ (IntV l nu).1 < -10000) : FIN l a nu na sp k = (0, 0, ⟨#[]⟩, nu, 52) := (if_neg h1).trans ((if_neg (fun e => h3 e.2.1)).trans ((if_neg h3).trans (if_pos h4)))
theorem F5 (h1 : ¬ k = a) (h3 : ¬ nu < 0) (h4 : ¬ ((IntV l nu).2.2 ≠ 0 ∨ (IntV l nu).1 > 10000 ∨ (IntV l nu).1 < -10000)) (h5 : (IntV l nu).1 = 0 ∨ ((IntV l nu).1 < 0 ∧ sp ≥ 0)) : FIN l a nu na sp k = (0, 0, ⟨#[]⟩, nu, 50) := (if_neg h1).trans ((if_neg (fun e => h3 e.2.1)).trans ((if_neg h3).trans ((if_neg h4).trans (if_pos h5))))
theorem F6 (h1 : ¬ k = a) (h3 : ¬ nu < 0) (h4 : ¬ ((IntV l nu).2.2 ≠ 0 ∨ (IntV l nu).1 > 10000 ∨ (IntV l nu).1 < -10000)) (h5 : ¬ ((IntV l nu).1 = 0 ∨ ((IntV l nu).1 < 0 ∧ sp ≥ 0))) : FIN l a nu na sp k = (if sp < 0 then 2 else 4, (IntV l nu).1, nm l na, k, 0) := (if_neg h1).trans ((if_neg (fun e => h3 e.2.1)).trans ((if_neg h3).trans ((if_neg h4).trans (if_neg h5))))
end
theorem n_fin (hf : Few l) {nu na sp k : Int} (hn : NaOk l na) (hk : k = a → na < 0) : Ev (fun n => line_Read.fin n l a nu sp k (nm l na)) (FIN l a nu na sp k) := by
  simp only [line_Read.fin]; have en : na < 0 → nm l na = ⟨#[]⟩ := fun h => if_pos h
  refine ev_ite (fun h1 => ?_) (fun h1 => ev_ite (fun h2 => ?_) (fun h2 => ev_ite (fun h3 => ?_) (fun h3 => ev_bind (nInt hf nu) (ev_ite (fun h4 => ?_) (fun h4 => ev_ite (fun h5 => ?_) (fun h5 => ?_))))))
  · rw [F1 h1, en (hk h1)]
    exact ev_some
  · rw [F2 h1 ⟨h2.1, h2.2.1, (nm_nil hn).1 h2.2.2⟩, en ((nm_nil hn).1 h2.2.2)]
    exact ev_some
  · rw [F3 h1 (fun e => h2 ⟨e.1, e.2.1, (nm_nil hn).2 e.2.2⟩) h3]
    exact ev_some
  · rw [F4 h1 h3 h4]
    exact ev_some
  · rw [F5 h1 h3 h4 h5]
    exact ev_some
  rw [F6 h1 h3 h4 h5]; exact ev_some
theorem r_j7 {nu na sp k : Int} {R : Int × Int × ByteArray × Int × Int} (v0 v1 : Int) (s : ByteArray) (h1 : ¬ sp ≥ 0 → R = (v0, v1, s, k, 0)) (h2 : sp ≥ 0 → nu < 0 → na < 0 → R = (0, 0, ⟨#[]⟩, k, 50)) (h3 : sp ≥ 0 → nu < 0 → ¬ na < 0 → R = (4, 1, s, k, 0)) (h4 : sp ≥ 0 → ¬ nu < 0 → R = (4, v1, s, k, 0)) :
    Ev (fun n => r07_Read.j7 n nu na sp k 0 0 ⟨#[]⟩ v0 v1 s) R := by
  refine ev_step ?_
  simp only [r07_Read.j7]; refine ev_ite (fun a1 => ev_ite (fun a2 => ev_step ?_) (fun a2 => ev_step ?_)) (fun a1 => by rw [h1 a1]; exact ev_some)
  · simp only [r07_Read.j8]
    refine ev_ite (fun a3 => ?_) (fun a3 => ev_pos a2 ?_)
    · rw [h2 a1 a2 (od_ a3)]
      exact ev_some
    rw [h3 a1 a2 (fun e => a3 (dt_ e))]; exact ev_some
  simp only [r07_Read.j8]; refine ev_neg (by decide) (ev_neg a2 ?_)
  rw [h4 a1 a2]; exact ev_some
theorem r_j5 (hf : Few l) {nu na sp k : Int} (hk : ¬ k = a) : Ev (fun n => r07_Read.j5 n l nu na sp k 0 0 ⟨#[]⟩ 3 0 (nm l na)) (FIN l a nu na sp k) := by
  refine ev_step ?_
  simp only [r07_Read.j5]; have bad : ∀ v, (IntV l nu).2.2 ≠ 0 ∨ (IntV l nu).1 > 10000 ∨ (IntV l nu).1 < -10000 → nu ≥ 0 → Ev (fun n => r07_Read.j6 n nu na sp k v true 0 0 ⟨#[]⟩ 3 0 (nm l na)) (FIN l a nu na sp k) := fun v hb hnu => by
    rw [F4 hk (by omega) hb]; refine ev_step ?_
    simp only [r07_Read.j6]; exact ev_pos (by trivial) ev_some
  refine ev_ite (fun h1 => ev_bind (rInt hf nu) (ev_ite (fun h2 => ev_ite (fun h3 => bad _ (Or.inr (Or.inl h3)) h1) (fun h3 => ?_)) (fun h2 => bad _ (Or.inl h2) h1))) (fun h1 => ?_)
  · by_cases h4 : (IntV l nu).1 < -10000
    · rw [dt_ h4]
      exact bad _ (Or.inr (Or.inr h4)) h1
    rw [df_ h4]; have g3 : ¬ nu < 0 := by omega
    have g4 : ¬ ((IntV l nu).2.2 ≠ 0 ∨ (IntV l nu).1 > 10000 ∨ (IntV l nu).1 < -10000) := by
      rintro (e | e | e)
      · exact e h2
      · exact h3 e
      exact h4 e
    refine ev_step ?_
    simp only [r07_Read.j6]; refine ev_neg (by decide) (ev_ite (fun h5 => ?_) (fun h5 => ?_))
    · rw [F5 hk g3 g4 (Or.inl h5)]
      exact ev_some
    have j7 : ¬ ((IntV l nu).1 = 0 ∨ ((IntV l nu).1 < 0 ∧ sp ≥ 0)) → Ev (fun n => r07_Read.j7 n nu na sp k 0 0 ⟨#[]⟩ 2 (IntV l nu).1 (nm l na)) (FIN l a nu na sp k) := fun hh => by
      rw [F6 hk g3 g4 hh]; exact r_j7 _ _ _ (fun e => by rw [if_pos (show sp < 0 by omega)]) (fun e1 e2 => absurd e2 g3) (fun e1 e2 => absurd e2 g3) (fun e1 e2 => by rw [if_neg (show ¬ sp < 0 by omega)])
    refine ev_ite (fun h6 => ev_ite (fun h7 => ?_) (fun h7 => j7 (fun e => e.elim h5 (fun e => h7 e.2)))) (fun h6 => j7 (fun e => e.elim h5 (fun e => h6 e.1)))
    rw [F5 hk g3 g4 (Or.inr ⟨h6, h7⟩)]; exact ev_some
  have g3 : nu < 0 := by omega
  refine r_j7 _ _ _ (fun e => ?_) (fun e1 e2 e3 => F2 hk ⟨e1, e2, e3⟩) (fun e1 e2 e3 => ?_) (fun e1 e2 => absurd g3 e2)
  · rw [F3 hk (fun e4 => e e4.1) g3, if_neg e, if_neg e]
  rw [F3 hk (fun e4 => e3 e4.2.2) g3, if_pos e1, if_pos e1]
theorem r_j4 (hf : Few l) {nu na sp k : Int} (hn : NaOk l na) : Ev (fun n => r07_Read.j4 n l a nu na sp k 0 0 ⟨#[]⟩) (FIN l a nu na sp k) := by
  refine ev_step ?_
  simp only [r07_Read.j4]; refine ev_ite (fun h1 => ?_) (fun h1 => ?_)
  · rw [F1 h1]
    exact ev_some
  have h5 := r_j5 (a := a) hf (nu := nu) (na := na) (sp := sp) h1; refine ev_ite (fun h2 => ?_) (fun h2 => ?_)
  · rcases hn with hn | ⟨hn, hc⟩
    · omega
    refine ev_pos hn.1 (ev_pos hn.2 ?_)
    rw [show nm l na = (rd_T43 l na).f2 from (if_neg (by omega)).trans (by unfold tok; rw [if_pos hn])] at h5; exact h5
  rw [show nm l na = ⟨#[]⟩ from if_pos (by omega)] at h5; exact h5
theorem r_sc (hf : Few l) {nu na sp k : Int} {R : Int × Int × Int × Int} (h : Sc l a nu na sp k R) : NaOk l na → Ev (fun n => r07_Read.l0 n l a nu na sp k 0 0 ⟨#[]⟩) (FIN l a R.1 R.2.1 R.2.2.1 R.2.2.2) := by
  have hlen := hf.n; induction h with
  | @num nu na sp k R h h0 hr ih =>
    intro hn; have hk := K_in (l := l) (a := k) (by rw [h]; decide); refine ev_step ?_
    simp only [r07_Read.l0]; refine ev_bind (rkind hf k) (ev_pos h (ev_step ?_))
    simp only [r07_Read.j1]; refine ev_pos (dt_ h0) (ev_neg (by omega) ?_)
    rw [w64 (by omega) (by omega)]; exact ih hn
  | @name nu na sp k R h h0 hr ih =>
    intro hn; have hk := K_in (l := l) (a := k) (by rw [h]; decide); refine ev_step ?_
    simp only [r07_Read.l0]; refine ev_bind (rkind hf k) (ev_neg (by omega) (ev_step ?_))
    simp only [r07_Read.j1]; refine ev_neg (by decide) (ev_pos h (ev_step ?_))
    simp only [r07_Read.j2]; refine ev_pos (dt_ h0) (ev_neg (by omega) ?_)
    rw [w64 (by omega) (by omega)]; exact ih (Or.inr ⟨hk, (K2 h).2.1⟩)
  | @span nu na sp k R h h0 hk0 hr ih =>
    intro hn; have hk := K_in (l := l) (a := k) (by rw [h]; decide); refine ev_step ?_
    simp only [r07_Read.l0]; refine ev_bind (rkind hf k) (ev_neg (by omega) (ev_step ?_))
    simp only [r07_Read.j1]; refine ev_neg (by decide) (ev_neg (by omega) (ev_step ?_))
    simp only [r07_Read.j2]; refine ev_neg (by decide) (ev_pos h (ev_step ?_))
    simp only [r07_Read.j3]; refine ev_pos (dt_ h0) (ev_pos h (ev_neg hk0 ?_))
    rw [w64 (by omega) (by omega)]; exact ih hn
  | @last nu na sp k h h0 hk0 =>
    intro hn; have hk := K_in (l := l) (a := k) (by rw [h]; decide); refine ev_step ?_
    simp only [r07_Read.l0]; refine ev_bind (rkind hf k) (ev_neg (by omega) (ev_step ?_))
    simp only [r07_Read.j1]; refine ev_neg (by decide) (ev_neg (by omega) (ev_step ?_))
    simp only [r07_Read.j2]; refine ev_neg (by decide) (ev_pos h (ev_step ?_))
    simp only [r07_Read.j3]; refine ev_pos (dt_ h0) (ev_pos h (ev_pos hk0 ?_))
    rw [w64 (by omega) (by omega)]; exact r_j4 hf hn
  | @stop nu na sp k h1 h2 h3 =>
    intro hn; have g4 : ∀ x : Int, Ev (fun n => r07_Read.j3 n l a nu na sp k x false 0 0 ⟨#[]⟩) (FIN l a nu na sp k) := fun x => ev_step (by
      simp only [r07_Read.j3]; exact ev_neg (by decide) (r_j4 hf hn))
    have g3 : Ev (fun n => r07_Read.j2 n l a nu na sp k (K l k) false 0 0 ⟨#[]⟩) (FIN l a nu na sp k) := ev_step (by
      simp only [r07_Read.j2]; refine ev_neg (by decide) (ev_ite (fun e => ?_) (fun e => g4 _))
      rw [df_ (fun e2 => h3 ⟨e, e2⟩)]; exact g4 _)
    have g2 : Ev (fun n => r07_Read.j1 n l a nu na sp k (K l k) false 0 0 ⟨#[]⟩) (FIN l a nu na sp k) := ev_step (by
      simp only [r07_Read.j1]; refine ev_neg (by decide) (ev_ite (fun e => ?_) (fun e => g3))
      rw [df_ (fun e2 => h2 ⟨e, e2⟩)]; exact g3)
    refine ev_step ?_
    simp only [r07_Read.l0]; refine ev_bind (rkind hf k) (ev_ite (fun e => ?_) (fun e => g2))
    rw [df_ (fun e2 => h1 ⟨e, e2⟩)]; exact g2
/-! ### A line -/
def AUTO : ByteArray := ⟨#[97, 117, 116, 111]⟩
def others : List ByteArray := [⟨#[105, 110, 104, 101, 114, 105, 116]⟩, ⟨#[105, 110, 105, 116, 105, 97, 108]⟩, ⟨#[117, 110, 115, 101, 116]⟩, ⟨#[114, 101, 118, 101, 114, 116]⟩]
theorem kwR_pos (p : ByteArray → Bool) (a : Int) : ∀ (xs : List ByteArray) (j : Int), 0 < j → xs.any p = true → (kwR p a xs j).1 > 0
  | [], _, _, h => by cases h
  | x :: r, j, hj, h => by
    unfold kwR; by_cases hx : p x = true
    · rw [if_pos hx]
      exact hj
    rw [if_neg hx]; rw [List.any_cons, Bool.eq_false_iff.2 hx, Bool.false_or] at h; exact kwR_pos p a r (j + 1) (by omega) h
theorem kwR_nn (p : ByteArray → Bool) (a : Int) : ∀ (xs : List ByteArray) (j : Int), 0 ≤ j → xs.any p = true → (kwR p a xs j).1 ≥ 0
  | [], _, _, h => by cases h
  | x :: r, j, hj, h => by
    unfold kwR; by_cases hx : p x = true
    · rw [if_pos hx]
      exact hj
    rw [if_neg hx]; rw [List.any_cons, Bool.eq_false_iff.2 hx, Bool.false_or] at h; exact kwR_nn p a r (j + 1) (by omega) h
theorem kwR_none (p : ByteArray → Bool) (a : Int) : ∀ (xs : List ByteArray) (j : Int), xs.any p = false → kwR p a xs j = (-1, a)
  | [], _, _ => rfl
  | x :: r, j, h => by
    unfold kwR; rw [List.any_cons, Bool.or_eq_false_iff] at h; rw [h.1, if_neg (by decide)]; exact kwR_none p a r (j + 1) h.2
theorem reads (hf : Few l) (a : Int) : ∃ R, Ev (fun k => line_Read.f k l a) R ∧ Ev (fun k => r07_Read.f k l a) R := by
  have n5 := kw_ev hf a line_Read.keys (by decide) (by decide); have r1 := rkw_ev hf a [AUTO] (by decide) (by decide); have r4 := rkw_ev hf a others (by decide) (by decide); have e5 : kwR (isKw (tok l a)) a line_Read.keys 0 = if isKw (tok l a) AUTO = true then (0, a + 1) else kwR (isKw (tok l a)) a others (0 + 1) := rfl
  have e1 : kwR (isKw (tok l a)) a [AUTO] 0 = if isKw (tok l a) AUTO = true then (0, a + 1) else (-1, a) := rfl
  simp only [line_Read.f, r07_Read.f]; by_cases h1 : isKw (tok l a) AUTO = true
  · rw [if_pos h1] at e5 e1
    rw [e5] at n5; rw [e1] at r1; refine ⟨(1, 0, ⟨#[]⟩, a + 1, 0), ev_bind n5 (ev_pos rfl (ev_bindc rfl (ev_eq rfl))), ev_bind r1 (ev_pos (by show a + 1 > a; omega) (ev_eq rfl))⟩
  rw [if_neg h1] at e5 e1; rw [e5] at n5; rw [e1] at r1; by_cases h2 : others.any (isKw (tok l a)) = true
  · have p1 := kwR_pos (isKw (tok l a)) a others (0 + 1) (by decide) h2
    have p2 := kwR_nn (isKw (tok l a)) a others 0 (by decide) h2; exact ⟨(0, 0, ⟨#[]⟩, a, 51), ev_bind n5 (ev_neg (by omega) (ev_pos p1 ev_some)), ev_bind r1 (ev_neg (by show ¬ a > a; omega) (ev_bind r4 (ev_pos p2 ev_some)))⟩
  have h2 := Bool.eq_false_iff.2 h2; rw [kwR_none _ _ _ _ h2] at n5 r4; obtain ⟨R, hR⟩ := sc_total l a ((l.length : Int) - a).toNat (-1) (-1) (-1) a (by omega); have hn : NaOk l (-1) := Or.inl (by decide); have hN := sc_na hR hn; have hk : R.2.2.2 = a → R.2.1 < 0 := fun e => by
    rcases sc_far hR with rfl | h
    · show (-1 : Int) < 0
      decide
    omega
  exact ⟨_, ev_bind n5 (ev_neg (show ¬ (-1 : Int) = 0 by decide) (ev_neg (show ¬ (-1 : Int) > 0 by decide) (ev_bind (n_sc hf hR hn) (n_fin hf hN hk)))), ev_bind r1 (ev_neg (by show ¬ a > a; omega) (ev_bind r4 (ev_neg (show ¬ (-1 : Int) ≥ 0 by decide) (r_sc hf hR hn))))⟩
end
end Go.Proofs.Ytofdhdafabmhmaa.PureLq
end
section
/- LineReads, as a statement on words. Conditions: none beyond the arguments' own kinds. -/
namespace Go.Proofs.Ytofdhdafabmhmaa.Pure
open Go.RowKit Go.Proofs.YtofdhdafabmhmaaW.PrintWords Go.Proofs.YtofdhdafabmhmaaW.PrintMore Go.Proofs.Ytofdhdafabmhmaa.Evs Go.Proofs.Ytofdhdafabmhmaa.Opn Go.Proofs.Ytofdhdafabmhmaa.PLr Go.Proofs.Ytofdhdafabmhmaa.Giv Go.Proofs.Ytofdhdafabmhmaa.PureLq
theorem line_lives : Ev (fun k => parterrelaw07_lives.f k) true := Ev.of (fun k => parterrelaw07_lives.mono k) (k := 100) (by decide +kernel)
abbrev Lne := S26
def other (v : Lne) : Lne := if v.f0 = 3 then v else ⟨1, 0, ⟨#[]⟩⟩
theorem lother (v : Lne) : line_other.f v.f0 v.f1 v.f2 = some ((other v).f0, (other v).f1, (other v).f2) := by
  unfold line_other.f line_auto.f other; by_cases h : v.f0 = 3
  · rw [if_pos h, if_pos h]
  rw [if_neg h, if_neg h]; rfl
theorem rother (v : Lne) : r07_Other.f v.f0 v.f1 v.f2 = some ((other v).f0, (other v).f1, (other v).f2) := by
  unfold r07_Other.f other; by_cases h : v.f0 = 3
  · rw [if_pos h, if_pos h]
  rw [if_neg h, if_neg h]
section
variable {l : List Tok}
def isSign (l : List Tok) (a : Int) : Bool := decide ((tok l a).f0 = 7) && ((tok l a).f2.toList == (⟨#[47]⟩ : ByteArray).toList)
theorem nsign (l : List Tok) (a : Int) : value_Sign.f l a ⟨#[47]⟩ = some (isSign l a) := by
  unfold value_Sign.f isSign; rw [word_f, Option.bind_some]; dsimp only; by_cases h : (tok l a).f0 = 7
  · rw [if_pos h, dt_ h, Bool.true_and]
  rw [if_neg h, df_ h, Bool.false_and]
theorem rsign (l : List Tok) (a : Int) : r05_Sign.f l a ⟨#[47]⟩ = some (isSign l a) := by
  unfold r05_Sign.f isSign; rw [rword_f, Option.bind_some]; dsimp only; by_cases h : (tok l a).f0 = 7
  · rw [if_pos h, dt_ h, Bool.true_and]
  rw [if_neg h, df_ h, Bool.false_and]
abbrev Rs := List Lne × Int × Int
def Good (most : Int) (R : Rs) : Prop := R.2.2 = 0 → 1 ≤ R.1.length ∧ (R.1.length : Int) ≤ most
theorem lines_from (hf : Few l) (most : Int) (hm : most ≤ 100) : ∀ (d : Nat) (y : List Lne) (nx : Int), 1 ≤ y.length → (y.length : Int) ≤ most → most - y.length = d →
    ∃ R : Rs, Good most R ∧ Ev (fun k => r07_Lines.l0 k l most nx y) R ∧
      Ev (fun k => if (y.length : Int) = most then some (y, nx, (0 : Int)) else (value_Sign.f l nx ⟨#[47]⟩).bind fun t => if t = true then line_lines.l0 k l most y (wrap64 (nx + 1)) else some (y, nx, (0 : Int))) R := by
  intro d; induction d with
  | zero =>
    intro y nx h1 h2 hd; refine ⟨(y, nx, 0), fun _ => ⟨h1, h2⟩, ev_step ?_, ev_pos (by omega) ev_some⟩
    simp only [r07_Lines.l0]; refine ev_neg (by omega) (ev_step ?_)
    simp only [r07_Lines.j1]; exact ev_neg (by decide) ev_some
  | succ d ih =>
    intro y nx h1 h2 hd; by_cases hs : isSign l nx = true
    · obtain ⟨⟨v0, v1, nm, n, e⟩, hn, hr⟩ := reads hf (wrap64 (nx + 1))
      by_cases he : e = 0
      · obtain ⟨R, hG, hR1, hR2⟩ := ih (y ++ [⟨v0, v1, nm⟩]) n (by rw [List.length_append]; omega) (by rw [List.length_append, List.length_singleton]; omega) (by rw [List.length_append, List.length_singleton]; omega)
        refine ⟨R, hG, ev_step ?_, ev_neg (by omega) (ev_bindc (nsign l nx) (ev_pos hs (ev_step ?_)))⟩
        · simp only [r07_Lines.l0]
          refine ev_pos (by omega) (ev_bindc (rsign l nx) (ev_step ?_))
          simp only [r07_Lines.j1]; exact ev_pos hs (ev_bind hr (ev_pos he (ev_pos (by omega) hR1)))
        simp only [line_lines.l0]; exact ev_bind hn (ev_pos he (ev_pos (by omega) (ev_let hR2)))
      refine ⟨([], n, e), fun h => absurd h he, ev_step ?_, ev_neg (by omega) (ev_bindc (nsign l nx) (ev_pos hs (ev_step ?_)))⟩
      · simp only [r07_Lines.l0]
        refine ev_pos (by omega) (ev_bindc (rsign l nx) (ev_step ?_))
        simp only [r07_Lines.j1]; exact ev_pos hs (ev_bind hr (ev_neg he ev_some))
      simp only [line_lines.l0]; exact ev_bind hn (ev_neg he ev_some)
    refine ⟨(y, nx, 0), fun _ => ⟨h1, h2⟩, ev_step ?_, ev_neg (by omega) (ev_bindc (nsign l nx) (ev_neg hs ev_some))⟩
    simp only [r07_Lines.l0]; refine ev_pos (by omega) (ev_bindc (rsign l nx) (ev_step ?_))
    simp only [r07_Lines.j1]; exact ev_neg hs ev_some
theorem lines (hf : Few l) (a most : Int) (hm : 1 ≤ most ∧ most ≤ 100) : ∃ R : Rs, Good most R ∧ Ev (fun k => line_lines.f k l a most) R ∧ Ev (fun k => r07_Lines.f k l a most) R := by
  obtain ⟨⟨v0, v1, nm, n, e⟩, hn, hr⟩ := reads hf a; simp only [line_lines.f, r07_Lines.f]; by_cases he : e = 0
  · obtain ⟨R, hG, hR1, hR2⟩ := lines_from hf most hm.2 (most - 1).toNat [⟨v0, v1, nm⟩] n (by simp) (by simp; omega) (by simp; omega)
    refine ⟨R, hG, ev_step ?_, ev_bind hr (ev_pos he hR1)⟩
    simp only [line_lines.l0]; exact ev_bind hn (ev_pos he (ev_pos (by simp) (ev_let hR2)))
  refine ⟨([], n, e), fun h => absurd h he, ev_step ?_, ev_bind hr (ev_neg he ev_some)⟩
  simp only [line_lines.l0]; exact ev_bind hn (ev_neg he ev_some)
theorem pairs (hf : Few l) (a : Int) : ∃ P, Ev (fun k => line_Pair.f k l a) P ∧ Ev (fun k => r07_Pair.f k l a) P := by
  obtain ⟨⟨y, n, e⟩, hG, h1, h2⟩ := lines hf a 2 (by decide); simp only [line_Pair.f, r07_Pair.f]; by_cases he : e = 0
  · obtain ⟨g1, g2⟩ := hG he
    have g2 : (y.length : Int) ≤ 2 := g2; match y, g1, g2, h1, h2 with
    | [v], _, _, h1, h2 =>
      have hm : line_Pair.more [v] = some [v, other v] := by
        unfold line_Pair.more; rw [if_pos (show ([v] : List Lne).length = 1 from rfl)]; show (line_other.f v.f0 v.f1 v.f2).bind _ = _
        rw [lother]; rfl
      exact ⟨(v.f0, v.f1, v.f2, (other v).f0, (other v).f1, (other v).f2, n, 0), ev_bind h1 (ev_pos he (ev_bindc hm (ev_pos rfl (ev_eq rfl)))), ev_bind h2 (ev_pos he (ev_pos (by simp) (ev_pos (by simp) (ev_bindc (rother v) (ev_eq rfl)))))⟩
    | [v, u], _, _, h1, h2 =>
      exact ⟨(v.f0, v.f1, v.f2, u.f0, u.f1, u.f2, n, 0), ev_bind h1 (ev_pos he (ev_bindc (show line_Pair.more [v, u] = some [v, u] from if_neg (by simp)) (ev_pos rfl (ev_eq rfl)))), ev_bind h2 (ev_pos he (ev_neg (by simp) (ev_pos (by simp) (ev_pos (by simp) (ev_eq rfl)))))⟩
    | v :: u :: x :: r, _, g2, _, _ => simp at g2; omega
  exact ⟨(0, 0, ⟨#[]⟩, 0, 0, ⟨#[]⟩, n, e), ev_bind h1 (ev_neg he ev_some), ev_bind h2 (ev_neg he ev_some)⟩
/-- Four lines out of as many as there are. -/
def four : List Lne → List Lne
  | [v] => [v, other v, other v, other (other v)]
  | [v, u] => [v, u, other v, other u]
  | [v, u, x] => [v, u, x, other u]
  | y => y
theorem nfour_step {y r : List Lne} (v : Lne) (h4 : (y.length : Int) < 4) (hv : rd_T26 y (if y.length = 3 then 1 else 0) = v) (h : Ev (fun k => line_Four.l0 k (y ++ [other v])) r) : Ev (fun k => line_Four.l0 k y) r := by
  refine ev_step ?_
  simp only [line_Four.l0]; refine ev_pos h4 (ev_bindc (by rw [hv]; exact lother v) h)
theorem nfour_end {a b c d : Lne} : Ev (fun k => line_Four.l0 k [a, b, c, d]) [a, b, c, d] := by
  refine ev_step ?_
  simp only [line_Four.l0]; exact ev_neg (by simp) ev_some
theorem nfour (y : List Lne) (h1 : 1 ≤ y.length) (h4 : (y.length : Int) ≤ 4) : Ev (fun k => line_Four.l0 k y) (four y) ∧ (four y).length = 4 := by
  match y, h1, h4 with
  | [v], _, _ => exact ⟨nfour_step v (by simp) rfl (nfour_step v (by simp) rfl (nfour_step (other v) (by simp) rfl nfour_end)), rfl⟩
  | [v, u], _, _ => exact ⟨nfour_step v (by simp) rfl (nfour_step u (by simp) rfl nfour_end), rfl⟩
  | [v, u, x], _, _ => exact ⟨nfour_step u (by simp) rfl nfour_end, rfl⟩
  | [v, u, x, z], _, _ => exact ⟨nfour_end, rfl⟩
  | v :: u :: x :: z :: w :: r, _, h4 => simp at h4; omega
theorem rstep_hit {n : Nat} {i : Int} {y : List Lne} (v : Lne) (h : y.length = n) (hv : rd_T26 y i = v) : r07_Four.step n i y = some (y ++ [other v]) := by
  unfold r07_Four.step; rw [if_pos h, hv, rother]; rfl
theorem rstep_no {n : Nat} {i : Int} {y : List Lne} (h : ¬ y.length = n) : r07_Four.step n i y = some y := if_neg h
theorem fours (hf : Few l) (a : Int) : ∃ P, Ev (fun k => line_Four.f k l a) P ∧ Ev (fun k => r07_Four.f k l a) P := by
  obtain ⟨⟨y, n, e⟩, hG, h1, h2⟩ := lines hf a 4 (by decide); simp only [line_Four.f, r07_Four.f]; by_cases he : e = 0
  · obtain ⟨g1, g2⟩ := hG he
    have g2 : (y.length : Int) ≤ 4 := g2; obtain ⟨f1, f2⟩ := nfour y g1 g2; have hz : 0 < y.length ∧ y.length ≤ 4 := ⟨g1, by omega⟩
    refine ⟨_, ev_bind h1 (ev_pos he (ev_pos g1 (ev_bind f1 (ev_pos f2 ev_some)))), ev_bind h2 (ev_pos he (ev_pos hz ?_))⟩
    match y, g1, g2, f2 with
    | [v], _, _, _ => exact ev_bindc (rstep_hit v rfl rfl) (ev_bindc (rstep_hit v rfl rfl) (ev_bindc (rstep_hit (other v) rfl rfl) (ev_pos rfl (ev_eq rfl))))
    | [v, u], _, _, _ => exact ev_bindc (rstep_no (by simp)) (ev_bindc (rstep_hit v rfl rfl) (ev_bindc (rstep_hit u rfl rfl) (ev_pos rfl (ev_eq rfl))))
    | [v, u, x], _, _, _ => exact ev_bindc (rstep_no (by simp)) (ev_bindc (rstep_no (by simp)) (ev_bindc (rstep_hit u rfl rfl) (ev_pos rfl (ev_eq rfl))))
    | [v, u, x, z], _, _, _ => exact ev_bindc (rstep_no (by simp)) (ev_bindc (rstep_no (by simp)) (ev_bindc (rstep_no (by simp)) (ev_pos rfl (ev_eq rfl))))
    | v :: u :: x :: z :: w :: r, _, g2, _ => simp at g2; omega
  exact ⟨_, ev_bind h1 (ev_neg he ev_some), ev_bind h2 (ev_neg he ev_some)⟩
theorem few_loop (l : List Tok) (hl : l.length ≤ 500) : ∀ d j : Nat, l.length - j = d → j ≤ l.length → (∀ i, (h : i < l.length) → i < j → l[i].f2.size ≤ 400 ∧ l[i].f3.size ≤ 400) →
    (Ev (fun k => parterrelaw07_few.l0 k l (l.length : Int) (j : Int)) true ∧ Few l) ∨ Ev (fun k => parterrelaw07_few.l0 k l (l.length : Int) (j : Int)) false := by
  intro d; induction d with
  | zero =>
    intro j hd hj hall; refine Or.inl ⟨ev_step ?_, hl, fun t ht => ?_⟩
    · simp only [parterrelaw07_few.l0]
      exact ev_neg (by omega) ev_some
    obtain ⟨i, hi, rfl⟩ := List.getElem_of_mem ht; exact hall i hi (by omega)
  | succ d ih =>
    intro j hd hj hall; have hlt : j < l.length := by omega
    have hr : rd_T43 l (j : Int) = l[j] := by
      unfold rd_T43; rw [Int.toNat_natCast, List.getD_eq_getElem?_getD, List.getElem?_eq_getElem hlt]; rfl
    by_cases h3 : (l[j].f3.size : Int) > 400
    · refine Or.inr (ev_step ?_)
      simp only [parterrelaw07_few.l0, hr]; exact ev_pos (by omega) (ev_pos (by omega) (ev_pos (by omega) (ev_pos h3 ev_some)))
    by_cases h2 : (l[j].f2.size : Int) > 400
    · refine Or.inr (ev_step ?_)
      simp only [parterrelaw07_few.l0, hr]; exact ev_pos (by omega) (ev_pos (by omega) (ev_pos (by omega) (ev_neg h3 (ev_pos h2 ev_some))))
    have go : ∀ {b : Bool}, Ev (fun k => parterrelaw07_few.l0 k l (l.length : Int) ((j + 1 : Nat) : Int)) b → Ev (fun k => parterrelaw07_few.l0 k l (l.length : Int) (j : Int)) b := fun h => ev_step (by
      simp only [parterrelaw07_few.l0, hr]; refine ev_pos (by omega) (ev_pos (by omega) (ev_pos (by omega) (ev_neg h3 (ev_neg h2 ?_))))
      rw [w64 (by omega) (by omega)]; exact h)
    rcases ih (j + 1) (by omega) (by omega) (fun i hi hij => by
      by_cases e : i < j
      · exact hall i hi e
      obtain rfl : i = j := by omega
      exact ⟨by omega, by omega⟩) with ⟨h, hf⟩ | h
    · exact Or.inl ⟨go h, hf⟩
    exact Or.inr (go h)
theorem few (l : List Tok) : (Ev (fun k => parterrelaw07_few.f k l) true ∧ Few l) ∨ Ev (fun k => parterrelaw07_few.f k l) false := by
  simp only [parterrelaw07_few.f]; by_cases h : (l.length : Int) > 500
  · exact Or.inr (ev_pos h ev_some)
  rcases few_loop l (by omega) _ 0 rfl (Nat.zero_le _) (fun i _ hi => absurd hi (Nat.not_lt_zero _)) with ⟨h1, h2⟩ | h1
  · exact Or.inl ⟨ev_neg h h1, h2⟩
  exact Or.inr (ev_neg h h1)
end
theorem no_diff (x y : Int) (s : ByteArray) : ¬ (!(x == x) || (!(y == y) || (!(s.toList == s.toList)))) = true := by simp
theorem all_same (a b c d e f g h : Int) (s t u v : ByteArray) : ((a == a && (b == b && (s.toList == s.toList))) && ((c == c && (d == d && (t.toList == t.toList))) && ((e == e && (f == f && (u.toList == u.toList))) && (g == g && (h == h && (v.toList == v.toList)))))) = true := by simp
theorem LineReads : parterrelaw07_LineReads.Pure := by
  intro l a h1 h2; refine Ev.rounds ?_
  simp only [parterrelaw07_LineReads.f]; rcases few l with ⟨hF, hf⟩ | hF
  · obtain ⟨R, hR1, hR2⟩ := reads hf a
    obtain ⟨P, hP1, hP2⟩ := pairs hf a; obtain ⟨Q, hQ1, hQ2⟩ := fours hf a; refine ev_bind hF (ev_pos rfl (ev_bind hR1 (ev_bind hR2 (ev_neg (no_diff _ _ _) (ev_pos rfl ?_)))))
    rw [show (R.2.2.2.2 != R.2.2.2.2) = false by simp]; refine ev_step ?_
    simp only [parterrelaw07_LineReads.j0]; refine ev_neg (by decide) (ev_bind hP1 (ev_bind hP2 (ev_neg (no_diff _ _ _) (ev_neg (no_diff _ _ _) (ev_pos rfl ?_)))))
    rw [show (P.2.2.2.2.2.2.2 != P.2.2.2.2.2.2.2) = false by simp]; refine ev_step ?_
    simp only [parterrelaw07_LineReads.j1]; exact ev_neg (by decide) (ev_bind hQ1 (ev_bind hQ2 (ev_pos (all_same _ _ _ _ _ _ _ _ _ _ _ _) (ev_pos rfl (ev_pos rfl (ev_bind line_lives ev_some))))))
  exact ev_bind hF (ev_neg (by decide) (ev_bind line_lives ev_some))
end Go.Proofs.Ytofdhdafabmhmaa.Pure
end
