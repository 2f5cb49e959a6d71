/- Numbers as text (layer 2): what a number's text has, by the plain programs and by the document. Conditions: as each statement says. -/
import Derived.Test.YtfccpnpocfjbcaaDoorPNtx1
import Derived.Test.YtfccpnpocfjbcaaDoorPNtx2
import Derived.Test.YtfccpnpocfjbcaaDoorPNtx3
import Derived.Test.YtfccpnpocfjbcaaDoorEv
set_option linter.unusedVariables false
set_option linter.unusedSimpArgs false
namespace Go.Proofs.YtfccpnpocfjbcaaDoor.PureTu
open Go.RowKit Go.Proofs.YtfccpnpocfjbcaaDoorW.PrintWords Go.Proofs.YtfccpnpocfjbcaaDoorW.PrintMore Go.Proofs.YtfccpnpocfjbcaaDoor.Evs Go.Proofs.YtfccpnpocfjbcaaDoor.Opn Go.Proofs.YtfccpnpocfjbcaaDoor.PNt

/-! ### Digits and signs -/
def isD (c : Int) : Bool := decide (48 ≤ c ∧ c ≤ 57)
theorem digit_f (c : Int) : number_digit.f c = some (isD c) := by
  unfold number_digit.f isD
  by_cases h : c ≥ 48
  · rw [if_pos h]
    congr 1
    exact decide_eq_decide.2 ⟨fun k => ⟨h, k⟩, fun k => k.2⟩
  · rw [if_neg h]
    congr 1
    exact (decide_eq_false (fun k => h k.1)).symm
theorem stop_next {s : ByteArray} {i : Nat} (h : i < s.size) (hd : isD (bt s (i : Nat)) = true) : number_parts.stop s i = number_parts.stop s (i + 1) := number_parts.stop_next s i h (by rw [digit_f, hd])
theorem stop_here {s : ByteArray} {i : Nat} (h : i < s.size) (hd : isD (bt s (i : Nat)) = false) : number_parts.stop s i = i := number_parts.stop_here s i h (by rw [digit_f, hd]; simp)
theorem stop_digit (s : ByteArray) : ∀ d i j : Nat, s.size - i = d → i ≤ j → j < number_parts.stop s i → isD (bt s (j : Nat)) = true := by
  intro d
  induction d with
  | zero =>
    intro i j hd hij hj
    have : s.size - i = 0 := hd
    unfold number_parts.stop at hj
    rw [this] at hj
    simp only [number_parts.stopF] at hj
    omega
  | succ d ih =>
    intro i j hd hij hj
    by_cases hD : isD (bt s (i : Nat)) = true
    · rcases Nat.eq_or_lt_of_le hij with rfl | h
      · exact hD
      · rw [stop_next (by omega) hD] at hj
        exact ih (i + 1) j (by omega) h hj
    · rw [stop_here (by omega) (by simpa using hD)] at hj
      omega
theorem stop_not (s : ByteArray) : ∀ d i : Nat, s.size - i = d → number_parts.stop s i < s.size → isD (bt s (number_parts.stop s i : Nat)) = false := by
  intro d
  induction d with
  | zero =>
    intro i hd hj
    have e : s.size - i = 0 := hd
    unfold number_parts.stop at hj
    rw [e] at hj
    simp only [number_parts.stopF] at hj
    omega
  | succ d ih =>
    intro i hd hj
    by_cases hD : isD (bt s (i : Nat)) = true
    · rw [stop_next (by omega) hD] at hj ⊢
      exact ih (i + 1) (by omega) hj
    · rw [stop_here (by omega) (by simpa using hD)]
      simpa using hD
/-- Where the digits end, told from outside. -/
theorem stop_eq (s : ByteArray) : ∀ d i j : Nat, j - i = d → i ≤ j → j ≤ s.size → (∀ m, i ≤ m → m < j → isD (bt s (m : Nat)) = true) → (j < s.size → isD (bt s (j : Nat)) = false) → number_parts.stop s i = j := by
  intro d
  induction d with
  | zero =>
    intro i j hd hij hj h1 h2
    obtain rfl : i = j := by omega
    by_cases h : i < s.size
    · exact stop_here h (h2 h)
    · obtain rfl : i = s.size := by omega
      exact number_parts.stop_end s
  | succ d ih =>
    intro i j hd hij hj h1 h2
    rw [stop_next (by omega) (h1 i (Nat.le_refl _) (by omega))]
    exact ih (i + 1) j (by omega) (by omega) hj (fun m hm => h1 m (by omega)) h2
theorem sgn_bd (s : ByteArray) (i : Nat) (h : i ≤ s.size) : i ≤ number_parts.sgn s i ∧ number_parts.sgn s i ≤ s.size ∧ number_parts.sgn s i ≤ i + 1 := by
  unfold number_parts.sgn number_parts.isSign
  by_cases h : i < s.size
  · rw [decide_eq_true h]
    split <;> omega
  · rw [decide_eq_false h]
    simp
    omega

/-! ### The parts -/
theorem w0_bd (s : ByteArray) : number_parts.w0 s ≤ s.size := (sgn_bd s 0 (by omega)).2.1
theorem w1_bd (s : ByteArray) : number_parts.w0 s ≤ number_parts.w1 s ∧ number_parts.w1 s ≤ s.size := number_parts.stop_bd s _ (w0_bd s)
/-- How many digits stand behind the point. -/
def pn (s : ByteArray) : Nat := number_parts.at2 s - number_parts.w1 s - 1
theorem dot_lt {s : ByteArray} {i : Nat} (h : number_parts.isDot s i = true) : i < s.size := by
  unfold number_parts.isDot at h
  simp at h
  exact h.1
theorem isE_lt {s : ByteArray} {i : Nat} (h : number_parts.isE s i = true) : i < s.size := by
  unfold number_parts.isE at h
  simp at h
  exact h.1
theorem p1_bd {s : ByteArray} (h : number_parts.isDot s (number_parts.w1 s) = true) : number_parts.w1 s + 1 ≤ number_parts.p1 s ∧ number_parts.p1 s ≤ s.size := by
  unfold number_parts.p1
  rw [if_pos h]
  have := dot_lt h
  exact number_parts.stop_bd s _ (by omega)
theorem at2_bd (s : ByteArray) : number_parts.w1 s ≤ number_parts.at2 s ∧ number_parts.at2 s ≤ s.size ∧ number_parts.at2 s ≠ number_parts.w1 s + 1 := by
  unfold number_parts.at2
  have h1 := w1_bd s
  split
  · rename_i h
    have := p1_bd h
    split <;> omega
  · omega
def noNum (s : ByteArray) : Bool := decide (number_parts.w1 s = number_parts.w0 s ∧ number_parts.at2 s = number_parts.w1 s)
def endOf (s : ByteArray) : Nat := if number_parts.hasE s = true then number_parts.x1 s else number_parts.at2 s
def expAt (s : ByteArray) : Nat := if number_parts.hasE s = true then number_parts.at2 s + 1 else 0
theorem x0_bd {s : ByteArray} (h : number_parts.isE s (number_parts.at2 s) = true) : number_parts.at2 s + 1 ≤ number_parts.x0 s ∧ number_parts.x0 s ≤ s.size ∧ number_parts.x0 s ≤ number_parts.at2 s + 2 := by
  have h1 := isE_lt h
  have := sgn_bd s (number_parts.at2 s + 1) (by omega)
  unfold number_parts.x0
  omega
theorem x1_bd {s : ByteArray} (h : number_parts.isE s (number_parts.at2 s) = true) : number_parts.x0 s ≤ number_parts.x1 s ∧ number_parts.x1 s ≤ s.size := number_parts.stop_bd s _ (x0_bd h).2.1
def expOf (s : ByteArray) : ByteArray := if number_parts.hasE s = true then s.extract (number_parts.at2 s + 1) (number_parts.x1 s) else ⟨#[]⟩
/-- The program's parts. -/
theorem nparts (s : ByteArray) (hs : s.size ≤ 140737488351232) : number_parts.f s = some (if noNum s = true then (false, ⟨#[]⟩, ⟨#[]⟩, ⟨#[]⟩, 0) else
    (number_parts.neg s 0, s.extract (number_parts.w0 s) (number_parts.w1 s), number_parts.part s, expOf s, (endOf s : Int))) := by
  unfold number_parts.f noNum expOf endOf
  rw [if_pos hs]
  by_cases h : number_parts.w1 s = number_parts.w0 s ∧ number_parts.at2 s = number_parts.w1 s
  · rw [if_pos h, if_pos (decide_eq_true h)]
  · rw [if_neg h, if_neg (fun k => h (of_decide_eq_true k))]
    by_cases h2 : number_parts.hasE s = true
    · rw [if_pos h2, if_pos h2, if_pos h2]
    · rw [if_neg h2, if_neg h2, if_neg h2]
theorem scan_f (s : ByteArray) (hs : s.size ≤ 140737488351232) : number_Scan.f s = some (if noNum s = true then 0 else (endOf s : Int)) := by
  unfold number_Scan.f
  rw [nparts s hs]
  by_cases h : noNum s = true
  · rw [if_pos h, if_pos h]
    rfl
  · rw [if_neg h, if_neg h]
    rfl
end Go.Proofs.YtfccpnpocfjbcaaDoor.PureTu
