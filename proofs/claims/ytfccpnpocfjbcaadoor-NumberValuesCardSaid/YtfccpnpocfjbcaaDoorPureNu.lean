/- Numbers as text (layer 2): what a number's text has, by the plain programs and by the document. Conditions: as each statement says. -/
import Derived.Test.YtfccpnpocfjbcaaDoorPNux1
import Derived.Test.YtfccpnpocfjbcaaDoorPNux2
import Derived.Test.YtfccpnpocfjbcaaDoorPNux3
import Derived.Test.YtfccpnpocfjbcaaDoorPNux4
import Derived.Test.YtfccpnpocfjbcaaDoorPNux6
import Derived.Test.YtfccpnpocfjbcaaDoorPNux9
import Derived.Test.YtfccpnpocfjbcaaDoorPNux10
import Derived.Test.YtfccpnpocfjbcaaDoorPNux11
import Derived.Test.YtfccpnpocfjbcaaDoorEv
set_option linter.unusedVariables false
set_option linter.unusedSimpArgs false
namespace Go.Proofs.YtfccpnpocfjbcaaDoor.PureNu
open Go.RowKit Go.Proofs.YtfccpnpocfjbcaaDoorW.PrintWords Go.Proofs.YtfccpnpocfjbcaaDoorW.PrintMore Go.Proofs.YtfccpnpocfjbcaaDoor.Evs Go.Proofs.YtfccpnpocfjbcaaDoor.Opn Go.Proofs.YtfccpnpocfjbcaaDoor.PNu

/-! ### Digits and signs -/
def isD (c : Int) : Bool := decide (48 ≤ c ∧ c ≤ 57)
theorem digit_f (c : Int) : number_digit.f c = some (isD c) := by
  unfold number_digit.f isD
  by_cases h : c ≥ 48
  · rw [if_pos h]
    congr 1
    exact decide_eq_decide.2 ⟨fun k => ⟨h, k⟩, fun k => k.2⟩
  · rw [if_neg h]
    congr 1
    exact (decide_eq_false (fun k => h k.1)).symm
theorem rdigit_f (c : Int) : parterreref02_digit.f c = some (isD c) := digit_f c
theorem stop_next {s : ByteArray} {i : Nat} (h : i < s.size) (hd : isD (bt s (i : Nat)) = true) : number_parts.stop s i = number_parts.stop s (i + 1) := number_parts.stop_next s i h (by rw [digit_f, hd])
theorem stop_here {s : ByteArray} {i : Nat} (h : i < s.size) (hd : isD (bt s (i : Nat)) = false) : number_parts.stop s i = i := number_parts.stop_here s i h (by rw [digit_f, hd]; simp)
theorem stop_digit (s : ByteArray) : ∀ d i j : Nat, s.size - i = d → i ≤ j → j < number_parts.stop s i → isD (bt s (j : Nat)) = true := by
  intro d
  induction d with
  | zero =>
    intro i j hd hij hj
    have : s.size - i = 0 := hd
    unfold number_parts.stop at hj
    rw [this] at hj
    simp only [number_parts.stopF] at hj
    omega
  | succ d ih =>
    intro i j hd hij hj
    by_cases hD : isD (bt s (i : Nat)) = true
    · rcases Nat.eq_or_lt_of_le hij with rfl | h
      · exact hD
      · rw [stop_next (by omega) hD] at hj
        exact ih (i + 1) j (by omega) h hj
    · rw [stop_here (by omega) (by simpa using hD)] at hj
      omega
theorem stop_not (s : ByteArray) : ∀ d i : Nat, s.size - i = d → number_parts.stop s i < s.size → isD (bt s (number_parts.stop s i : Nat)) = false := by
  intro d
  induction d with
  | zero =>
    intro i hd hj
    have e : s.size - i = 0 := hd
    unfold number_parts.stop at hj
    rw [e] at hj
    simp only [number_parts.stopF] at hj
    omega
  | succ d ih =>
    intro i hd hj
    by_cases hD : isD (bt s (i : Nat)) = true
    · rw [stop_next (by omega) hD] at hj ⊢
      exact ih (i + 1) (by omega) hj
    · rw [stop_here (by omega) (by simpa using hD)]
      simpa using hD
/-- Where the digits end, told from outside. -/
theorem stop_eq (s : ByteArray) : ∀ d i j : Nat, j - i = d → i ≤ j → j ≤ s.size → (∀ m, i ≤ m → m < j → isD (bt s (m : Nat)) = true) → (j < s.size → isD (bt s (j : Nat)) = false) → number_parts.stop s i = j := by
  intro d
  induction d with
  | zero =>
    intro i j hd hij hj h1 h2
    obtain rfl : i = j := by omega
    by_cases h : i < s.size
    · exact stop_here h (h2 h)
    · obtain rfl : i = s.size := by omega
      exact number_parts.stop_end s
  | succ d ih =>
    intro i j hd hij hj h1 h2
    rw [stop_next (by omega) (h1 i (Nat.le_refl _) (by omega))]
    exact ih (i + 1) j (by omega) (by omega) hj (fun m hm => h1 m (by omega)) h2
theorem digits_l0 (s : ByteArray) (hs : s.size ≤ 140737488351232) (i : Nat) : ∀ d j : Nat, s.size - (i + j) = d → i + j ≤ s.size → Ev (fun k => parterreref02_digits.l0 k s (i : Nat) (j : Nat)) ((number_parts.stop s (i + j) : Int) - (i : Int)) := by
  intro d
  induction d with
  | zero =>
    intro j hd hij
    have e : i + j = s.size := by omega
    refine ev_step ?_
    simp only [parterreref02_digits.l0]
    rw [w64 (by omega) (by omega)]
    refine ev_neg (by omega) (ev_eq ?_)
    rw [e, number_parts.stop_end]
    omega
  | succ d ih =>
    intro j hd hij
    have hlt : i + j < s.size := by omega
    refine ev_step ?_
    simp only [parterreref02_digits.l0]
    rw [w64 (x := (i : Int) + j) (by omega) (by omega), show ((i : Int) + (j : Int)) = ((i + j : Nat) : Int) by omega]
    refine ev_pos (by omega) (ev_pos (by omega) (ev_bindc (rdigit_f _) (ev_ite (fun h => ?_) (fun h => ?_))))
    · rw [w64 (by omega) (by omega), stop_next hlt h]
      exact ih (j + 1) (by omega) (by omega)
    · rw [stop_here hlt (by simpa using h)]
      exact ev_eq (by omega)
theorem digits_ev (s : ByteArray) (hs : s.size ≤ 140737488351232) (i : Nat) (hi : i ≤ s.size) : Ev (fun k => parterreref02_digits.f k s (i : Nat)) ((number_parts.stop s i : Int) - (i : Int)) := digits_l0 s hs i (s.size - i) 0 (by omega) (by omega)
theorem sign_f (s : ByteArray) (i : Nat) : parterreref02_sign.f s (i : Nat) = some ((number_parts.sgn s i : Int) - (i : Int)) := by
  unfold parterreref02_sign.f number_parts.sgn number_parts.isSign
  by_cases h : i < s.size
  · rw [if_pos (by omega), if_pos (by omega), decide_eq_true h]
    by_cases h1 : bt s (i : Nat) = 43
    · rw [if_pos h1, h1]
      simp
      omega
    · rw [if_neg h1]
      by_cases h2 : bt s (i : Nat) = 45
      · rw [if_pos h2, h2]
        simp
        omega
      · rw [if_neg h2]
        have e1 : (bt s (i : Nat) == 43) = false := by simpa using h1
        have e2 : (bt s (i : Nat) == 45) = false := by simpa using h2
        rw [e1, e2]
        simp
  · rw [if_neg (by omega), decide_eq_false h]
    simp
theorem sgn_bd (s : ByteArray) (i : Nat) (h : i ≤ s.size) : i ≤ number_parts.sgn s i ∧ number_parts.sgn s i ≤ s.size ∧ number_parts.sgn s i ≤ i + 1 := by
  unfold number_parts.sgn number_parts.isSign
  by_cases h : i < s.size
  · rw [decide_eq_true h]
    split <;> omega
  · rw [decide_eq_false h]
    simp
    omega

/-! ### The parts -/
theorem w0_bd (s : ByteArray) : number_parts.w0 s ≤ s.size := (sgn_bd s 0 (by omega)).2.1
theorem w1_bd (s : ByteArray) : number_parts.w0 s ≤ number_parts.w1 s ∧ number_parts.w1 s ≤ s.size := number_parts.stop_bd s _ (w0_bd s)
/-- How many digits stand behind the point. -/
def pn (s : ByteArray) : Nat := number_parts.at2 s - number_parts.w1 s - 1
theorem dot_lt {s : ByteArray} {i : Nat} (h : number_parts.isDot s i = true) : i < s.size := by
  unfold number_parts.isDot at h
  simp at h
  exact h.1
theorem isE_lt {s : ByteArray} {i : Nat} (h : number_parts.isE s i = true) : i < s.size := by
  unfold number_parts.isE at h
  simp at h
  exact h.1
theorem p1_bd {s : ByteArray} (h : number_parts.isDot s (number_parts.w1 s) = true) : number_parts.w1 s + 1 ≤ number_parts.p1 s ∧ number_parts.p1 s ≤ s.size := by
  unfold number_parts.p1
  rw [if_pos h]
  have := dot_lt h
  exact number_parts.stop_bd s _ (by omega)
theorem at2_bd (s : ByteArray) : number_parts.w1 s ≤ number_parts.at2 s ∧ number_parts.at2 s ≤ s.size ∧ number_parts.at2 s ≠ number_parts.w1 s + 1 := by
  unfold number_parts.at2
  have h1 := w1_bd s
  split
  · rename_i h
    have := p1_bd h
    split <;> omega
  · omega
def noNum (s : ByteArray) : Bool := decide (number_parts.w1 s = number_parts.w0 s ∧ number_parts.at2 s = number_parts.w1 s)
def endOf (s : ByteArray) : Nat := if number_parts.hasE s = true then number_parts.x1 s else number_parts.at2 s
def expAt (s : ByteArray) : Nat := if number_parts.hasE s = true then number_parts.at2 s + 1 else 0
def refParts (s : ByteArray) : Int × Int × Int × Int × Int := if noNum s = true then (0, 0, 0, 0, 0) else ((number_parts.w0 s : Int), (number_parts.w1 s : Int) - (number_parts.w0 s : Int), (pn s : Int), (expAt s : Int), (endOf s : Int))
theorem x0_bd {s : ByteArray} (h : number_parts.isE s (number_parts.at2 s) = true) : number_parts.at2 s + 1 ≤ number_parts.x0 s ∧ number_parts.x0 s ≤ s.size ∧ number_parts.x0 s ≤ number_parts.at2 s + 2 := by
  have h1 := isE_lt h
  have := sgn_bd s (number_parts.at2 s + 1) (by omega)
  unfold number_parts.x0
  omega
theorem x1_bd {s : ByteArray} (h : number_parts.isE s (number_parts.at2 s) = true) : number_parts.x0 s ≤ number_parts.x1 s ∧ number_parts.x1 s ≤ s.size := number_parts.stop_bd s _ (x0_bd h).2.1
theorem parts_j2 (s : ByteArray) (hs : s.size ≤ 140737488351232) : Ev (fun k => parterreref02_Parts.j2 k s (number_parts.w0 s : Nat) ((number_parts.w1 s : Int) - (number_parts.w0 s : Int)) (number_parts.at2 s : Nat) (pn s : Nat) (number_parts.isE s (number_parts.at2 s)))
    ((number_parts.w0 s : Int), (number_parts.w1 s : Int) - (number_parts.w0 s : Int), (pn s : Int), (expAt s : Int), (endOf s : Int)) := by
  have hb := at2_bd s
  refine ev_step ?_
  simp only [parterreref02_Parts.j2]
  refine ev_ite (fun hE => ?_) (fun hE => ?_)
  · have h0 := isE_lt hE
    have h1 := x0_bd hE
    have h2 := x1_bd hE
    rw [w64 (x := (number_parts.at2 s : Int) + 1) (by omega) (by omega), show ((number_parts.at2 s : Int) + 1) = ((number_parts.at2 s + 1 : Nat) : Int) by omega]
    refine ev_bindc (sign_f s _) ?_
    rw [show number_parts.sgn s (number_parts.at2 s + 1) = number_parts.x0 s from rfl, w64 (x := ((number_parts.at2 s + 1 : Nat) : Int) + ((number_parts.x0 s : Int) - ((number_parts.at2 s + 1 : Nat) : Int))) (by omega) (by omega),
      show ((number_parts.at2 s + 1 : Nat) : Int) + ((number_parts.x0 s : Int) - ((number_parts.at2 s + 1 : Nat) : Int)) = ((number_parts.x0 s : Nat) : Int) by omega]
    refine ev_bind (digits_ev s hs _ h1.2.1) ?_
    rw [show number_parts.stop s (number_parts.x0 s) = number_parts.x1 s from rfl]
    refine ev_ite (fun hn => ?_) (fun hn => ?_)
    · have hE2 : number_parts.hasE s = true := by
        unfold number_parts.hasE
        rw [hE, decide_eq_true (by omega)]
        rfl
      refine ev_eq ?_
      unfold endOf expAt
      rw [if_pos hE2, if_pos hE2, w64 (by omega) (by omega)]
      simp only [Prod.mk.injEq, true_and]
      omega
    · have hE2 : ¬ number_parts.hasE s = true := by
        unfold number_parts.hasE
        rw [hE, decide_eq_false (by omega)]
        simp
      refine ev_eq ?_
      unfold endOf expAt
      rw [if_neg hE2, if_neg hE2]
      rfl
  · have hE2 : ¬ number_parts.hasE s = true := by
      unfold number_parts.hasE
      simp [hE]
    refine ev_eq ?_
    unfold endOf expAt
    rw [if_neg hE2, if_neg hE2]
    rfl
theorem parts_j1 (s : ByteArray) (hs : s.size ≤ 140737488351232) : Ev (fun k => parterreref02_Parts.j1 k s (number_parts.w0 s : Nat) ((number_parts.w1 s : Int) - (number_parts.w0 s : Int)) (number_parts.at2 s : Nat) (pn s : Nat)) (refParts s) := by
  have hb := at2_bd s
  have hb1 := w1_bd s
  refine ev_step ?_
  simp only [parterreref02_Parts.j1]
  have hp : pn s ≤ s.size := by unfold pn; omega
  rw [w64 (by omega) (by omega)]
  refine ev_ite (fun h => ?_) (fun h => ?_)
  · refine ev_eq ?_
    unfold refParts
    rw [if_pos]
    unfold noNum
    apply decide_eq_true
    unfold pn at h
    omega
  · have e : refParts s = ((number_parts.w0 s : Int), (number_parts.w1 s : Int) - (number_parts.w0 s : Int), (pn s : Int), (expAt s : Int), (endOf s : Int)) := by
      unfold refParts
      rw [if_neg]
      unfold noNum
      intro k
      have := of_decide_eq_true k
      unfold pn at h
      omega
    rw [e]
    have hj := parts_j2 s hs
    refine ev_ite (fun h1 => ev_pos (by omega) ?_) (fun h1 => ?_)
    · have h2 : number_parts.at2 s < s.size := by omega
      refine ev_ite (fun h3 => ?_) (fun h3 => ?_)
      · have : number_parts.isE s (number_parts.at2 s) = true := by
          unfold number_parts.isE
          rw [decide_eq_true h2, h3]
          rfl
        rw [this] at hj
        exact hj
      · have : number_parts.isE s (number_parts.at2 s) = (bt s (number_parts.at2 s : Nat) == 69) := by
          unfold number_parts.isE
          rw [decide_eq_true h2, show (bt s (number_parts.at2 s : Nat) == 101) = false by simpa using h3]
          rfl
        rw [this] at hj
        exact hj
    · have : number_parts.isE s (number_parts.at2 s) = false := by
        unfold number_parts.isE
        rw [decide_eq_false (by omega)]
        rfl
      rw [this] at hj
      exact hj
theorem parts_j0 (s : ByteArray) (hs : s.size ≤ 140737488351232) : Ev (fun k => parterreref02_Parts.j0 k s (number_parts.w0 s : Nat) ((number_parts.w1 s : Int) - (number_parts.w0 s : Int)) (number_parts.w1 s : Nat) 0 (number_parts.isDot s (number_parts.w1 s))) (refParts s) := by
  have hb1 := w1_bd s
  have hj := parts_j1 s hs
  refine ev_step ?_
  simp only [parterreref02_Parts.j0]
  refine ev_ite (fun h => ?_) (fun h => ?_)
  · have h1 := dot_lt h
    have h2 := p1_bd h
    rw [w64 (x := (number_parts.w1 s : Int) + 1) (by omega) (by omega), show ((number_parts.w1 s : Int) + 1) = ((number_parts.w1 s + 1 : Nat) : Int) by omega]
    refine ev_bind (digits_ev s hs _ (by omega)) ?_
    have e1 : number_parts.stop s (number_parts.w1 s + 1) = number_parts.p1 s := by
      unfold number_parts.p1
      rw [if_pos h]
    rw [e1]
    refine ev_ite (fun h3 => ?_) (fun h3 => ?_)
    · have e2 : number_parts.at2 s = number_parts.p1 s := by
        unfold number_parts.at2
        rw [if_pos h, if_neg (by omega)]
      rw [w64 (by omega) (by omega)]
      have e3 : ((number_parts.w1 s + 1 : Nat) : Int) + ((number_parts.p1 s : Int) - ((number_parts.w1 s + 1 : Nat) : Int)) = (number_parts.at2 s : Nat) := by omega
      have e4 : ((number_parts.p1 s : Int) - ((number_parts.w1 s + 1 : Nat) : Int)) = (pn s : Nat) := by unfold pn; omega
      rw [e3, e4]
      exact hj
    · have e2 : number_parts.at2 s = number_parts.w1 s := by
        unfold number_parts.at2
        rw [if_pos h, if_pos (by omega)]
      have e4 : ((number_parts.p1 s : Int) - ((number_parts.w1 s + 1 : Nat) : Int)) = (pn s : Nat) := by unfold pn; omega
      rw [e4]
      rw [e2] at hj
      exact hj
  · have e2 : number_parts.at2 s = number_parts.w1 s := by
      unfold number_parts.at2
      rw [if_neg h]
    have e3 : pn s = 0 := by unfold pn; omega
    rw [e2, e3] at hj
    exact hj
theorem parts_ev (s : ByteArray) (hs : s.size ≤ 140737488351232) : Ev (fun k => parterreref02_Parts.f k s) (refParts s) := by
  have hb := w0_bd s
  have hb1 := w1_bd s
  have hj := parts_j0 s hs
  unfold parterreref02_Parts.f
  refine ev_bindc (sign_f s 0) ?_
  have e0 : ((number_parts.sgn s 0 : Int) - ((0 : Nat) : Int)) = (number_parts.w0 s : Nat) := by
    rw [show number_parts.sgn s 0 = number_parts.w0 s from rfl]
    omega
  rw [e0]
  refine ev_bind (digits_ev s hs _ hb) ?_
  rw [show number_parts.stop s (number_parts.w0 s) = number_parts.w1 s from rfl]
  rw [w64 (x := (number_parts.w0 s : Int) + ((number_parts.w1 s : Int) - (number_parts.w0 s : Int))) (by omega) (by omega), show (number_parts.w0 s : Int) + ((number_parts.w1 s : Int) - (number_parts.w0 s : Int)) = (number_parts.w1 s : Nat) by omega]
  refine ev_ite (fun h => ev_pos (by omega) ?_) (fun h => ?_)
  · have : number_parts.isDot s (number_parts.w1 s) = (bt s (number_parts.w1 s : Nat) == 46) := by
      unfold number_parts.isDot
      rw [decide_eq_true (by omega)]
      rfl
    rw [this] at hj
    exact hj
  · have : number_parts.isDot s (number_parts.w1 s) = false := by
      unfold number_parts.isDot
      rw [decide_eq_false (by omega)]
      rfl
    rw [this] at hj
    exact hj
def expOf (s : ByteArray) : ByteArray := if number_parts.hasE s = true then s.extract (number_parts.at2 s + 1) (number_parts.x1 s) else ⟨#[]⟩
/-- The program's parts. -/
theorem nparts (s : ByteArray) (hs : s.size ≤ 140737488351232) : number_parts.f s = some (if noNum s = true then (false, ⟨#[]⟩, ⟨#[]⟩, ⟨#[]⟩, 0) else
    (number_parts.neg s 0, s.extract (number_parts.w0 s) (number_parts.w1 s), number_parts.part s, expOf s, (endOf s : Int))) := by
  unfold number_parts.f noNum expOf endOf
  rw [if_pos hs]
  by_cases h : number_parts.w1 s = number_parts.w0 s ∧ number_parts.at2 s = number_parts.w1 s
  · rw [if_pos h, if_pos (decide_eq_true h)]
  · rw [if_neg h, if_neg (fun k => h (of_decide_eq_true k))]
    by_cases h2 : number_parts.hasE s = true
    · rw [if_pos h2, if_pos h2, if_pos h2]
    · rw [if_neg h2, if_neg h2, if_neg h2]
theorem scan_f (s : ByteArray) (hs : s.size ≤ 140737488351232) : number_Scan.f s = some (if noNum s = true then 0 else (endOf s : Int)) := by
  unfold number_Scan.f
  rw [nparts s hs]
  by_cases h : noNum s = true
  · rw [if_pos h, if_pos h]
    rfl
  · rw [if_neg h, if_neg h]
    rfl
theorem rscan_ev (s : ByteArray) (hs : s.size ≤ 140737488351232) : Ev (fun k => parterreref02_Scan.f k s) (if noNum s = true then 0 else (endOf s : Int)) := by
  unfold parterreref02_Scan.f
  refine ev_bind (parts_ev s hs) (ev_eq ?_)
  unfold refParts
  by_cases h : noNum s = true
  · rw [if_pos h, if_pos h]
  · rw [if_neg h, if_neg h]
theorem lives_ev : Ev (fun k => parterrelaw02_lives.f k) true := Ev.of (fun k => parterrelaw02_lives.mono k) (k := 60) (by decide +kernel)
end Go.Proofs.YtfccpnpocfjbcaaDoor.PureNu
