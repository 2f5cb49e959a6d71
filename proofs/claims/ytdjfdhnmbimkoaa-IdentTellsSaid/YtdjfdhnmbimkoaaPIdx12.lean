-- Written by a program of this session (wip/p2) out of the translation; Lean checks it.
import Derived.Test.YtdjfdhnmbimkoaaPIdx0
namespace Go.Proofs.Ytdjfdhnmbimkoaa.PId
open Go.RowKit Go.Proofs.YtdjfdhnmbimkoaaW.PrintWords Go.Proofs.YtdjfdhnmbimkoaaW.PrintLast Go.Proofs.YtdjfdhnmbimkoaaW.PrintMore
attribute [local go_sem] max2_int min2_int max_two min_two max_three min_three max_four min_four   -- for this text's walks alone
set_option linter.unusedVariables false
set_option linter.unusedSimpArgs false
open Go.Proofs.Ytdjfdhnmbimkoaa.Opn Go.Proofs.Ytdjfdhnmbimkoaa.Giv

/-! ### parterreref04_number: function 77 -/
def parterreref04_number.dig (x : Int) : ByteArray := (⟨#[48, 49, 50, 51, 52, 53, 54, 55, 56, 57, 97, 98, 99, 100, 101, 102]⟩ : ByteArray).extract x.toNat (x + 1).toNat
def parterreref04_number.f (a0 : Int) : Option ByteArray := if 0 ≤ a0 then (if a0 ≤ 255 then (if a0 ≥ 16 then some (((⟨#[92]⟩ : ByteArray) ++ parterreref04_number.dig (a0 / 16)) ++ parterreref04_number.dig (a0 % 16) ++ (⟨#[32]⟩ : ByteArray)) else some ((⟨#[92]⟩ : ByteArray) ++ parterreref04_number.dig (a0 % 16) ++ (⟨#[32]⟩ : ByteArray))) else none) else none
theorem parterreref04_number.dig_size (x : Int) (h0 : 0 ≤ x) (h1 : x ≤ 15) : (parterreref04_number.dig x).size = 1 := by
  unfold parterreref04_number.dig
  rw [ByteArray.size_extract]
  show min (x + 1).toNat 16 - x.toNat = 1
  omega
theorem parterreref04_number.cut (W : World) (x : Int) (h0 : 0 ≤ x) (h1 : x ≤ 15) : (Instr.slice 9 (.string ⟨#[48, 49, 50, 51, 52, 53, 54, 55, 56, 57, 97, 98, 99, 100, 101, 102]⟩) (some (.int .u8 x)) (some (.int .u8 (x + 1))) none).run Try.prog W = .ok (.string (parterreref04_number.dig x)) W := by
  have ht := Try.underlying9
  have q0 : (0 ≤ x) = True := eq_true h0
  have q1 : (x ≤ x + 1) = True := eq_true (by omega)
  have q2 : (x + 1 ≤ 16) = True := eq_true (by omega)
  have q3 : (0 ≤ x + 1) = True := eq_true (by omega)
  simp [go_sem, ht, q0, q1, q2, q3, h0, h1, parterreref04_number.dig]
theorem parterreref04_number.tdiv_eq {a0 : Int} (h0 : 0 ≤ a0) (h1 : a0 ≤ 255) : Int.tdiv a0 16 % 256 = a0 / 16 := by
  rw [Int.tdiv_eq_ediv_of_nonneg h0]
  omega
theorem parterreref04_number.tmod_eq {a0 : Int} (h0 : 0 ≤ a0) : Int.tmod a0 16 = a0 % 16 := Int.tmod_eq_emod_of_nonneg h0
set_option maxHeartbeats 400000 in
set_option maxRecDepth 100000 in
theorem parterreref04_number.calls (a0 : Int) (r : ByteArray) (w : World) (h : parterreref04_number.f a0 = some r) :
    Calls Try.prog 77 #[.int .u8 a0] w fun e w' => e = .returned (.string r) ∧ Drawn0 w w' := by
  unfold parterreref04_number.f at h
  by_cases h0 : 0 ≤ a0
  · rw [if_pos h0] at h
    by_cases h1 : a0 ≤ 255
    · rw [if_pos h1] at h
      obtain ⟨m, hm⟩ : ∃ m, a0 % 16 = m := ⟨_, rfl⟩
      obtain ⟨j, hj⟩ : ∃ j, a0 / 16 = j := ⟨_, rfl⟩
      have hm2 : Int.tmod a0 16 = m := (parterreref04_number.tmod_eq h0).trans hm
      have hj2 : Int.tdiv a0 16 % 256 = j := (parterreref04_number.tdiv_eq h0 h1).trans hj
      have cm := fun W => parterreref04_number.cut W m (by omega) (by omega)
      have cj := fun W => parterreref04_number.cut W j (by omega) (by omega)
      have hm1 : (m + 1) % 256 = m + 1 := by omega
      have hj1 : (j + 1) % 256 = j + 1 := by omega
      have zm := parterreref04_number.dig_size m (by omega) (by omega)
      have zj := parterreref04_number.dig_size j (by omega) (by omega)
      rw [hm, hj] at h
      generalize parterreref04_number.dig m = dm at *
      generalize parterreref04_number.dig j = dj at *
      by_cases hp : a0 ≥ 16
      · rw [if_pos hp] at h
        obtain rfl := Option.some.inj h
        have p1 : decide (16 ≤ a0) = true := decide_eq_true hp
        clear h h0 h1 hp hm hj
        go_enter Try.func77, Try.ntmps77
        go_wp2
        go_ret
        exact ⟨rfl, by repeat (first | exact Drawn0.refl _ | apply Drawn0.step)⟩
      · rw [if_neg hp] at h
        obtain rfl := Option.some.inj h
        have p1 : decide (16 ≤ a0) = false := decide_eq_false hp
        clear h h0 h1 hp hm hj
        go_enter Try.func77, Try.ntmps77
        go_wp2
        go_ret
        exact ⟨rfl, by repeat (first | exact Drawn0.refl _ | apply Drawn0.step)⟩
    · rw [if_neg h1] at h
      cases h
  · rw [if_neg h0] at h
    cases h

end Go.Proofs.Ytdjfdhnmbimkoaa.PId
