/- AreaTellsCardSaid, part 11 of 15: contracts of the program's functions, the words that they use, and the plain laws on what they compute. Conditions: none beyond what the statements say. -/
import Derived.Test.YtofdhdafabmhmaaGreatDoorKAt1
import Derived.Test.YtofdhdafabmhmaaGreatDoorKAt2
import Derived.Test.YtofdhdafabmhmaaGreatDoorKAt3
import Derived.Test.YtofdhdafabmhmaaGreatDoorKAt6
import Derived.Test.YtofdhdafabmhmaaGreatDoorKAt9
set_option linter.unusedVariables false
set_option linter.unusedSimpArgs false
section
namespace Go.Proofs.YtofdhdafabmhmaaGreatDoor.PAr
open Go.RowKit Go.Proofs.YtofdhdafabmhmaaGreatDoorW.PrintWords Go.Proofs.YtofdhdafabmhmaaGreatDoorW.PrintLast Go.Proofs.YtofdhdafabmhmaaGreatDoorW.PrintMore
attribute [local go_sem] max2_int min2_int max_two min_two max_three min_three max_four min_four
open Go.Proofs.YtofdhdafabmhmaaGreatDoor.Opn Go.Proofs.YtofdhdafabmhmaaGreatDoor.Giv

/-! ### ident_control: function 56 -/
def ident_control.f (a0 : Int) : Option (Bool) := if a0 < 32 then (some true) else (some (a0 == 127))
set_option maxHeartbeats 8000000 in
set_option maxRecDepth 100000 in
theorem ident_control.calls (a0 : Int) (r : Bool) (w : World) (h : ident_control.f a0 = some r) :
  Calls Tryz.prog 56 #[.int .u8 a0] w fun e w' => e = .returned (.bool r) ∧ Drawn0 w w' := by
 have H : (if a0 < 32 then (some true) else (some (a0 == 127))) = some r := h
 clear h
 by_cases c2 : a0 < 32
 ·rw [if_pos c2] at H
  have c2b0 : decide (a0 < 32) = true := decide_eq_true c2
  clear c2
  obtain rfl := Option.some.inj H
  go_enter Tryz.func56, Tryz.ntmps56
  go_wp2
  go_ret
  exact ⟨by first | rfl | (simp; done) | (simp [*]; done), drs_⟩
 ·rw [if_neg c2] at H
  have c2b0 : decide (a0 < 32) = false := decide_eq_false c2
  clear c2
  obtain rfl := Option.some.inj H
  go_enter Tryz.func56, Tryz.ntmps56
  go_wp2
  go_ret
  exact ⟨by first | rfl | (simp; done) | (simp [*]; done), drs_⟩

/-! ### ident_escaped: function 57 -/
def ident_escaped.f (a0 : Int) : Option (ByteArray) := if (a0 / 16) > 0 then (if 0 ≤ (a0 / 16) then (if (a0 / 16) ≤ (((a0 / 16) + 1) % 256) then (if (((a0 / 16) + 1) % 256) ≤ 16 then (if 1 + ((⟨#[48, 49, 50, 51, 52, 53, 54, 55, 56, 57, 97, 98, 99, 100, 101, 102]⟩ : ByteArray).extract ((a0 / 16) : Int).toNat ((((a0 / 16) + 1) % 256) : Int).toNat).size ≤ 9223372036854775807 then (if 0 ≤ (Go.bits .and .u8 a0 15) then (if (Go.bits .and .u8 a0 15) ≤ (((Go.bits .and .u8 a0 15) + 1) % 256) then (if (((Go.bits .and .u8 a0 15) + 1) % 256) ≤ 16 then (if ((⟨#[92]⟩ : ByteArray) ++ ((⟨#[48, 49, 50, 51, 52, 53, 54, 55, 56, 57, 97, 98, 99, 100, 101, 102]⟩ : ByteArray).extract ((a0 / 16) : Int).toNat ((((a0 / 16) + 1) % 256) : Int).toNat)).size + ((⟨#[48, 49, 50, 51, 52, 53, 54, 55, 56, 57, 97, 98, 99, 100, 101, 102]⟩ : ByteArray).extract ((Go.bits .and .u8 a0 15) : Int).toNat ((((Go.bits .and .u8 a0 15) + 1) % 256) : Int).toNat).size ≤ 9223372036854775807 then (if (((⟨#[92]⟩ : ByteArray) ++ ((⟨#[48, 49, 50, 51, 52, 53, 54, 55, 56, 57, 97, 98, 99, 100, 101, 102]⟩ : ByteArray).extract ((a0 / 16) : Int).toNat ((((a0 / 16) + 1) % 256) : Int).toNat)) ++ ((⟨#[48, 49, 50, 51, 52, 53, 54, 55, 56, 57, 97, 98, 99, 100, 101, 102]⟩ : ByteArray).extract ((Go.bits .and .u8 a0 15) : Int).toNat ((((Go.bits .and .u8 a0 15) + 1) % 256) : Int).toNat)).size + 1 ≤ 9223372036854775807 then (some ((((⟨#[92]⟩ : ByteArray) ++ ((⟨#[48, 49, 50, 51, 52, 53, 54, 55, 56, 57, 97, 98, 99, 100, 101, 102]⟩ : ByteArray).extract ((a0 / 16) : Int).toNat ((((a0 / 16) + 1) % 256) : Int).toNat)) ++ ((⟨#[48, 49, 50, 51, 52, 53, 54, 55, 56, 57, 97, 98, 99, 100, 101, 102]⟩ : ByteArray).extract ((Go.bits .and .u8 a0 15) : Int).toNat ((((Go.bits .and .u8 a0 15) + 1) % 256) : Int).toNat)) ++ (⟨#[32]⟩ : ByteArray))) else (none)) else (none)) else (none)) else (none)) else (none)) else (none)) else (none)) else (none)) else (none)) else (if 0 ≤ (Go.bits .and .u8 a0 15) then (if (Go.bits .and .u8 a0 15) ≤ (((Go.bits .and .u8 a0 15) + 1) % 256) then (if (((Go.bits .and .u8 a0 15) + 1) % 256) ≤ 16 then (if 1 + ((⟨#[48, 49, 50, 51, 52, 53, 54, 55, 56, 57, 97, 98, 99, 100, 101, 102]⟩ : ByteArray).extract ((Go.bits .and .u8 a0 15) : Int).toNat ((((Go.bits .and .u8 a0 15) + 1) % 256) : Int).toNat).size ≤ 9223372036854775807 then (if ((⟨#[92]⟩ : ByteArray) ++ ((⟨#[48, 49, 50, 51, 52, 53, 54, 55, 56, 57, 97, 98, 99, 100, 101, 102]⟩ : ByteArray).extract ((Go.bits .and .u8 a0 15) : Int).toNat ((((Go.bits .and .u8 a0 15) + 1) % 256) : Int).toNat)).size + 1 ≤ 9223372036854775807 then (some (((⟨#[92]⟩ : ByteArray) ++ ((⟨#[48, 49, 50, 51, 52, 53, 54, 55, 56, 57, 97, 98, 99, 100, 101, 102]⟩ : ByteArray).extract ((Go.bits .and .u8 a0 15) : Int).toNat ((((Go.bits .and .u8 a0 15) + 1) % 256) : Int).toNat)) ++ (⟨#[32]⟩ : ByteArray))) else (none)) else (none)) else (none)) else (none)) else (none))
set_option maxHeartbeats 8000000 in
set_option maxRecDepth 100000 in
theorem ident_escaped.calls (a0 : Int) (r : ByteArray) (w : World) (h : ident_escaped.f a0 = some r) :
  Calls Tryz.prog 57 #[.int .u8 a0] w fun e w' => e = .returned (.string r) ∧ Drawn0 w w' := by
 have H : (if (a0 / 16) > 0 then (if 0 ≤ (a0 / 16) then (if (a0 / 16) ≤ (((a0 / 16) + 1) % 256) then (if (((a0 / 16) + 1) % 256) ≤ 16 then (if 1 + ((⟨#[48, 49, 50, 51, 52, 53, 54, 55, 56, 57, 97, 98, 99, 100, 101, 102]⟩ : ByteArray).extract ((a0 / 16) : Int).toNat ((((a0 / 16) + 1) % 256) : Int).toNat).size ≤ 9223372036854775807 then (if 0 ≤ (Go.bits .and .u8 a0 15) then (if (Go.bits .and .u8 a0 15) ≤ (((Go.bits .and .u8 a0 15) + 1) % 256) then (if (((Go.bits .and .u8 a0 15) + 1) % 256) ≤ 16 then (if ((⟨#[92]⟩ : ByteArray) ++ ((⟨#[48, 49, 50, 51, 52, 53, 54, 55, 56, 57, 97, 98, 99, 100, 101, 102]⟩ : ByteArray).extract ((a0 / 16) : Int).toNat ((((a0 / 16) + 1) % 256) : Int).toNat)).size + ((⟨#[48, 49, 50, 51, 52, 53, 54, 55, 56, 57, 97, 98, 99, 100, 101, 102]⟩ : ByteArray).extract ((Go.bits .and .u8 a0 15) : Int).toNat ((((Go.bits .and .u8 a0 15) + 1) % 256) : Int).toNat).size ≤ 9223372036854775807 then (if (((⟨#[92]⟩ : ByteArray) ++ ((⟨#[48, 49, 50, 51, 52, 53, 54, 55, 56, 57, 97, 98, 99, 100, 101, 102]⟩ : ByteArray).extract ((a0 / 16) : Int).toNat ((((a0 / 16) + 1) % 256) : Int).toNat)) ++ ((⟨#[48, 49, 50, 51, 52, 53, 54, 55, 56, 57, 97, 98, 99, 100, 101, 102]⟩ : ByteArray).extract ((Go.bits .and .u8 a0 15) : Int).toNat ((((Go.bits .and .u8 a0 15) + 1) % 256) : Int).toNat)).size + 1 ≤ 9223372036854775807 then (some ((((⟨#[92]⟩ : ByteArray) ++ ((⟨#[48, 49, 50, 51, 52, 53, 54, 55, 56, 57, 97, 98, 99, 100, 101, 102]⟩ : ByteArray).extract ((a0 / 16) : Int).toNat ((((a0 / 16) + 1) % 256) : Int).toNat)) ++ ((⟨#[48, 49, 50, 51, 52, 53, 54, 55, 56, 57, 97, 98, 99, 100, 101, 102]⟩ : ByteArray).extract ((Go.bits .and .u8 a0 15) : Int).toNat ((((Go.bits .and .u8 a0 15) + 1) % 256) : Int).toNat)) ++ (⟨#[32]⟩ : ByteArray))) else (none)) else (none)) else (none)) else (none)) else (none)) else (none)) else (none)) else (none)) else (none)) else (if 0 ≤ (Go.bits .and .u8 a0 15) then (if (Go.bits .and .u8 a0 15) ≤ (((Go.bits .and .u8 a0 15) + 1) % 256) then (if (((Go.bits .and .u8 a0 15) + 1) % 256) ≤ 16 then (if 1 + ((⟨#[48, 49, 50, 51, 52, 53, 54, 55, 56, 57, 97, 98, 99, 100, 101, 102]⟩ : ByteArray).extract ((Go.bits .and .u8 a0 15) : Int).toNat ((((Go.bits .and .u8 a0 15) + 1) % 256) : Int).toNat).size ≤ 9223372036854775807 then (if ((⟨#[92]⟩ : ByteArray) ++ ((⟨#[48, 49, 50, 51, 52, 53, 54, 55, 56, 57, 97, 98, 99, 100, 101, 102]⟩ : ByteArray).extract ((Go.bits .and .u8 a0 15) : Int).toNat ((((Go.bits .and .u8 a0 15) + 1) % 256) : Int).toNat)).size + 1 ≤ 9223372036854775807 then (some (((⟨#[92]⟩ : ByteArray) ++ ((⟨#[48, 49, 50, 51, 52, 53, 54, 55, 56, 57, 97, 98, 99, 100, 101, 102]⟩ : ByteArray).extract ((Go.bits .and .u8 a0 15) : Int).toNat ((((Go.bits .and .u8 a0 15) + 1) % 256) : Int).toNat)) ++ (⟨#[32]⟩ : ByteArray))) else (none)) else (none)) else (none)) else (none)) else (none))) = some r := h
 clear h
 by_cases c2 : (a0 / 16) > 0
 ·rw [if_pos c2] at H
  have c2b0 : decide (0 < (a0 / 16)) = true := decide_eq_true c2
  clear c2
  obtain ⟨ji3, hji3⟩ : ∃ j_ : Int, (a0 / 16) = j_ := ⟨_, rfl⟩
  replace H : (if 0 ≤ (ji3) then (if (ji3) ≤ (((ji3) + 1) % 256) then (if (((ji3) + 1) % 256) ≤ 16 then (if 1 + ((⟨#[48, 49, 50, 51, 52, 53, 54, 55, 56, 57, 97, 98, 99, 100, 101, 102]⟩ : ByteArray).extract ((ji3) : Int).toNat ((((ji3) + 1) % 256) : Int).toNat).size ≤ 9223372036854775807 then (if 0 ≤ (Go.bits .and .u8 a0 15) then (if (Go.bits .and .u8 a0 15) ≤ (((Go.bits .and .u8 a0 15) + 1) % 256) then (if (((Go.bits .and .u8 a0 15) + 1) % 256) ≤ 16 then (if ((⟨#[92]⟩ : ByteArray) ++ ((⟨#[48, 49, 50, 51, 52, 53, 54, 55, 56, 57, 97, 98, 99, 100, 101, 102]⟩ : ByteArray).extract ((ji3) : Int).toNat ((((ji3) + 1) % 256) : Int).toNat)).size + ((⟨#[48, 49, 50, 51, 52, 53, 54, 55, 56, 57, 97, 98, 99, 100, 101, 102]⟩ : ByteArray).extract ((Go.bits .and .u8 a0 15) : Int).toNat ((((Go.bits .and .u8 a0 15) + 1) % 256) : Int).toNat).size ≤ 9223372036854775807 then (if (((⟨#[92]⟩ : ByteArray) ++ ((⟨#[48, 49, 50, 51, 52, 53, 54, 55, 56, 57, 97, 98, 99, 100, 101, 102]⟩ : ByteArray).extract ((ji3) : Int).toNat ((((ji3) + 1) % 256) : Int).toNat)) ++ ((⟨#[48, 49, 50, 51, 52, 53, 54, 55, 56, 57, 97, 98, 99, 100, 101, 102]⟩ : ByteArray).extract ((Go.bits .and .u8 a0 15) : Int).toNat ((((Go.bits .and .u8 a0 15) + 1) % 256) : Int).toNat)).size + 1 ≤ 9223372036854775807 then (some ((((⟨#[92]⟩ : ByteArray) ++ ((⟨#[48, 49, 50, 51, 52, 53, 54, 55, 56, 57, 97, 98, 99, 100, 101, 102]⟩ : ByteArray).extract ((ji3) : Int).toNat ((((ji3) + 1) % 256) : Int).toNat)) ++ ((⟨#[48, 49, 50, 51, 52, 53, 54, 55, 56, 57, 97, 98, 99, 100, 101, 102]⟩ : ByteArray).extract ((Go.bits .and .u8 a0 15) : Int).toNat ((((Go.bits .and .u8 a0 15) + 1) % 256) : Int).toNat)) ++ (⟨#[32]⟩ : ByteArray))) else (none)) else (none)) else (none)) else (none)) else (none)) else (none)) else (none)) else (none)) else (none)) = some r := by first | (rw [hji3] at H; exact H) | (simp only [hji3] at H ⊢; exact H)
  (try rw [hji3] at c2b0)
  by_cases c4 : 0 ≤ (ji3)
  ·rw [if_pos c4] at H
   have c4b0 := eq_true c4
   have c4b1 : decide (0 ≤ (ji3)) = true := decide_eq_true c4
   clear c4
   by_cases c5 : (ji3) ≤ (((ji3) + 1) % 256)
   ·rw [if_pos c5] at H
    have c5b0 := eq_true c5
    have c5b1 : decide ((ji3) ≤ (((ji3) + 1) % 256)) = true := decide_eq_true c5
    by_cases c6 : (((ji3) + 1) % 256) ≤ 16
    ·rw [if_pos c6] at H
     have c6b0 := eq_true c6
     have c6b1 : decide ((((ji3) + 1) % 256) ≤ 16) = true := decide_eq_true c6
     by_cases c7 : 1 + ((⟨#[48, 49, 50, 51, 52, 53, 54, 55, 56, 57, 97, 98, 99, 100, 101, 102]⟩ : ByteArray).extract ((ji3) : Int).toNat ((((ji3) + 1) % 256) : Int).toNat).size ≤ 9223372036854775807
     ·rw [if_pos c7] at H
      have c7b0 := eq_true c7
      have c7b1 : decide (1 + ((⟨#[48, 49, 50, 51, 52, 53, 54, 55, 56, 57, 97, 98, 99, 100, 101, 102]⟩ : ByteArray).extract ((ji3) : Int).toNat ((((ji3) + 1) % 256) : Int).toNat).size ≤ 9223372036854775807) = true := decide_eq_true c7
      try have c7b2 : (9223372036854775807 < 1 + ((⟨#[48, 49, 50, 51, 52, 53, 54, 55, 56, 57, 97, 98, 99, 100, 101, 102]⟩ : ByteArray).extract ((ji3) : Int).toNat ((((ji3) + 1) % 256) : Int).toNat).size) = False := eq_false (Nat.not_lt.2 c7)
      by_cases c8 : 0 ≤ (Go.bits .and .u8 a0 15)
      ·rw [if_pos c8] at H
       have c8b0 := eq_true c8
       have c8b1 : decide (0 ≤ (Go.bits .and .u8 a0 15)) = true := decide_eq_true c8
       clear c8
       by_cases c9 : (Go.bits .and .u8 a0 15) ≤ (((Go.bits .and .u8 a0 15) + 1) % 256)
       ·rw [if_pos c9] at H
        have c9b0 := eq_true c9
        have c9b1 : decide ((Go.bits .and .u8 a0 15) ≤ (((Go.bits .and .u8 a0 15) + 1) % 256)) = true := decide_eq_true c9
        by_cases c10 : (((Go.bits .and .u8 a0 15) + 1) % 256) ≤ 16
        ·rw [if_pos c10] at H
         have c10b0 := eq_true c10
         have c10b1 : decide ((((Go.bits .and .u8 a0 15) + 1) % 256) ≤ 16) = true := decide_eq_true c10
         by_cases c11 : ((⟨#[92]⟩ : ByteArray) ++ ((⟨#[48, 49, 50, 51, 52, 53, 54, 55, 56, 57, 97, 98, 99, 100, 101, 102]⟩ : ByteArray).extract ((ji3) : Int).toNat ((((ji3) + 1) % 256) : Int).toNat)).size + ((⟨#[48, 49, 50, 51, 52, 53, 54, 55, 56, 57, 97, 98, 99, 100, 101, 102]⟩ : ByteArray).extract ((Go.bits .and .u8 a0 15) : Int).toNat ((((Go.bits .and .u8 a0 15) + 1) % 256) : Int).toNat).size ≤ 9223372036854775807
         ·rw [if_pos c11] at H
          have c11b0 := eq_true c11
          have c11b1 : decide (((⟨#[92]⟩ : ByteArray) ++ ((⟨#[48, 49, 50, 51, 52, 53, 54, 55, 56, 57, 97, 98, 99, 100, 101, 102]⟩ : ByteArray).extract ((ji3) : Int).toNat ((((ji3) + 1) % 256) : Int).toNat)).size + ((⟨#[48, 49, 50, 51, 52, 53, 54, 55, 56, 57, 97, 98, 99, 100, 101, 102]⟩ : ByteArray).extract ((Go.bits .and .u8 a0 15) : Int).toNat ((((Go.bits .and .u8 a0 15) + 1) % 256) : Int).toNat).size ≤ 9223372036854775807) = true := decide_eq_true c11
          try have c11b2 : (9223372036854775807 < ((⟨#[92]⟩ : ByteArray) ++ ((⟨#[48, 49, 50, 51, 52, 53, 54, 55, 56, 57, 97, 98, 99, 100, 101, 102]⟩ : ByteArray).extract ((ji3) : Int).toNat ((((ji3) + 1) % 256) : Int).toNat)).size + ((⟨#[48, 49, 50, 51, 52, 53, 54, 55, 56, 57, 97, 98, 99, 100, 101, 102]⟩ : ByteArray).extract ((Go.bits .and .u8 a0 15) : Int).toNat ((((Go.bits .and .u8 a0 15) + 1) % 256) : Int).toNat).size) = False := eq_false (Nat.not_lt.2 c11)
          by_cases c12 : (((⟨#[92]⟩ : ByteArray) ++ ((⟨#[48, 49, 50, 51, 52, 53, 54, 55, 56, 57, 97, 98, 99, 100, 101, 102]⟩ : ByteArray).extract ((ji3) : Int).toNat ((((ji3) + 1) % 256) : Int).toNat)) ++ ((⟨#[48, 49, 50, 51, 52, 53, 54, 55, 56, 57, 97, 98, 99, 100, 101, 102]⟩ : ByteArray).extract ((Go.bits .and .u8 a0 15) : Int).toNat ((((Go.bits .and .u8 a0 15) + 1) % 256) : Int).toNat)).size + 1 ≤ 9223372036854775807
          ·rw [if_pos c12] at H
           have c12b0 := eq_true c12
           have c12b1 : decide ((((⟨#[92]⟩ : ByteArray) ++ ((⟨#[48, 49, 50, 51, 52, 53, 54, 55, 56, 57, 97, 98, 99, 100, 101, 102]⟩ : ByteArray).extract ((ji3) : Int).toNat ((((ji3) + 1) % 256) : Int).toNat)) ++ ((⟨#[48, 49, 50, 51, 52, 53, 54, 55, 56, 57, 97, 98, 99, 100, 101, 102]⟩ : ByteArray).extract ((Go.bits .and .u8 a0 15) : Int).toNat ((((Go.bits .and .u8 a0 15) + 1) % 256) : Int).toNat)).size + 1 ≤ 9223372036854775807) = true := decide_eq_true c12
           try have c12b2 : (9223372036854775807 < (((⟨#[92]⟩ : ByteArray) ++ ((⟨#[48, 49, 50, 51, 52, 53, 54, 55, 56, 57, 97, 98, 99, 100, 101, 102]⟩ : ByteArray).extract ((ji3) : Int).toNat ((((ji3) + 1) % 256) : Int).toNat)) ++ ((⟨#[48, 49, 50, 51, 52, 53, 54, 55, 56, 57, 97, 98, 99, 100, 101, 102]⟩ : ByteArray).extract ((Go.bits .and .u8 a0 15) : Int).toNat ((((Go.bits .and .u8 a0 15) + 1) % 256) : Int).toNat)).size + 1) = False := eq_false (Nat.not_lt.2 c12)
           obtain rfl := Option.some.inj H
           go_enter Tryz.func57, Tryz.ntmps57
           go_wp2
           go_ret
           exact ⟨by first | rfl | (simp; done) | (simp only [← hji3] <;> (first | rfl | simp)) | (simp [*]; done), drs_⟩
          ·rw [if_neg c12] at H
           exact absurd H (by simp)
         ·rw [if_neg c11] at H
          exact absurd H (by simp)
        ·rw [if_neg c10] at H
         exact absurd H (by simp)
       ·rw [if_neg c9] at H
        exact absurd H (by simp)
      ·rw [if_neg c8] at H
       exact absurd H (by simp)
     ·rw [if_neg c7] at H
      exact absurd H (by simp)
    ·rw [if_neg c6] at H
     exact absurd H (by simp)
   ·rw [if_neg c5] at H
    exact absurd H (by simp)
  ·rw [if_neg c4] at H
   exact absurd H (by simp)
 ·rw [if_neg c2] at H
  have c2b0 : decide (0 < (a0 / 16)) = false := decide_eq_false c2
  clear c2
  by_cases c13 : 0 ≤ (Go.bits .and .u8 a0 15)
  ·rw [if_pos c13] at H
   have c13b0 := eq_true c13
   have c13b1 : decide (0 ≤ (Go.bits .and .u8 a0 15)) = true := decide_eq_true c13
   clear c13
   by_cases c14 : (Go.bits .and .u8 a0 15) ≤ (((Go.bits .and .u8 a0 15) + 1) % 256)
   ·rw [if_pos c14] at H
    have c14b0 := eq_true c14
    have c14b1 : decide ((Go.bits .and .u8 a0 15) ≤ (((Go.bits .and .u8 a0 15) + 1) % 256)) = true := decide_eq_true c14
    by_cases c15 : (((Go.bits .and .u8 a0 15) + 1) % 256) ≤ 16
    ·rw [if_pos c15] at H
     have c15b0 := eq_true c15
     have c15b1 : decide ((((Go.bits .and .u8 a0 15) + 1) % 256) ≤ 16) = true := decide_eq_true c15
     by_cases c16 : 1 + ((⟨#[48, 49, 50, 51, 52, 53, 54, 55, 56, 57, 97, 98, 99, 100, 101, 102]⟩ : ByteArray).extract ((Go.bits .and .u8 a0 15) : Int).toNat ((((Go.bits .and .u8 a0 15) + 1) % 256) : Int).toNat).size ≤ 9223372036854775807
     ·rw [if_pos c16] at H
      have c16b0 := eq_true c16
      have c16b1 : decide (1 + ((⟨#[48, 49, 50, 51, 52, 53, 54, 55, 56, 57, 97, 98, 99, 100, 101, 102]⟩ : ByteArray).extract ((Go.bits .and .u8 a0 15) : Int).toNat ((((Go.bits .and .u8 a0 15) + 1) % 256) : Int).toNat).size ≤ 9223372036854775807) = true := decide_eq_true c16
      try have c16b2 : (9223372036854775807 < 1 + ((⟨#[48, 49, 50, 51, 52, 53, 54, 55, 56, 57, 97, 98, 99, 100, 101, 102]⟩ : ByteArray).extract ((Go.bits .and .u8 a0 15) : Int).toNat ((((Go.bits .and .u8 a0 15) + 1) % 256) : Int).toNat).size) = False := eq_false (Nat.not_lt.2 c16)
      by_cases c17 : ((⟨#[92]⟩ : ByteArray) ++ ((⟨#[48, 49, 50, 51, 52, 53, 54, 55, 56, 57, 97, 98, 99, 100, 101, 102]⟩ : ByteArray).extract ((Go.bits .and .u8 a0 15) : Int).toNat ((((Go.bits .and .u8 a0 15) + 1) % 256) : Int).toNat)).size + 1 ≤ 9223372036854775807
      ·rw [if_pos c17] at H
       have c17b0 := eq_true c17
       have c17b1 : decide (((⟨#[92]⟩ : ByteArray) ++ ((⟨#[48, 49, 50, 51, 52, 53, 54, 55, 56, 57, 97, 98, 99, 100, 101, 102]⟩ : ByteArray).extract ((Go.bits .and .u8 a0 15) : Int).toNat ((((Go.bits .and .u8 a0 15) + 1) % 256) : Int).toNat)).size + 1 ≤ 9223372036854775807) = true := decide_eq_true c17
       try have c17b2 : (9223372036854775807 < ((⟨#[92]⟩ : ByteArray) ++ ((⟨#[48, 49, 50, 51, 52, 53, 54, 55, 56, 57, 97, 98, 99, 100, 101, 102]⟩ : ByteArray).extract ((Go.bits .and .u8 a0 15) : Int).toNat ((((Go.bits .and .u8 a0 15) + 1) % 256) : Int).toNat)).size + 1) = False := eq_false (Nat.not_lt.2 c17)
       obtain rfl := Option.some.inj H
       go_enter Tryz.func57, Tryz.ntmps57
       go_wp2
       go_ret
       exact ⟨by first | rfl | (simp; done) | (simp [*]; done), drs_⟩
      ·rw [if_neg c17] at H
       exact absurd H (by simp)
     ·rw [if_neg c16] at H
      exact absurd H (by simp)
    ·rw [if_neg c15] at H
     exact absurd H (by simp)
   ·rw [if_neg c14] at H
    exact absurd H (by simp)
  ·rw [if_neg c13] at H
   exact absurd H (by simp)

/-! ### ident_Quote: function 30 -/
def ident_Quote.sub (s : ByteArray) (i : Int) : ByteArray := s.extract i.toNat (wrap64 (i + 1)).toNat
def ident_Quote.one (s : ByteArray) (i : Int) : Option ByteArray :=
 (ident_control.f (bt s i)).bind fun t3 => (ident_escaped.f (bt s i)).bind fun t4 =>
  some (if t3 = true then t4 else if bt s i = 34 then (⟨#[92]⟩ : ByteArray) ++ ident_Quote.sub s i else if bt s i = 92 then (⟨#[92]⟩ : ByteArray) ++ ident_Quote.sub s i else ident_Quote.sub s i)

/-- The pieces of the first bytes, one behind the other. -/
def ident_Quote.cat (s : ByteArray) : Nat → Option (List UInt8)
 | 0 => some []
 | n + 1 => (ident_Quote.cat s n).bind fun l => (ident_Quote.one s n).bind fun r => if r.size ≤ 8 then some (l ++ r.data.toList) else none
theorem ident_Quote.cat_lt (s : ByteArray) : ∀ {n : Nat} {l : List UInt8}, ident_Quote.cat s n = some l → ∀ {i : Nat}, i < n → ∃ c r, ident_Quote.cat s i = some c ∧ ident_Quote.one s i = some r ∧ r.size ≤ 8 ∧ ident_Quote.cat s (i + 1) = some (c ++ r.data.toList)
 | 0, _, _, _, h => absurd h (Nat.not_lt_zero _)
 | n + 1, l, h, i, hi => by
  simp only [ident_Quote.cat] at h
  obtain ⟨c, h1, h⟩ := Option.bind_eq_some_iff.1 h
  obtain ⟨r, h2, h⟩ := Option.bind_eq_some_iff.1 h
  by_cases h3 : r.size ≤ 8
  ·rw [if_pos h3] at h
   rcases Nat.lt_or_ge i n with h4 | h4
   ·exact ident_Quote.cat_lt s h1 h4
   ·obtain rfl : i = n := by omega
    refine ⟨c, r, h1, h2, h3, ?_⟩
    show (ident_Quote.cat s i).bind _ = _
    rw [h1]
    show (ident_Quote.one s i).bind _ = _
    rw [h2]
    exact if_pos h3
  ·rw [if_neg h3] at h
   cases h
theorem ident_Quote.cat_len (s : ByteArray) : ∀ (n : Nat) (l : List UInt8), ident_Quote.cat s n = some l → l.length ≤ n * 8
 | 0, l, h => by
  obtain rfl := Option.some.inj h
  simp
 | n + 1, l, h => by
  simp only [ident_Quote.cat] at h
  obtain ⟨c, h1, h⟩ := Option.bind_eq_some_iff.1 h
  obtain ⟨r, h2, h⟩ := Option.bind_eq_some_iff.1 h
  by_cases h3 : r.size ≤ 8
  ·rw [if_pos h3] at h
   obtain rfl := Option.some.inj h
   have := ident_Quote.cat_len s n c h1
   have h5 : r.data.toList.length = r.size := by simp
   rw [List.length_append, h5]
   omega
  ·rw [if_neg h3] at h
   cases h

set_option maxHeartbeats 8000000 in
set_option maxRecDepth 100000 in
theorem ident_Quote.one_calls (cb : Nat) (i : Int) (s : ByteArray) (r : ByteArray) (w : World) (hi0 : 0 ≤ i) (hi1 : i < (s.size : Int)) (hc : w.cell? ⟨cb, 0, none⟩ = some (.string s)) (hs : s.size ≤ 1000000) (h : ident_Quote.one s i = some r) :
  Calls Tryz.prog 55 #[.int .i64 i, .int .u8 (bt s i), .pointer (some ⟨cb, 0, none⟩)] w fun e w' => e = .returned (.string r) ∧ Drawn0 w w' := by
 obtain ⟨t3, ht3, h⟩ := Option.bind_eq_some_iff.1 h
 obtain ⟨t4, ht4, h⟩ := Option.bind_eq_some_iff.1 h
 replace h := Option.some.inj h
 have T3 := Aside0.mk ht3
 have T4 := Aside0.mk ht4
 clear ht3 ht4
 have hw1 : wrap64 (i + 1) = i + 1 := by unfold wrap64; omega
 have q0 : (0 ≤ i) = True := eq_true hi0
 have q2 : (i ≤ wrap64 (i + 1)) = True := eq_true (by omega)
 have q3 : (wrap64 (i + 1) ≤ (s.size : Int)) = True := eq_true (by omega)
 have q2b : decide (i ≤ wrap64 (i + 1)) = true := decide_eq_true (by omega)
 have q3b : decide (wrap64 (i + 1) ≤ (s.size : Int)) = true := decide_eq_true (by omega)
 have q0b : decide (0 ≤ i) = true := decide_eq_true hi0
 have qs3 : (9223372036854775807 < 1 + ((wrap64 (i + 1)).toNat - i.toNat)) = False := eq_false (by rw [hw1]; omega)
 have hD : (∃ b3 b4 : Bool, (bt s i == 34) = b3 ∧ (bt s i == 92) = b4) := ⟨_, _, rfl, rfl⟩
 obtain ⟨b3, b4, p3, p4⟩ := hD
 have h' : r = (if t3 = true then t4 else if b3 = true then (⟨#[92]⟩ : ByteArray) ++ ident_Quote.sub s i else if b4 = true then (⟨#[92]⟩ : ByteArray) ++ ident_Quote.sub s i else ident_Quote.sub s i) := by
  rw [← h]
  simp only [← p3, ← p4, beq_iff_eq]
 unfold ident_Quote.sub at h'
 clear h hw1 hi0 hi1 hs
 cases t3 <;> cases b3 <;> cases b4
 all_goals
  simp at h'
  subst h'
  go_enter Tryz.func55, Tryz.ntmps55
  go_wp2_with (first
   | (go_at_call 56; refine (ident_control.calls _ _ _ T3.out).mono ?_; rintro e w5 ⟨rfl, ⟨nd3, rfl⟩⟩)
   | (go_at_call 57; refine (ident_escaped.calls _ _ _ T4.out).mono ?_; rintro e w5 ⟨rfl, ⟨nd4, rfl⟩⟩))
  go_ret
  exact ⟨rfl, drs_⟩

theorem ident_Quote.isB {T e : TypeId} {B b : Nat} {l : List Value} {w : World} (h : Lib.IsBuilder T e B b l w) (n : Nat) : Lib.IsBuilder T e B b l (w.drewN n) := h
theorem ident_Quote.belowN {B : Nat} {a w : World} (h : Below B a w) (n : Nat) : Below B a (w.drewN n) := h.trans ⟨rfl, rfl, rfl, Nat.le_refl _, fun _ _ => rfl⟩
theorem ident_Quote.built {T e : TypeId} {B b : Nat} {l : List UInt8} {r : ByteArray} {w : World} (h : Lib.BuilderAt T e B b (.pointer (some ⟨b, 0, none⟩)) (Lib.byteCells l ++ Lib.strCells r) w) : Lib.IsBuilder T e B b (Lib.byteCells (l ++ r.data.toList)) w := Or.inr (by
 unfold Lib.byteCells Lib.strCells at *
 rw [List.map_append]
 exact h)
theorem ident_Quote.short {c : List UInt8} {r s : ByteArray} {i : Nat} (h1 : c.length ≤ i * 8) (h2 : r.size ≤ 8) (h3 : s.size ≤ 1000000) (h4 : (i : Int) < (s.size : Int)) : (Lib.byteCells c).length + r.size ≤ 140737488355328 := by
 unfold Lib.byteCells
 rw [List.length_map]
 omega
theorem ident_Quote.next {i : Nat} {s : ByteArray} (h1 : (i : Int) < (s.size : Int)) (hs : s.size ≤ 1000000) : wrap64 ((i : Int) + 1) = ((i + 1 : Nat) : Int) := by
 unfold wrap64
 omega
theorem ident_Quote.less {i : Nat} {s : ByteArray} (h1 : (i : Int) < (s.size : Int)) (hw : wrap64 ((i : Int) + 1) = ((i + 1 : Nat) : Int)) : s.size - (intOf (.int .i64 (wrap64 ((i : Int) + 1)))).toNat < s.size - (intOf (.int .i64 (i : Int))).toNat := by
 rw [hw]
 show s.size - (((i + 1 : Nat) : Int)).toNat < s.size - ((i : Int)).toNat
 rw [Int.toNat_natCast, Int.toNat_natCast]
 clear hw
 omega
theorem ident_Quote.small {i : Int} {s : ByteArray} (h0 : 0 ≤ i) (h1 : i < (s.size : Int)) (hs : s.size ≤ 1000000) : wrap64 (i + 1) = i + 1 := by unfold wrap64; omega

set_option maxHeartbeats 4000000 in
set_option maxRecDepth 100000 in
theorem ident_Quote.each_calls (cb : Nat) (s : ByteArray) (l : List UInt8) (w : World) (hc : w.cell? ⟨cb, 0, none⟩ = some (.string s)) (hs : s.size ≤ 1000000) (hl : ident_Quote.cat s s.size = some l) :
  Calls Tryz.prog 54 #[.string s, .func (.func 55) #[] #[.pointer (some ⟨cb, 0, none⟩)]] w fun e w' => e = .returned (.string ⟨l.toArray⟩) ∧ Below w.heap.size w w' := by
 have hcl := World.block_lt_of_cell? w _ hc
 have HC := Aside0.mk hc
 have HL := Aside0.mk hl
 have HS := Aside0.mk hs
 clear hc hl hs
 go_enter Tryz.func54, Tryz.ntmps54
 go_wp2
 go_loopw [9] (fun v9 wr => ∃ (i : Nat) (c : List UInt8), i ≤ s.size ∧ v9 = .int .i64 i ∧ Aside0 (ident_Quote.cat s i = some c) ∧ Aside0 (Lib.IsBuilder 81 5 w.heap.size w.heap.size (Lib.byteCells c) wr) ∧ Aside0 (Below w.heap.size w wr))
  (fun v9 _ => s.size - (intOf v9).toNat)
 case atStart => exact ⟨0, [], Nat.zero_le _, rfl, ⟨rfl⟩, ⟨Lib.fresh_isBuilder _ _ w⟩, ⟨(Below.refl _ _).alloc (Nat.le_refl _) _⟩⟩
 case round =>
  obtain ⟨i, c, hi, rfl, HK, HB, HW⟩ := hrel
  by_cases hlt : i < s.size
  ·have q0 : (0 ≤ (i : Int)) = True := eq_true (by omega)
   have q1 : ((i : Int) < (s.size : Int)) = True := eq_true (by omega)
   have q2 : decide ((i : Int) < (s.size : Int)) = true := decide_eq_true (by omega)
   have q3 : decide (i < s.size) = true := decide_eq_true hlt
   have hx : ∀ h : i < s.size, ((s[i].toNat : Nat) : Int) = bt s i := fun h => bt_at s i h
   have q4 : (i < s.size) = True := eq_true hlt
   obtain ⟨c', r, h1, h2, h3, h4⟩ := ident_Quote.cat_lt s HL.out hlt
   obtain rfl := Option.some.inj (HK.out.symm.trans h1)
   have HN := Aside0.mk h4
   have HO := Aside0.mk h2
   have HR := Aside0.mk h3
   have hcw := (HW.out.cell hcl).trans HC.out
   have HCW := Aside0.mk hcw
   have HLEN := Aside0.mk (ident_Quote.short (ident_Quote.cat_len s i c HK.out) HR.out HS.out (q1.mpr trivial))
   have H0 := Aside0.mk (q0.mpr trivial)
   have H1 := Aside0.mk (q1.mpr trivial)
   have HSW := Aside0.mk HW.out.size
   clear h1 h2 h3 h4 hcw hlt hi
   go_wp2_with (first
    | (go_at_call 55; refine (ident_Quote.one_calls cb i s r _ H0.out H1.out HCW.out HS.out HO.out).mono ?_; rintro e w5 ⟨rfl, ⟨nd, rfl⟩⟩)
    | (go_at_call 59; refine (Giv.writeString_calls w.heap.size w.heap.size (Lib.byteCells c) r _ ?g1 HLEN.out ?g2).mono ?_; (case g1 => repeat (first | (with_reducible exact HB.out) | (with_reducible apply ident_Quote.isB))); (case g2 => exact HSW.out); rintro e w6 ⟨rfl, hb6, hbe6⟩; have HW6 := Aside0.mk (Below.trans (by repeat (first | (with_reducible exact HW.out) | (with_reducible apply ident_Quote.belowN))) hbe6); clear hbe6))
   have HWR := Aside0.mk (ident_Quote.next H1.out HS.out)
   go_roundw
   case rel => exact ⟨i + 1, c ++ r.data.toList, by have := H1.out; omega, by rw [HWR.out], HN, ⟨ident_Quote.built hb6⟩, HW6⟩
   case measure => exact ident_Quote.less H1.out HWR.out
  ·have hie : i = s.size := by omega
   subst hie
   have q2 : decide ((s.size : Int) < (s.size : Int)) = false := decide_eq_false (by omega)
   have q3 : decide (s.size < s.size) = false := decide_eq_false (by omega)
   obtain rfl := Option.some.inj (HK.out.symm.trans HL.out)
   have HSW := Aside0.mk HW.out.size
   clear hlt
   go_wp2_with (first
    | (go_at_call 60; refine (Tryz.Builder_String_any w.heap.size w.heap.size c _ HB.out HSW.out).mono ?_; rintro e w6 ⟨rfl, hb6⟩))
   go_ret
   exact ⟨rfl, HW.out.trans hb6⟩

theorem ident_Quote.boxed (w : World) (s : ByteArray) (T : TypeId) : (w.alloc (.cells #[.string s] T)).cell? ⟨w.heap.size, 0, none⟩ = some (.string s) := by
 simp
theorem ident_Quote.cellN {w : World} {p : Addr} {v : Value} (h : w.cell? p = some v) (n : Nat) : (w.drewN n).cell? p = some v := h
theorem ident_Quote.belowA (w : World) (o : Obj) : Below w.heap.size w (w.alloc o) := below_alloc (Below.refl _ _) _

def ident_Quote.f (s : ByteArray) : Option ByteArray := if (s.size : Int) > 8192 then some ⟨#[]⟩ else (strings_IndexByte.f s 0).bind fun t => if t ≥ 0 then some ⟨#[]⟩ else (ident_Quote.cat s s.size).bind fun l => some (((⟨#[34]⟩ : ByteArray) ++ ⟨l.toArray⟩) ++ (⟨#[34]⟩ : ByteArray))
set_option maxHeartbeats 2000000 in
set_option maxRecDepth 100000 in
theorem ident_Quote.calls (s : ByteArray) (r : ByteArray) (w : World) (h : ident_Quote.f s = some r) :
  Calls Tryz.prog 30 #[.string s] w fun e w' => e = .returned (.string r) ∧ Below w.heap.size w w' := by
 unfold ident_Quote.f at h
 by_cases hs : (s.size : Int) > 8192
 ·rw [if_pos hs] at h
  obtain rfl := Option.some.inj h
  have q1 : decide (8192 < (s.size : Int)) = true := decide_eq_true hs
  have q2 : decide (8192 < s.size) = true := decide_eq_true (by omega)
  clear hs
  go_enter Tryz.func30, Tryz.ntmps30
  go_wp2
  go_ret
  exact ⟨rfl, by repeat (first | (with_reducible exact ident_Quote.belowA _ _) | (with_reducible apply ident_Quote.belowN))⟩
 ·rw [if_neg hs] at h
  obtain ⟨t, ht, h⟩ := Option.bind_eq_some_iff.1 h
  have q1 : decide (8192 < (s.size : Int)) = false := decide_eq_false hs
  have q2 : decide (8192 < s.size) = false := decide_eq_false (by omega)
  have HS : Aside0 (s.size ≤ 1000000) := ⟨by omega⟩
  have HS2 : Aside0 (s.size ≤ 8192) := ⟨by omega⟩
  have HT := Aside0.mk ht
  clear ht hs
  by_cases h0 : t ≥ 0
  ·rw [if_pos h0] at h
   obtain rfl := Option.some.inj h
   have q3 : decide (0 ≤ t) = true := decide_eq_true h0
   clear h0
   go_enter Tryz.func30, Tryz.ntmps30
   go_wp2_with (first
    | (go_at_call 53; refine (strings_IndexByte.calls s 0 t _ HT.out).mono ?_; rintro e w5 ⟨rfl, ⟨nd, rfl⟩⟩))
   go_ret
   exact ⟨rfl, by repeat (first | (with_reducible exact ident_Quote.belowA _ _) | (with_reducible apply ident_Quote.belowN))⟩
  ·rw [if_neg h0] at h
   have q3 : decide (0 ≤ t) = false := decide_eq_false h0
   clear h0
   obtain ⟨l, hl, h⟩ := Option.bind_eq_some_iff.1 h
   obtain rfl := Option.some.inj h
   have HL := Aside0.mk hl
   have hz : l.length ≤ 80000 := by
    have := ident_Quote.cat_len s _ _ hl
    have := HS2.out
    omega
   have f1 : (9223372036854775807 < 1 + (⟨l.toArray⟩ : ByteArray).size) = False := eq_false (by show ¬ (9223372036854775807 < 1 + l.toArray.size); rw [List.size_toArray]; omega)
   have f2 : (9223372036854775807 < ((⟨#[34]⟩ : ByteArray) ++ (⟨l.toArray⟩ : ByteArray)).size + 1) = False := eq_false (by rw [ByteArray.size_append]; show ¬ (9223372036854775807 < 1 + l.toArray.size + 1); rw [List.size_toArray]; omega)
   have f3 : (9223372036854775807 < 1 + l.length) = False := eq_false (by omega)
   have f4 : (9223372036854775807 < 1 + l.length + 1) = False := eq_false (by omega)
   have f5 : (9223372036854775807 < 1 + (⟨l.toArray⟩ : ByteArray).size + 1) = False := eq_false (by show ¬ (9223372036854775807 < 1 + l.toArray.size + 1); rw [List.size_toArray]; omega)
   clear hl h hz
   go_enter Tryz.func30, Tryz.ntmps30
   go_wp2_with (first
    | (go_at_call 53; refine (strings_IndexByte.calls s 0 t _ HT.out).mono ?_; rintro e w5 ⟨rfl, ⟨nd, rfl⟩⟩)
    | (go_at_call 54; refine (ident_Quote.each_calls w.heap.size s l _ ?g1 HS.out HL.out).mono ?_; (case g1 => repeat (first | (with_reducible exact ident_Quote.boxed _ _ _) | (with_reducible apply ident_Quote.cellN))); rintro e w6 ⟨rfl, hb6⟩; have HW6 := Aside0.mk (below_step (by repeat (first | (with_reducible exact ident_Quote.belowA _ _) | (with_reducible apply ident_Quote.belowN))) hb6); clear hb6))
   go_ret
   exact ⟨rfl, by repeat (first | (with_reducible exact HW6.out) | (with_reducible apply ident_Quote.belowN))⟩

end Go.Proofs.YtofdhdafabmhmaaGreatDoor.PAr
end
section
namespace Go.Proofs.YtofdhdafabmhmaaGreatDoor.PAr
open Go.RowKit Go.Proofs.YtofdhdafabmhmaaGreatDoorW.PrintWords Go.Proofs.YtofdhdafabmhmaaGreatDoorW.PrintLast Go.Proofs.YtofdhdafabmhmaaGreatDoorW.PrintMore
attribute [local go_sem] max2_int min2_int max_two min_two max_three min_three max_four min_four
open Go.Proofs.YtofdhdafabmhmaaGreatDoor.Opn Go.Proofs.YtofdhdafabmhmaaGreatDoor.Giv

/-! ### area_Text: function 11 -/
mutual
def area_Text.l0 : Nat → List ByteArray → List (List ByteArray) → Int → Int → Option (ByteArray)
 | 0, _, _, _, _ => none
 | k + 1, x3, x17, x18, x19 => if x19 < x18 then (if 0 ≤ x19 then (if x19 < (x17.length : Int) then (area_Text.l1 k x3 ([] : List ByteArray) x17 x18 x19 (rd_L1 x17 x19) ((rd_L1 x17 x19).length : Int) 0) else (none)) else (none)) else ((strings_Join.f x3 (⟨#[32]⟩ : ByteArray)).bind fun t304 => (some t304))
def area_Text.l1 : Nat → List ByteArray → List ByteArray → List (List ByteArray) → Int → Int → List ByteArray → Int → Int → Option (ByteArray)
 | 0, _, _, _, _, _, _, _, _ => none
 | k + 1, x3, x6, x17, x18, x19, x23, x24, x25 => if x25 < x24 then (if 0 ≤ x25 then (if x25 < (x23.length : Int) then (if (rdOf ByteArray.empty x23 x25).toList = ([] : List UInt8) then (if x6.length < 8796093022208 then (area_Text.l1 k x3 (x6 ++ [(⟨#[46]⟩ : ByteArray)]) x17 x18 x19 x23 x24 (wrap64 (x25 + 1))) else (none)) else (if x6.length < 8796093022208 then (area_Text.l1 k x3 (x6 ++ [rdOf ByteArray.empty x23 x25]) x17 x18 x19 x23 x24 (wrap64 (x25 + 1))) else (none))) else (none)) else (none)) else ((strings_Join.f x6 (⟨#[32]⟩ : ByteArray)).bind fun t313 => ((ident_Quote.f t313).bind fun t314 => (if x3.length < 8796093022208 then (area_Text.l0 k (x3 ++ [t314]) x17 x18 (wrap64 (x19 + 1))) else (none))))
end
def area_Text.f (k : Nat) (l0 : List (List ByteArray)) : Option (ByteArray) := if (l0.length : Int) = 0 then (some (⟨#[110, 111, 110, 101]⟩ : ByteArray)) else ((area_Good.f k l0).bind fun t303 => (if t303 = true then (area_Text.l0 k ([] : List ByteArray) l0 (l0.length : Int) 0) else (some (⟨#[]⟩ : ByteArray))))
theorem area_Text.mono_l : ∀ k, (∀ y0 y1 y2 y3, LeO (area_Text.l0 k y0 y1 y2 y3) (area_Text.l0 (k + 1) y0 y1 y2 y3)) ∧ (∀ y0 y1 y2 y3 y4 y5 y6 y7, LeO (area_Text.l1 k y0 y1 y2 y3 y4 y5 y6 y7) (area_Text.l1 (k + 1) y0 y1 y2 y3 y4 y5 y6 y7))
 | 0 => ⟨fun _ _ _ _ r h => by simp [area_Text.l0] at h, fun _ _ _ _ _ _ _ _ r h => by simp [area_Text.l1] at h⟩
 | k + 1 => by
  obtain ⟨ih0, ih1⟩ := area_Text.mono_l k
  refine ⟨?_, ?_⟩
  ·intro y0 y1 y2 y3
   unfold area_Text.l0
   repeat' first
   | (with_reducible exact ih0 _ _ _ _)
   | (with_reducible exact ih1 _ _ _ _ _ _ _ _)
   | (with_reducible exact area_Good.mono _ _)
   | (with_reducible exact LeO.refl _)
   | (with_reducible exact LeO.none _)
   | (with_reducible refine LeO.ite ?_ ?_)
   | (with_reducible refine LeO.bind ?_ (fun _ => ?_))
  ·intro y0 y1 y2 y3 y4 y5 y6 y7
   unfold area_Text.l1
   repeat' first
   | (with_reducible exact ih0 _ _ _ _)
   | (with_reducible exact ih1 _ _ _ _ _ _ _ _)
   | (with_reducible exact area_Good.mono _ _)
   | (with_reducible exact LeO.refl _)
   | (with_reducible exact LeO.none _)
   | (with_reducible refine LeO.ite ?_ ?_)
   | (with_reducible refine LeO.bind ?_ (fun _ => ?_))
theorem area_Text.mono : ∀ a0 k, LeO (area_Text.f k a0) (area_Text.f (k + 1) a0) := by
 intro a0 k
 obtain ⟨ih0, ih1⟩ := area_Text.mono_l k
 unfold area_Text.f
 repeat' first
   | (with_reducible exact ih0 _ _ _ _)
   | (with_reducible exact ih1 _ _ _ _ _ _ _ _)
   | (with_reducible exact area_Good.mono _ _)
   | (with_reducible exact LeO.refl _)
   | (with_reducible exact LeO.none _)
   | (with_reducible refine LeO.ite ?_ ?_)
   | (with_reducible refine LeO.bind ?_ (fun _ => ?_))
set_option maxHeartbeats 8000000 in
set_option maxRecDepth 100000 in
theorem area_Text.calls (k : Nat) (A0 : Option Addr) (c0 : Nat) (l0 : List (List ByteArray)) (r : ByteArray) (w : World) (hr0 : Kd.C (Kd.slice 9 Kd.string) w A0 l0.length l0) (hc0 : l0.length ≤ c0) (h : area_Text.f k l0 = some r) :
  Calls Tryz.prog 11 #[.slice A0 l0.length c0] w fun e w' => e = .returned (.string r) ∧ Below w.heap.size w w' := by
 have HR0 := Aside0.mk hr0
 have HC0 := Aside0.mk hc0
 clear hr0 hc0
 have HB := Aside0.mk (Below.refl w.heap.size w)
 have H : (if (l0.length : Int) = 0 then (some (⟨#[110, 111, 110, 101]⟩ : ByteArray)) else ((area_Good.f k l0).bind fun t303 => (if t303 = true then (area_Text.l0 k ([] : List ByteArray) l0 (l0.length : Int) 0) else (some (⟨#[]⟩ : ByteArray))))) = some r := h
 clear h
 by_cases c2 : (l0.length : Int) = 0
 ·rw [if_pos c2] at H
  have c2b0 : ((l0.length : Int) == 0) = true := beq_iff_eq.mpr c2
  have c2b1 : ((l0.length : Int) != 0) = false := bne_eq_false_iff_eq.mpr c2
  clear c2
  obtain rfl := Option.some.inj H
  go_enter Tryz.func11, Tryz.ntmps11
  go_wp2
  go_ret
  exact ⟨rsl_, bel_⟩
 ·rw [if_neg c2] at H
  have c2b0 : ((l0.length : Int) == 0) = false := beq_eq_false_iff_ne.mpr c2
  have c2b1 : ((l0.length : Int) != 0) = true := bne_iff_ne.mpr c2
  have c2b2 : ¬ (l0 = []) := fun h_ => c2 (by rw [h_]; rfl)
  replace H := Option.bind_eq_some_iff.mp H
  obtain ⟨t303, A30, H⟩ := H
  try dsimp only at H
  have A3 := Aside0.mk A30
  clear A30
  by_cases c4 : t303 = true
  ·subst c4
   rw [if_pos rfl] at H
   have H' := Aside0.mk H
   clear H
   go_enter Tryz.func11, Tryz.ntmps11
   go_wp2_with (first | ((with_reducible refine gate_callee (f := 9) rfl ?_); refine goesL_ (some 15) rfl rfl Tryz.func9 (by kernel_rfl) rfl #[.slice A0 l0.length c0] rfl goa_ ?_; (with_reducible refine (area_Good.calls k _ _ l0 true _ ?side1 ?side2 A3.out).mono ?_); (case side1 => repeat (first | exact HR0.out | (with_reducible refine Kd.C_alloc ?_ _) | (with_reducible refine Kd.C_drewN ?_ _) | (with_reducible refine Kd.C_drew ?_))); (case side2 => exact HC0.out); rintro e w5 ⟨rfl, hb⟩; refine ⟨_, rfl, ?_⟩; have n0_ := Aside0.mk (below_step bel_ hb); clear HB; have HB := n0_; clear n0_; clear hb))
   go_loopg [3, 19] k (fun kq v3 v19 w' => ∃ (x3_1 : List ByteArray) (x19_1 : Int), v19 = .int .i64 x19_1 ∧ Aside0 (area_Text.l0 kq x3_1 l0 (l0.length : Int) x19_1 = some r) ∧ Aside0 (kq ≤ k) ∧ Aside0 (Kd.R Kd.string 9 w' w.heap.size (fun _ => True) v3 x3_1) ∧ Aside0 (Below w.heap.size w w'))
   case atStart => exact ⟨(([] : List ByteArray)), (0), rfs_, H', ⟨Nat.le_refl _⟩, ⟨by first | exact Kd.R_nil _ _ _ _ _ | exact Kd.N_nil _ _ _ _ _ | exact Kd.V_nil _ _ _ _ _ | exact Kd.Q_nil _ _ _ _ _ | exact Kd.S_nil _ _ _ _ _⟩, ⟨bel_⟩⟩
   case round =>
    clear H'
    try clear c2
    try clear c2b0
    try clear c2b1
    try clear c2b2
    try clear c4
    obtain ⟨x3_1, x19_1, rfl, HA, HK1, HO_3, HB⟩ := hrel
    cases gk with
    | zero => exact absurd HA.out (by simp [area_Text.l0])
    | succ k1 =>
     have H := HA.out
     clear HA
     simp only [area_Text.l0] at H
     by_cases c6 : x19_1 < (l0.length : Int)
     ·rw [if_pos c6] at H
      have c6b0 : decide (x19_1 < (l0.length : Int)) = true := decide_eq_true c6
      clear c6
      by_cases c7 : 0 ≤ x19_1
      ·rw [if_pos c7] at H
       have c7b0 : decide (0 ≤ x19_1) = true := decide_eq_true c7
       clear c7
       by_cases c8 : x19_1 < (l0.length : Int)
       ·rw [if_pos c8] at H
        have c8b0 : decide (x19_1 < (l0.length : Int)) = true := decide_eq_true c8
        clear c8
        have H' := Aside0.mk H
        clear H
        have p305 : 0 ≤ (x19_1 : Int) := of_decide_eq_true (by first | (with_reducible assumption) | assumption)
        have q305 : x19_1 < (l0.length : Int) := of_decide_eq_true (by first | (with_reducible assumption) | assumption)
        obtain ⟨ad305, A305_0, c305_0, e305, hx305_0, hl305_0, hi305_0⟩ := at_L1 HR0.out x19_1 p305 q305
        cases e305
        replace hx305_0 := (HB.out.cell (World.block_lt_of_cell? w _ hx305_0)).trans hx305_0
        have HR305_0 := Aside0.mk hi305_0
        have HC305_0 := Aside0.mk hl305_0
        clear hi305_0 hl305_0
        replace p305 := eq_true p305
        replace q305 := eq_true q305
        go_wp2
        go_loopg [6, 25] k1 (fun kq v6 v25 w' => ∃ (x6_2 : List ByteArray) (x25_2 : Int), v25 = .int .i64 x25_2 ∧ Aside0 (area_Text.l1 kq x3_1 x6_2 l0 (l0.length : Int) x19_1 (rd_L1 l0 x19_1) ((rd_L1 l0 x19_1).length : Int) x25_2 = some r) ∧ Aside0 (kq ≤ k1) ∧ Aside0 (Kd.R Kd.string 9 w' w.heap.size (fun k_ => some k_ ≠ (v6 : Value).ownBlock) u3 x3_1) ∧ Aside0 (Kd.R Kd.string 9 w' w.heap.size (fun k_ => some k_ ≠ (u3 : Value).ownBlock) v6 x6_2) ∧ Aside0 (Below w.heap.size w w'))
        case atStart => exact ⟨(([] : List ByteArray)), (0), rfs_, H', ⟨Nat.le_refl _⟩, ⟨by (with_reducible repeat (first | apply Kd.R_alloc | apply Kd.R_drewN | apply Kd.R_drew)); exact Kd.R_mono HO_3.out (fun _ hk => (by simp [Value.ownBlock]))⟩, ⟨by first | exact Kd.R_nil _ _ _ _ _ | exact Kd.N_nil _ _ _ _ _ | exact Kd.V_nil _ _ _ _ _ | exact Kd.Q_nil _ _ _ _ _ | exact Kd.S_nil _ _ _ _ _⟩, ⟨bel_⟩⟩
        case round =>
         clear H'
         try clear c6b0
         try clear c7b0
         try clear c8b0
         try clear hx305_0
         try clear p305
         try clear q305
         obtain ⟨x6_2, x25_2, rfl, HA, HK2, HO_3, HO_6, HB⟩ := hrel
         cases gk with
         | zero => exact absurd HA.out (by simp [area_Text.l1])
         | succ k2 =>
          have H := HA.out
          clear HA
          simp only [area_Text.l1] at H
          by_cases c9 : x25_2 < ((rd_L1 l0 x19_1).length : Int)
          ·rw [if_pos c9] at H
           have c9b0 : decide (x25_2 < ((rd_L1 l0 x19_1).length : Int)) = true := decide_eq_true c9
           clear c9
           by_cases c10 : 0 ≤ x25_2
           ·rw [if_pos c10] at H
            have c10b0 : decide (0 ≤ x25_2) = true := decide_eq_true c10
            clear c10
            by_cases c11 : x25_2 < ((rd_L1 l0 x19_1).length : Int)
            ·rw [if_pos c11] at H
             have c11b0 : decide (x25_2 < ((rd_L1 l0 x19_1).length : Int)) = true := decide_eq_true c11
             clear c11
             by_cases c12 : (rdOf ByteArray.empty (rd_L1 l0 x19_1) x25_2).toList = ([] : List UInt8)
             ·rw [if_pos c12] at H
              have c12b0 : ((rdOf ByteArray.empty (rd_L1 l0 x19_1) x25_2).toList == ([] : List UInt8)) = true := beq_iff_eq.mpr c12
              have c12b1 : ((rdOf ByteArray.empty (rd_L1 l0 x19_1) x25_2).toList != ([] : List UInt8)) = false := bne_eq_false_iff_eq.mpr c12
              clear c12
              by_cases c13 : x6_2.length < 8796093022208
              ·rw [if_pos c13] at H
               have LMc13 := Aside0.mk c13
               clear c13
               obtain ⟨y307, hy307⟩ : ∃ y_ : List ByteArray, y_ = (x6_2 ++ [(⟨#[46]⟩ : ByteArray)]) := ⟨_, rfl⟩
               replace H : (area_Text.l1 k2 x3_1 y307 l0 (l0.length : Int) x19_1 (rd_L1 l0 x19_1) ((rd_L1 l0 x19_1).length : Int) (wrap64 (x25_2 + 1))) = some r := by first | (rw [hy307]; with_reducible exact H) | (have H2_ := (Option.bind_some _ _).symm.trans H; rw [hy307]; with_reducible exact H2_) | (have H2_ := (Option.bind_some _ _).symm.trans H; with_reducible exact H2_) | with_reducible exact H | (rw [hy307]; exact H) | exact H
               have Ny307 := Aside0.mk hy307
               clear hy307
               have H' := Aside0.mk H
               clear H
               have p306 : 0 ≤ (x25_2 : Int) := of_decide_eq_true (by first | (with_reducible assumption) | assumption)
               have q306 : x25_2 < ((rd_L1 l0 x19_1).length : Int) := of_decide_eq_true (by first | (with_reducible assumption) | assumption)
               obtain ⟨ad306, e306, hx306_0⟩ := Kd.at_string HR305_0.out x25_2 p306 q306
               cases e306
               replace hx306_0 := (HB.out.cell (World.block_lt_of_cell? w _ hx306_0)).trans hx306_0
               replace p306 := eq_true p306
               replace q306 := eq_true q306
               go_wp2_with (first | ((with_reducible refine gate_builtin (b := .append) (xs := #[.tmp 31, .tmp 33]) rfl ?_); at_builtin; refine Kd.R_append Kd.string (w0 := w) w.heap.size rfl (.tmp 31) (.tmp 33) 37 9 (.string ⟨#[]⟩) 16 rfl Tryz.underlying37 info9 rfl (by decide) (by omega) u6 x6_2 (⟨#[46]⟩ : ByteArray) [.string (⟨#[46]⟩ : ByteArray)] (fun k_ => some k_ ≠ (u3 : Value).ownBlock) (fun _ => False) rfl rfl ?aP (fun _ hk => hk.elim) ?aF ?aO ?aB ?aS ?aL ?_; (case aP => exact rfl); (case aB => exact bel_); (case aF => exact (fun k_ hk => Kd.fresh' (Kd.R_lt (by (with_reducible repeat (first | apply Kd.R_alloc | apply Kd.R_drewN | apply Kd.R_drew)); exact HO_3.out)) k_ hk)); (case aO => exact (by (with_reducible repeat (first | apply Kd.R_alloc | apply Kd.R_drewN | apply Kd.R_drew)); exact HO_6.out)); (case aS => exact (below_size bel_)); (case aL => have := LMc13.out; omega); intro v308 w14 ho hb hg hat; rw [← Ny307.out] at ho; have n0_ := Aside0.mk (Kd.R_after (ok := (fun _ => True)) (by (with_reducible repeat (first | apply Kd.R_alloc | apply Kd.R_drewN | apply Kd.R_drew)); exact Kd.R_mono HO_3.out (fun _ hk => ⟨trivial, hk⟩)) hg hat); have n1_ := Aside0.mk (hb); have n2_ := Aside0.mk (ho); clear HO_3; clear HB; clear HO_6; have HO_3 := n0_; have HB := n1_; have HO309 := n2_; clear n0_ n1_ n2_; clear ho hb hg hat))
               go_roundg k2
               case measure => have := HK1.out; have := HK2.out; omega
               case rel => exact ⟨(y307), (wrap64 (x25_2 + 1)), rfs_, H', ⟨by have := HK1.out; have := HK2.out; omega⟩, ⟨by (with_reducible repeat (first | apply Kd.R_alloc | apply Kd.R_drewN | apply Kd.R_drew)); exact Kd.R_mono HO_3.out (fun _ hk => hk.2)⟩, ⟨by (with_reducible repeat (first | apply Kd.R_alloc | apply Kd.R_drewN | apply Kd.R_drew)); exact HO309.out⟩, ⟨bel_⟩⟩
              ·rw [if_neg c13] at H
               exact absurd H (by simp)
             ·rw [if_neg c12] at H
              have c12b0 : ((rdOf ByteArray.empty (rd_L1 l0 x19_1) x25_2).toList == ([] : List UInt8)) = false := beq_eq_false_iff_ne.mpr c12
              have c12b1 : ((rdOf ByteArray.empty (rd_L1 l0 x19_1) x25_2).toList != ([] : List UInt8)) = true := bne_iff_ne.mpr c12
              by_cases c15 : x6_2.length < 8796093022208
              ·rw [if_pos c15] at H
               have LMc15 := Aside0.mk c15
               clear c15
               obtain ⟨y310, hy310⟩ : ∃ y_ : List ByteArray, y_ = (x6_2 ++ [rdOf ByteArray.empty (rd_L1 l0 x19_1) x25_2]) := ⟨_, rfl⟩
               replace H : (area_Text.l1 k2 x3_1 y310 l0 (l0.length : Int) x19_1 (rd_L1 l0 x19_1) ((rd_L1 l0 x19_1).length : Int) (wrap64 (x25_2 + 1))) = some r := by first | (rw [hy310]; with_reducible exact H) | (have H2_ := (Option.bind_some _ _).symm.trans H; rw [hy310]; with_reducible exact H2_) | (have H2_ := (Option.bind_some _ _).symm.trans H; with_reducible exact H2_) | with_reducible exact H | (rw [hy310]; exact H) | exact H
               have Ny310 := Aside0.mk hy310
               clear hy310
               have H' := Aside0.mk H
               clear H
               have p306 : 0 ≤ (x25_2 : Int) := of_decide_eq_true (by first | (with_reducible assumption) | assumption)
               have q306 : x25_2 < ((rd_L1 l0 x19_1).length : Int) := of_decide_eq_true (by first | (with_reducible assumption) | assumption)
               obtain ⟨ad306, e306, hx306_0⟩ := Kd.at_string HR305_0.out x25_2 p306 q306
               cases e306
               replace hx306_0 := (HB.out.cell (World.block_lt_of_cell? w _ hx306_0)).trans hx306_0
               replace p306 := eq_true p306
               replace q306 := eq_true q306
               go_wp2_with (first | ((with_reducible refine gate_builtin (b := .append) (xs := #[.tmp 31, .tmp 33]) rfl ?_); at_builtin; refine Kd.R_append Kd.string (w0 := w) w.heap.size rfl (.tmp 31) (.tmp 33) 37 9 (.string ⟨#[]⟩) 16 rfl Tryz.underlying37 info9 rfl (by decide) (by omega) u6 x6_2 (rdOf ByteArray.empty (rd_L1 l0 x19_1) x25_2) [.string (rdOf ByteArray.empty (rd_L1 l0 x19_1) x25_2)] (fun k_ => some k_ ≠ (u3 : Value).ownBlock) (fun _ => False) rfl rfl ?aP (fun _ hk => hk.elim) ?aF ?aO ?aB ?aS ?aL ?_; (case aP => exact rfl); (case aB => exact bel_); (case aF => exact (fun k_ hk => Kd.fresh' (Kd.R_lt (by (with_reducible repeat (first | apply Kd.R_alloc | apply Kd.R_drewN | apply Kd.R_drew)); exact HO_3.out)) k_ hk)); (case aO => exact (by (with_reducible repeat (first | apply Kd.R_alloc | apply Kd.R_drewN | apply Kd.R_drew)); exact HO_6.out)); (case aS => exact (below_size bel_)); (case aL => have := LMc15.out; omega); intro v311 w16 ho hb hg hat; rw [← Ny310.out] at ho; have n0_ := Aside0.mk (Kd.R_after (ok := (fun _ => True)) (by (with_reducible repeat (first | apply Kd.R_alloc | apply Kd.R_drewN | apply Kd.R_drew)); exact Kd.R_mono HO_3.out (fun _ hk => ⟨trivial, hk⟩)) hg hat); have n1_ := Aside0.mk (hb); have n2_ := Aside0.mk (ho); clear HO_3; clear HB; clear HO_6; have HO_3 := n0_; have HB := n1_; have HO312 := n2_; clear n0_ n1_ n2_; clear ho hb hg hat))
               go_roundg k2
               case measure => have := HK1.out; have := HK2.out; omega
               case rel => exact ⟨(y310), (wrap64 (x25_2 + 1)), rfs_, H', ⟨by have := HK1.out; have := HK2.out; omega⟩, ⟨by (with_reducible repeat (first | apply Kd.R_alloc | apply Kd.R_drewN | apply Kd.R_drew)); exact Kd.R_mono HO_3.out (fun _ hk => hk.2)⟩, ⟨by (with_reducible repeat (first | apply Kd.R_alloc | apply Kd.R_drewN | apply Kd.R_drew)); exact HO312.out⟩, ⟨bel_⟩⟩
              ·rw [if_neg c15] at H
               exact absurd H (by simp)
            ·rw [if_neg c11] at H
             exact absurd H (by simp)
           ·rw [if_neg c10] at H
            exact absurd H (by simp)
          ·rw [if_neg c9] at H
           have c9b0 : decide (x25_2 < ((rd_L1 l0 x19_1).length : Int)) = false := decide_eq_false c9
           clear c9
           replace H := Option.bind_eq_some_iff.mp H
           obtain ⟨t313, A170, H⟩ := H
           try dsimp only at H
           have A17 := Aside0.mk A170
           clear A170
           replace H := Option.bind_eq_some_iff.mp H
           obtain ⟨t314, A180, H⟩ := H
           try dsimp only at H
           have A18 := Aside0.mk A180
           clear A180
           by_cases c19 : x3_1.length < 8796093022208
           ·rw [if_pos c19] at H
            have LMc19 := Aside0.mk c19
            clear c19
            obtain ⟨y315, hy315⟩ : ∃ y_ : List ByteArray, y_ = (x3_1 ++ [t314]) := ⟨_, rfl⟩
            replace H : (area_Text.l0 k2 y315 l0 (l0.length : Int) (wrap64 (x19_1 + 1))) = some r := by first | (rw [hy315]; with_reducible exact H) | (have H2_ := (Option.bind_some _ _).symm.trans H; rw [hy315]; with_reducible exact H2_) | (have H2_ := (Option.bind_some _ _).symm.trans H; with_reducible exact H2_) | with_reducible exact H | (rw [hy315]; exact H) | exact H
            have Ny315 := Aside0.mk hy315
            clear hy315
            have H' := Aside0.mk H
            clear H
            obtain ⟨Ao20, co20, eo20⟩ := Kd.R_slice HO_6.out
            subst eo20
            go_wp2_with (first | ((with_reducible refine gate_callee (f := 31) rfl ?_); refine goesL_ (some 38) rfl rfl Tryz.func31 (by kernel_rfl) rfl #[.slice Ao20 x6_2.length co20, .string (⟨#[32]⟩ : ByteArray)] rfl goa_ ?_; (with_reducible refine (strings_Join.calls _ _ x6_2 (⟨#[32]⟩ : ByteArray) t313 _ ?side1 ?side2 A17.out).mono ?_); (case side1 => repeat (first | exact (Kd.R_reads' HO_6.out).2.2 | (with_reducible refine Kd.C_alloc ?_ _) | (with_reducible refine Kd.C_drewN ?_ _) | (with_reducible refine Kd.C_drew ?_))); (case side2 => exact (Kd.R_reads' HO_6.out).2.1); rintro e w21 ⟨rfl, hb⟩; refine ⟨_, rfl, ?_⟩; have n0_ := Aside0.mk (Kd.R_below (by (with_reducible repeat (first | apply Kd.R_alloc | apply Kd.R_drewN | apply Kd.R_drew)); exact HO_3.out) hb); have n1_ := Aside0.mk (Kd.R_below (by (with_reducible repeat (first | apply Kd.R_alloc | apply Kd.R_drewN | apply Kd.R_drew)); exact HO_6.out) hb); have n2_ := Aside0.mk (below_step bel_ hb); clear HO_3; clear HO_6; clear HB; have HO_3 := n0_; have HO_6 := n1_; have HB := n2_; clear n0_ n1_ n2_; clear hb) | ((with_reducible refine gate_callee (f := 30) rfl ?_); refine goesL_ (some 39) rfl rfl Tryz.func30 (by kernel_rfl) rfl #[.string t313] rfl goa_ ?_; (with_reducible refine (ident_Quote.calls t313 t314 _ A18.out).mono ?_); rintro e w22 ⟨rfl, hb⟩; refine ⟨_, rfl, ?_⟩; have n0_ := Aside0.mk (Kd.R_below (by (with_reducible repeat (first | apply Kd.R_alloc | apply Kd.R_drewN | apply Kd.R_drew)); exact HO_3.out) hb); have n1_ := Aside0.mk (Kd.R_below (by (with_reducible repeat (first | apply Kd.R_alloc | apply Kd.R_drewN | apply Kd.R_drew)); exact HO_6.out) hb); have n2_ := Aside0.mk (below_step bel_ hb); clear HO_3; clear HO_6; clear HB; have HO_3 := n0_; have HO_6 := n1_; have HB := n2_; clear n0_ n1_ n2_; clear hb) | ((with_reducible refine gate_builtin (b := .append) (xs := #[.tmp 36, .tmp 40]) rfl ?_); at_builtin; refine Kd.R_append Kd.string (w0 := w) w.heap.size rfl (.tmp 36) (.tmp 40) 37 9 (.string ⟨#[]⟩) 16 rfl Tryz.underlying37 info9 rfl (by decide) (by omega) u3 x3_1 t314 [.string t314] (fun k_ => some k_ ≠ (.slice Ao20 x6_2.length co20 : Value).ownBlock) (fun _ => False) rfl rfl ?aP (fun _ hk => hk.elim) ?aF ?aO ?aB ?aS ?aL ?_; (case aP => exact rfl); (case aB => exact bel_); (case aF => exact (fun k_ hk => Kd.fresh' (Kd.R_lt (by (with_reducible repeat (first | apply Kd.R_alloc | apply Kd.R_drewN | apply Kd.R_drew)); exact HO_6.out)) k_ hk)); (case aO => exact (by (with_reducible repeat (first | apply Kd.R_alloc | apply Kd.R_drewN | apply Kd.R_drew)); exact HO_3.out)); (case aS => exact (below_size bel_)); (case aL => have := LMc19.out; omega); intro v316 w23 ho hb hg hat; rw [← Ny315.out] at ho; have n0_ := Aside0.mk (Kd.R_after (ok := (fun _ => True)) (by (with_reducible repeat (first | apply Kd.R_alloc | apply Kd.R_drewN | apply Kd.R_drew)); exact Kd.R_mono HO_6.out (fun _ hk => ⟨trivial, hk⟩)) hg hat); have n1_ := Aside0.mk (hb); have n2_ := Aside0.mk (ho); clear HO_6; clear HB; clear HO_3; have HO_6 := n0_; have HB := n1_; have HO317 := n2_; clear n0_ n1_ n2_; clear ho hb hg hat))
            go_roundg k2
            case measure => have := HK1.out; have := HK2.out; omega
            case rel => exact ⟨(y315), (wrap64 (x19_1 + 1)), rfs_, H', ⟨by have := HK1.out; have := HK2.out; omega⟩, ⟨by (with_reducible repeat (first | apply Kd.R_alloc | apply Kd.R_drewN | apply Kd.R_drew)); exact Kd.R_mono HO317.out (fun _ hk => trivial)⟩, ⟨bel_⟩⟩
           ·rw [if_neg c19] at H
            exact absurd H (by simp)
       ·rw [if_neg c8] at H
        exact absurd H (by simp)
      ·rw [if_neg c7] at H
       exact absurd H (by simp)
     ·rw [if_neg c6] at H
      have c6b0 : decide (x19_1 < (l0.length : Int)) = false := decide_eq_false c6
      clear c6
      replace H := Option.bind_eq_some_iff.mp H
      obtain ⟨t304, A240, H⟩ := H
      try dsimp only at H
      have A24 := Aside0.mk A240
      clear A240
      obtain rfl := Option.some.inj H
      obtain ⟨Ao25, co25, eo25⟩ := Kd.R_slice HO_3.out
      subst eo25
      go_wp2_with (first | ((with_reducible refine gate_callee (f := 31) rfl ?_); refine goesL_ (some 44) rfl rfl Tryz.func31 (by kernel_rfl) rfl #[.slice Ao25 x3_1.length co25, .string (⟨#[32]⟩ : ByteArray)] rfl goa_ ?_; (with_reducible refine (strings_Join.calls _ _ x3_1 (⟨#[32]⟩ : ByteArray) t304 _ ?side1 ?side2 A24.out).mono ?_); (case side1 => repeat (first | exact (Kd.R_reads' HO_3.out).2.2 | (with_reducible refine Kd.C_alloc ?_ _) | (with_reducible refine Kd.C_drewN ?_ _) | (with_reducible refine Kd.C_drew ?_))); (case side2 => exact (Kd.R_reads' HO_3.out).2.1); rintro e w26 ⟨rfl, hb⟩; refine ⟨_, rfl, ?_⟩; have n0_ := Aside0.mk (Kd.R_below (by (with_reducible repeat (first | apply Kd.R_alloc | apply Kd.R_drewN | apply Kd.R_drew)); exact HO_3.out) hb); have n1_ := Aside0.mk (below_step bel_ hb); clear HO_3; clear HB; have HO_3 := n0_; have HB := n1_; clear n0_ n1_; clear hb))
      go_ret
      exact ⟨rsl_, bel_⟩
  ·replace c4 := Bool.eq_false_iff.mpr c4
   subst c4
   rw [if_neg (show ¬ (false = true) by decide)] at H
   obtain rfl := Option.some.inj H
   go_enter Tryz.func11, Tryz.ntmps11
   go_wp2_with (first | ((with_reducible refine gate_callee (f := 9) rfl ?_); refine goesL_ (some 15) rfl rfl Tryz.func9 (by kernel_rfl) rfl #[.slice A0 l0.length c0] rfl goa_ ?_; (with_reducible refine (area_Good.calls k _ _ l0 false _ ?side1 ?side2 A3.out).mono ?_); (case side1 => repeat (first | exact HR0.out | (with_reducible refine Kd.C_alloc ?_ _) | (with_reducible refine Kd.C_drewN ?_ _) | (with_reducible refine Kd.C_drew ?_))); (case side2 => exact HC0.out); rintro e w27 ⟨rfl, hb⟩; refine ⟨_, rfl, ?_⟩; have n0_ := Aside0.mk (below_step bel_ hb); clear HB; have HB := n0_; clear n0_; clear hb))
   go_ret
   exact ⟨rsl_, bel_⟩

/-! ### parterreref04_nought: function 61 -/
def parterreref04_nought.l0 : Nat → ByteArray → Int → Option (Bool)
 | 0, _, _ => none
 | k + 1, x0, x3 => if x3 < (x0.size : Int) then (if 0 ≤ x3 then (if (bt x0 x3) = 0 then (some true) else (parterreref04_nought.l0 k x0 (wrap64 (x3 + 1)))) else (none)) else (some false)
def parterreref04_nought.f (k : Nat) (a0 : ByteArray) : Option (Bool) := parterreref04_nought.l0 k a0 0
theorem parterreref04_nought.mono_l : ∀ k, (∀ y0 y1, LeO (parterreref04_nought.l0 k y0 y1) (parterreref04_nought.l0 (k + 1) y0 y1))
 | 0 => fun _ _ r h => by simp [parterreref04_nought.l0] at h
 | k + 1 => by
  have ih0 := parterreref04_nought.mono_l k
  ·intro y0 y1
   unfold parterreref04_nought.l0
   repeat' first
   | (with_reducible exact ih0 _ _)
   | (with_reducible exact LeO.refl _)
   | (with_reducible exact LeO.none _)
   | (with_reducible refine LeO.ite ?_ ?_)
   | (with_reducible refine LeO.bind ?_ (fun _ => ?_))
theorem parterreref04_nought.mono : ∀ a0 k, LeO (parterreref04_nought.f k a0) (parterreref04_nought.f (k + 1) a0) := by
 intro a0 k
 have ih0 := parterreref04_nought.mono_l k
 unfold parterreref04_nought.f
 repeat' first
   | (with_reducible exact ih0 _ _)
   | (with_reducible exact LeO.refl _)
   | (with_reducible exact LeO.none _)
   | (with_reducible refine LeO.ite ?_ ?_)
   | (with_reducible refine LeO.bind ?_ (fun _ => ?_))
set_option maxHeartbeats 8000000 in
set_option maxRecDepth 100000 in
theorem parterreref04_nought.calls (k : Nat) (a0 : ByteArray) (r : Bool) (w : World) (h : parterreref04_nought.f k a0 = some r) :
  Calls Tryz.prog 61 #[.string a0] w fun e w' => e = .returned (.bool r) ∧ Drawn0 w w' := by
 have H : (parterreref04_nought.l0 k a0 0) = some r := h
 clear h
 have H' := Aside0.mk H
 clear H
 go_enter Tryz.func61, Tryz.ntmps61
 go_wp2
 go_loopg [3] k (fun kq v3 w' => ∃ (x3_1 : Int), v3 = .int .i64 x3_1 ∧ Aside0 (parterreref04_nought.l0 kq a0 x3_1 = some r) ∧ Aside0 (kq ≤ k) ∧ Drawn0 w w')
 case atStart => exact ⟨(0), rfs_, H', ⟨Nat.le_refl _⟩, drs_⟩
 case round =>
  clear H'
  obtain ⟨x3_1, rfl, HA, HK1, ⟨m1, rfl⟩⟩ := hrel
  cases gk with
  | zero => exact absurd HA.out (by simp [parterreref04_nought.l0])
  | succ k1 =>
   have H := HA.out
   clear HA
   simp only [parterreref04_nought.l0] at H
   by_cases c2 : x3_1 < (a0.size : Int)
   ·rw [if_pos c2] at H
    have c2b0 : decide (x3_1 < (a0.size : Int)) = true := decide_eq_true c2
    clear c2
    by_cases c3 : 0 ≤ x3_1
    ·rw [if_pos c3] at H
     have c3b0 : decide (0 ≤ x3_1) = true := decide_eq_true c3
     clear c3
     by_cases c5 : (bt a0 x3_1) = 0
     ·rw [if_pos c5] at H
      have c5b0 : ((bt a0 x3_1) == 0) = true := beq_iff_eq.mpr c5
      have c5b1 : ((bt a0 x3_1) != 0) = false := bne_eq_false_iff_eq.mpr c5
      clear c5
      obtain rfl := Option.some.inj H
      have p4 : 0 ≤ (x3_1 : Int) := of_decide_eq_true (by first | (with_reducible assumption) | assumption)
      have q4 : x3_1 < (a0.size : Int) := of_decide_eq_true (by first | (with_reducible assumption) | assumption)
      have hx4 := bt_at a0 x3_1
      replace p4 := eq_true p4
      replace q4 := eq_true q4
      go_wp2
      go_ret
      exact ⟨by first | rfl | (simp; done) | (simp [*]; done), drs_⟩
     ·rw [if_neg c5] at H
      have c5b0 : ((bt a0 x3_1) == 0) = false := beq_eq_false_iff_ne.mpr c5
      have c5b1 : ((bt a0 x3_1) != 0) = true := bne_iff_ne.mpr c5
      have H' := Aside0.mk H
      clear H
      have p4 : 0 ≤ (x3_1 : Int) := of_decide_eq_true (by first | (with_reducible assumption) | assumption)
      have q4 : x3_1 < (a0.size : Int) := of_decide_eq_true (by first | (with_reducible assumption) | assumption)
      have hx4 := bt_at a0 x3_1
      replace p4 := eq_true p4
      replace q4 := eq_true q4
      go_wp2
      go_roundg k1
      case measure => have := HK1.out; omega
      case rel => exact ⟨(wrap64 (x3_1 + 1)), rfs_, H', ⟨by have := HK1.out; omega⟩, drs_⟩
    ·rw [if_neg c3] at H
     exact absurd H (by simp)
   ·rw [if_neg c2] at H
    have c2b0 : decide (x3_1 < (a0.size : Int)) = false := decide_eq_false c2
    clear c2
    obtain rfl := Option.some.inj H
    go_wp2
    go_ret
    exact ⟨by first | rfl | (simp; done) | (simp [*]; done), drs_⟩

/-! ### parterreref04_control: function 62 -/
def parterreref04_control.f (a0 : Int) : Option (Bool) := if a0 < 32 then (some true) else (some (a0 == 127))
set_option maxHeartbeats 8000000 in
set_option maxRecDepth 100000 in
theorem parterreref04_control.calls (a0 : Int) (r : Bool) (w : World) (h : parterreref04_control.f a0 = some r) :
  Calls Tryz.prog 62 #[.int .u8 a0] w fun e w' => e = .returned (.bool r) ∧ Drawn0 w w' := by
 have H : (if a0 < 32 then (some true) else (some (a0 == 127))) = some r := h
 clear h
 by_cases c2 : a0 < 32
 ·rw [if_pos c2] at H
  have c2b0 : decide (a0 < 32) = true := decide_eq_true c2
  clear c2
  obtain rfl := Option.some.inj H
  go_enter Tryz.func62, Tryz.ntmps62
  go_wp2
  go_ret
  exact ⟨by first | rfl | (simp; done) | (simp [*]; done), drs_⟩
 ·rw [if_neg c2] at H
  have c2b0 : decide (a0 < 32) = false := decide_eq_false c2
  clear c2
  obtain rfl := Option.some.inj H
  go_enter Tryz.func62, Tryz.ntmps62
  go_wp2
  go_ret
  exact ⟨by first | rfl | (simp; done) | (simp [*]; done), drs_⟩

/-! ### parterreref04_number: function 63 -/
def parterreref04_number.dig (x : Int) : ByteArray := (⟨#[48, 49, 50, 51, 52, 53, 54, 55, 56, 57, 97, 98, 99, 100, 101, 102]⟩ : ByteArray).extract x.toNat (x + 1).toNat
def parterreref04_number.f (a0 : Int) : Option ByteArray := if 0 ≤ a0 then (if a0 ≤ 255 then (if a0 ≥ 16 then some (((⟨#[92]⟩ : ByteArray) ++ parterreref04_number.dig (a0 / 16)) ++ parterreref04_number.dig (a0 % 16) ++ (⟨#[32]⟩ : ByteArray)) else some ((⟨#[92]⟩ : ByteArray) ++ parterreref04_number.dig (a0 % 16) ++ (⟨#[32]⟩ : ByteArray))) else none) else none
theorem parterreref04_number.dig_size (x : Int) (h0 : 0 ≤ x) (h1 : x ≤ 15) : (parterreref04_number.dig x).size = 1 := by
 unfold parterreref04_number.dig
 rw [ByteArray.size_extract]
 show min (x + 1).toNat 16 - x.toNat = 1
 omega
theorem parterreref04_number.cut (W : World) (x : Int) (h0 : 0 ≤ x) (h1 : x ≤ 15) : (Instr.slice 9 (.string ⟨#[48, 49, 50, 51, 52, 53, 54, 55, 56, 57, 97, 98, 99, 100, 101, 102]⟩) (some (.int .u8 x)) (some (.int .u8 (x + 1))) none).run Tryz.prog W = .ok (.string (parterreref04_number.dig x)) W := by
 have ht := Tryz.underlying9
 have q0 : (0 ≤ x) = True := eq_true h0
 have q1 : (x ≤ x + 1) = True := eq_true (by omega)
 have q2 : (x + 1 ≤ 16) = True := eq_true (by omega)
 have q3 : (0 ≤ x + 1) = True := eq_true (by omega)
 simp [go_sem, ht, q0, q1, q2, q3, h0, h1, parterreref04_number.dig]
theorem parterreref04_number.tdiv_eq {a0 : Int} (h0 : 0 ≤ a0) (h1 : a0 ≤ 255) : Int.tdiv a0 16 % 256 = a0 / 16 := by
 rw [Int.tdiv_eq_ediv_of_nonneg h0]
 omega
theorem parterreref04_number.tmod_eq {a0 : Int} (h0 : 0 ≤ a0) : Int.tmod a0 16 = a0 % 16 := Int.tmod_eq_emod_of_nonneg h0
set_option maxHeartbeats 400000 in
set_option maxRecDepth 100000 in
theorem parterreref04_number.calls (a0 : Int) (r : ByteArray) (w : World) (h : parterreref04_number.f a0 = some r) :
  Calls Tryz.prog 63 #[.int .u8 a0] w fun e w' => e = .returned (.string r) ∧ Drawn0 w w' := by
 unfold parterreref04_number.f at h
 by_cases h0 : 0 ≤ a0
 ·rw [if_pos h0] at h
  by_cases h1 : a0 ≤ 255
  ·rw [if_pos h1] at h
   obtain ⟨m, hm⟩ : ∃ m, a0 % 16 = m := ⟨_, rfl⟩
   obtain ⟨j, hj⟩ : ∃ j, a0 / 16 = j := ⟨_, rfl⟩
   have hm2 : Int.tmod a0 16 = m := (parterreref04_number.tmod_eq h0).trans hm
   have hj2 : Int.tdiv a0 16 % 256 = j := (parterreref04_number.tdiv_eq h0 h1).trans hj
   have cm := fun W => parterreref04_number.cut W m (by omega) (by omega)
   have cj := fun W => parterreref04_number.cut W j (by omega) (by omega)
   have hm1 : (m + 1) % 256 = m + 1 := by omega
   have hj1 : (j + 1) % 256 = j + 1 := by omega
   have zm := parterreref04_number.dig_size m (by omega) (by omega)
   have zj := parterreref04_number.dig_size j (by omega) (by omega)
   rw [hm, hj] at h
   generalize parterreref04_number.dig m = dm at *
   generalize parterreref04_number.dig j = dj at *
   by_cases hp : a0 ≥ 16
   ·rw [if_pos hp] at h
    obtain rfl := Option.some.inj h
    have p1 : decide (16 ≤ a0) = true := decide_eq_true hp
    clear h h0 h1 hp hm hj
    go_enter Tryz.func63, Tryz.ntmps63
    go_wp2
    go_ret
    exact ⟨rfl, drs_⟩
   ·rw [if_neg hp] at h
    obtain rfl := Option.some.inj h
    have p1 : decide (16 ≤ a0) = false := decide_eq_false hp
    clear h h0 h1 hp hm hj
    go_enter Tryz.func63, Tryz.ntmps63
    go_wp2
    go_ret
    exact ⟨rfl, drs_⟩
  ·rw [if_neg h1] at h
   cases h
 ·rw [if_neg h0] at h
  cases h

/-! ### parterreref04_Quote: function 32 -/
mutual
def parterreref04_Quote.j0 : Nat → ByteArray → Bool → Option (ByteArray)
 | 0, _, _ => none
 | k + 1, x0, x11 => if x11 = true then (some (⟨#[]⟩ : ByteArray)) else (parterreref04_Quote.l0 k x0 (⟨#[34]⟩ : ByteArray) 0)
def parterreref04_Quote.l0 : Nat → ByteArray → ByteArray → Int → Option (ByteArray)
 | 0, _, _, _ => none
 | k + 1, x0, x3, x4 => if x4 < (x0.size : Int) then (if 0 ≤ x4 then ((parterreref04_control.f (bt x0 x4)).bind fun t319 => (if t319 = true then ((parterreref04_number.f (bt x0 x4)).bind fun t320 => (if x3.size + t320.size ≤ 9223372036854775807 then (parterreref04_Quote.l0 k x0 (x3 ++ t320) (wrap64 (x4 + 1))) else (none))) else (if (bt x0 x4) = 34 then (if x3.size + 1 ≤ 9223372036854775807 then (if x4 ≤ (wrap64 (x4 + 1)) then (if (wrap64 (x4 + 1)) ≤ (x0.size : Int) then (if (x3 ++ (⟨#[92]⟩ : ByteArray)).size + (x0.extract (x4 : Int).toNat ((wrap64 (x4 + 1)) : Int).toNat).size ≤ 9223372036854775807 then (parterreref04_Quote.l0 k x0 ((x3 ++ (⟨#[92]⟩ : ByteArray)) ++ (x0.extract (x4 : Int).toNat ((wrap64 (x4 + 1)) : Int).toNat)) (wrap64 (x4 + 1))) else (none)) else (none)) else (none)) else (none)) else (if (bt x0 x4) = 92 then (if x3.size + 1 ≤ 9223372036854775807 then (if x4 ≤ (wrap64 (x4 + 1)) then (if (wrap64 (x4 + 1)) ≤ (x0.size : Int) then (if (x3 ++ (⟨#[92]⟩ : ByteArray)).size + (x0.extract (x4 : Int).toNat ((wrap64 (x4 + 1)) : Int).toNat).size ≤ 9223372036854775807 then (parterreref04_Quote.l0 k x0 ((x3 ++ (⟨#[92]⟩ : ByteArray)) ++ (x0.extract (x4 : Int).toNat ((wrap64 (x4 + 1)) : Int).toNat)) (wrap64 (x4 + 1))) else (none)) else (none)) else (none)) else (none)) else (if x4 ≤ (wrap64 (x4 + 1)) then (if (wrap64 (x4 + 1)) ≤ (x0.size : Int) then (if x3.size + (x0.extract (x4 : Int).toNat ((wrap64 (x4 + 1)) : Int).toNat).size ≤ 9223372036854775807 then (parterreref04_Quote.l0 k x0 (x3 ++ (x0.extract (x4 : Int).toNat ((wrap64 (x4 + 1)) : Int).toNat)) (wrap64 (x4 + 1))) else (none)) else (none)) else (none)))))) else (none)) else (if x3.size + 1 ≤ 9223372036854775807 then (some (x3 ++ (⟨#[34]⟩ : ByteArray))) else (none))
end
def parterreref04_Quote.f (k : Nat) (a0 : ByteArray) : Option (ByteArray) := if (a0.size : Int) > 8192 then (parterreref04_Quote.j0 k a0 true) else ((parterreref04_nought.f k a0).bind fun t318 => (parterreref04_Quote.j0 k a0 t318))
theorem parterreref04_Quote.mono_l : ∀ k, (∀ y0 y1, LeO (parterreref04_Quote.j0 k y0 y1) (parterreref04_Quote.j0 (k + 1) y0 y1)) ∧ (∀ y0 y1 y2, LeO (parterreref04_Quote.l0 k y0 y1 y2) (parterreref04_Quote.l0 (k + 1) y0 y1 y2))
 | 0 => ⟨fun _ _ r h => by simp [parterreref04_Quote.j0] at h, fun _ _ _ r h => by simp [parterreref04_Quote.l0] at h⟩
 | k + 1 => by
  obtain ⟨ih0, ih1⟩ := parterreref04_Quote.mono_l k
  refine ⟨?_, ?_⟩
  ·intro y0 y1
   unfold parterreref04_Quote.j0
   repeat' first
   | (with_reducible exact ih0 _ _)
   | (with_reducible exact ih1 _ _ _)
   | (with_reducible exact parterreref04_nought.mono _ _)
   | (with_reducible exact LeO.refl _)
   | (with_reducible exact LeO.none _)
   | (with_reducible refine LeO.ite ?_ ?_)
   | (with_reducible refine LeO.bind ?_ (fun _ => ?_))
  ·intro y0 y1 y2
   unfold parterreref04_Quote.l0
   repeat' first
   | (with_reducible exact ih0 _ _)
   | (with_reducible exact ih1 _ _ _)
   | (with_reducible exact parterreref04_nought.mono _ _)
   | (with_reducible exact LeO.refl _)
   | (with_reducible exact LeO.none _)
   | (with_reducible refine LeO.ite ?_ ?_)
   | (with_reducible refine LeO.bind ?_ (fun _ => ?_))
theorem parterreref04_Quote.mono : ∀ a0 k, LeO (parterreref04_Quote.f k a0) (parterreref04_Quote.f (k + 1) a0) := by
 intro a0 k
 obtain ⟨ih0, ih1⟩ := parterreref04_Quote.mono_l k
 unfold parterreref04_Quote.f
 repeat' first
   | (with_reducible exact ih0 _ _)
   | (with_reducible exact ih1 _ _ _)
   | (with_reducible exact parterreref04_nought.mono _ _)
   | (with_reducible exact LeO.refl _)
   | (with_reducible exact LeO.none _)
   | (with_reducible refine LeO.ite ?_ ?_)
   | (with_reducible refine LeO.bind ?_ (fun _ => ?_))
set_option maxHeartbeats 8000000 in
set_option maxRecDepth 100000 in
theorem parterreref04_Quote.calls (k : Nat) (a0 : ByteArray) (r : ByteArray) (w : World) (h : parterreref04_Quote.f k a0 = some r) :
  Calls Tryz.prog 32 #[.string a0] w fun e w' => e = .returned (.string r) ∧ Drawn0 w w' := by
 have H : (if (a0.size : Int) > 8192 then (parterreref04_Quote.j0 k a0 true) else ((parterreref04_nought.f k a0).bind fun t318 => (parterreref04_Quote.j0 k a0 t318))) = some r := h
 clear h
 have HC2 := Aside0.mk H
 clear H
 go_enter Tryz.func32, Tryz.ntmps32
 go_upto_region 1 with (fail)
 go_cut [11] (fun v11 wc => ∃ (kq : Nat) (x11_1 : Bool), v11 = .bool x11_1 ∧ Aside0 (parterreref04_Quote.j0 kq a0 x11_1 = some r) ∧ Aside0 (kq ≤ k) ∧ Drawn0 w wc)
 case first =>
  have H := HC2.out
  clear HC2
  by_cases c3 : (a0.size : Int) > 8192
  ·rw [if_pos c3] at H
   have c3b0 : decide (8192 < (a0.size : Int)) = true := decide_eq_true c3
   have c3b1 : decide (8192 < a0.size) = true := decide_eq_true (by omega)
   clear c3
   (first | rw [c3b0] | (simp only [i64_w, i32_w]; rw [c3b0]) | skip)
   have H' := Aside0.mk H
   clear H
   go_wp2
   go_meet
   case rel => exact ⟨_, (true), rfs_, (by first | exact H' | (subst_vars; exact H')), ⟨ole_⟩, drs_⟩
  ·rw [if_neg c3] at H
   have c3b0 : decide (8192 < (a0.size : Int)) = false := decide_eq_false c3
   have c3b1 : decide (8192 < a0.size) = false := decide_eq_false (by omega)
   clear c3
   (first | rw [c3b0] | (simp only [i64_w, i32_w]; rw [c3b0]) | skip)
   replace H := Option.bind_eq_some_iff.mp H
   obtain ⟨t318, A40, H⟩ := H
   try dsimp only at H
   have A4 := Aside0.mk A40
   clear A40
   have H' := Aside0.mk H
   clear H
   go_wp2_with (first | (go_at_call 61; (with_reducible refine (parterreref04_nought.calls k a0 t318 _ A4.out).mono ?_); rintro e w' ⟨rfl, ⟨nd, rfl⟩⟩))
   go_meet
   case rel => exact ⟨_, (t318), rfs_, (by first | exact H' | (subst_vars; exact H')), ⟨ole_⟩, drs_⟩
 case rest =>
  clear HC2
  obtain ⟨kq, x11_1, rfl, HA, HJ1, ⟨mc1, rfl⟩⟩ := hcut
  cases kq with
  | zero => exact absurd HA.out (by simp [parterreref04_Quote.j0])
  | succ kj1 =>
   have H := HA.out
   clear HA
   simp only [parterreref04_Quote.j0] at H
   by_cases c5 : x11_1 = true
   ·subst c5
    rw [if_pos rfl] at H
    obtain rfl := Option.some.inj H
    go_wp2
    go_ret
    exact ⟨by first | rfl | (simp; done) | (simp [*]; done), drs_⟩
   ·replace c5 := Bool.eq_false_iff.mpr c5
    subst c5
    rw [if_neg (show ¬ (false = true) by decide)] at H
    have H' := Aside0.mk H
    clear H
    go_wp2
    go_loopg [3, 4] kj1 (fun kq v3 v4 w' => ∃ (x3_2 : ByteArray) (x4_2 : Int), v3 = .string x3_2 ∧ v4 = .int .i64 x4_2 ∧ Aside0 (parterreref04_Quote.l0 kq a0 x3_2 x4_2 = some r) ∧ Aside0 (kq ≤ kj1) ∧ Drawn0 w w')
    case atStart => exact ⟨((⟨#[34]⟩ : ByteArray)), (0), rfs_, rfs_, H', ⟨Nat.le_refl _⟩, drs_⟩
    case round =>
     clear H'
     try clear c5
     obtain ⟨x3_2, x4_2, rfl, rfl, HA, HK2, ⟨m2, rfl⟩⟩ := hrel
     cases gk with
     | zero => exact absurd HA.out (by simp [parterreref04_Quote.l0])
     | succ k2 =>
      have H := HA.out
      clear HA
      simp only [parterreref04_Quote.l0] at H
      by_cases c6 : x4_2 < (a0.size : Int)
      ·rw [if_pos c6] at H
       have c6b0 : decide (x4_2 < (a0.size : Int)) = true := decide_eq_true c6
       clear c6
       by_cases c7 : 0 ≤ x4_2
       ·rw [if_pos c7] at H
        have c7b0 : decide (0 ≤ x4_2) = true := decide_eq_true c7
        clear c7
        replace H := Option.bind_eq_some_iff.mp H
        obtain ⟨t319, A90, H⟩ := H
        try dsimp only at H
        have A9 := Aside0.mk A90
        clear A90
        by_cases c10 : t319 = true
        ·subst c10
         rw [if_pos rfl] at H
         replace H := Option.bind_eq_some_iff.mp H
         obtain ⟨t320, A120, H⟩ := H
         try dsimp only at H
         have A12 := Aside0.mk A120
         clear A120
         by_cases c13 : x3_2.size + t320.size ≤ 9223372036854775807
         ·rw [if_pos c13] at H
          have c13b0 := eq_true c13
          have c13b1 : decide (x3_2.size + t320.size ≤ 9223372036854775807) = true := decide_eq_true c13
          try have c13b2 : (9223372036854775807 < x3_2.size + t320.size) = False := eq_false (Nat.not_lt.2 c13)
          have H' := Aside0.mk H
          clear H
          have p8 : 0 ≤ (x4_2 : Int) := of_decide_eq_true (by first | (with_reducible assumption) | assumption)
          have q8 : x4_2 < (a0.size : Int) := of_decide_eq_true (by first | (with_reducible assumption) | assumption)
          have hx8 := bt_at a0 x4_2
          replace p8 := eq_true p8
          replace q8 := eq_true q8
          go_wp2_with (first | ((with_reducible refine gate_callee (f := 62) rfl ?_); refine goesL_ (some 21) rfl rfl Tryz.func62 (by kernel_rfl) rfl #[.int .u8 (bt a0 x4_2)] rfl goa_ ?_; (with_reducible refine (parterreref04_control.calls (bt a0 x4_2) true _ A9.out).mono ?_); rintro e w' ⟨rfl, ⟨nd, rfl⟩⟩; refine ⟨_, rfl, ?_⟩; have p11 : 0 ≤ (x4_2 : Int) := of_decide_eq_true (by first | (with_reducible assumption) | assumption); have q11 : x4_2 < (a0.size : Int) := of_decide_eq_true (by first | (with_reducible assumption) | assumption); have hx11 := bt_at a0 x4_2; replace p11 := eq_true p11; replace q11 := eq_true q11) | ((with_reducible refine gate_callee (f := 63) rfl ?_); refine goesL_ (some 26) rfl rfl Tryz.func63 (by kernel_rfl) rfl #[.int .u8 (bt a0 x4_2)] rfl goa_ ?_; (with_reducible refine (parterreref04_number.calls (bt a0 x4_2) t320 _ A12.out).mono ?_); rintro e w' ⟨rfl, ⟨nd, rfl⟩⟩; refine ⟨_, rfl, ?_⟩))
          go_roundg k2
          case measure => have := HJ1.out; have := HK2.out; omega
          case rel => exact ⟨(x3_2 ++ t320), (wrap64 (x4_2 + 1)), rfs_, rfs_, H', ⟨by have := HJ1.out; have := HK2.out; omega⟩, drs_⟩
         ·rw [if_neg c13] at H
          exact absurd H (by simp)
        ·replace c10 := Bool.eq_false_iff.mpr c10
         subst c10
         rw [if_neg (show ¬ (false = true) by decide)] at H
         by_cases c15 : (bt a0 x4_2) = 34
         ·rw [if_pos c15] at H
          have c15b0 : ((bt a0 x4_2) == 34) = true := beq_iff_eq.mpr c15
          have c15b1 : ((bt a0 x4_2) != 34) = false := bne_eq_false_iff_eq.mpr c15
          clear c15
          by_cases c16 : x3_2.size + 1 ≤ 9223372036854775807
          ·rw [if_pos c16] at H
           have c16b0 := eq_true c16
           have c16b1 : decide (x3_2.size + 1 ≤ 9223372036854775807) = true := decide_eq_true c16
           try have c16b2 : (9223372036854775807 < x3_2.size + 1) = False := eq_false (Nat.not_lt.2 c16)
           have c17b0 := eq_true (of_decide_eq_true (by first | (with_reducible assumption) | assumption) : 0 ≤ x4_2)
           by_cases c18 : x4_2 ≤ (wrap64 (x4_2 + 1))
           ·rw [if_pos c18] at H
            have c18b0 := eq_true c18
            have c18b1 : decide (x4_2 ≤ (wrap64 (x4_2 + 1))) = true := decide_eq_true c18
            by_cases c19 : (wrap64 (x4_2 + 1)) ≤ (a0.size : Int)
            ·rw [if_pos c19] at H
             have c19b0 := eq_true c19
             have c19b1 : decide ((wrap64 (x4_2 + 1)) ≤ (a0.size : Int)) = true := decide_eq_true c19
             by_cases c20 : (x3_2 ++ (⟨#[92]⟩ : ByteArray)).size + (a0.extract (x4_2 : Int).toNat ((wrap64 (x4_2 + 1)) : Int).toNat).size ≤ 9223372036854775807
             ·rw [if_pos c20] at H
              have c20b0 := eq_true c20
              have c20b1 : decide ((x3_2 ++ (⟨#[92]⟩ : ByteArray)).size + (a0.extract (x4_2 : Int).toNat ((wrap64 (x4_2 + 1)) : Int).toNat).size ≤ 9223372036854775807) = true := decide_eq_true c20
              try have c20b2 : (9223372036854775807 < (x3_2 ++ (⟨#[92]⟩ : ByteArray)).size + (a0.extract (x4_2 : Int).toNat ((wrap64 (x4_2 + 1)) : Int).toNat).size) = False := eq_false (Nat.not_lt.2 c20)
              have H' := Aside0.mk H
              clear H
              have p8 : 0 ≤ (x4_2 : Int) := of_decide_eq_true (by first | (with_reducible assumption) | assumption)
              have q8 : x4_2 < (a0.size : Int) := of_decide_eq_true (by first | (with_reducible assumption) | assumption)
              have hx8 := bt_at a0 x4_2
              replace p8 := eq_true p8
              replace q8 := eq_true q8
              go_wp2_with (first | ((with_reducible refine gate_callee (f := 62) rfl ?_); refine goesL_ (some 21) rfl rfl Tryz.func62 (by kernel_rfl) rfl #[.int .u8 (bt a0 x4_2)] rfl goa_ ?_; (with_reducible refine (parterreref04_control.calls (bt a0 x4_2) false _ A9.out).mono ?_); rintro e w' ⟨rfl, ⟨nd, rfl⟩⟩; refine ⟨_, rfl, ?_⟩; have p14 : 0 ≤ (x4_2 : Int) := of_decide_eq_true (by first | (with_reducible assumption) | assumption); have q14 : x4_2 < (a0.size : Int) := of_decide_eq_true (by first | (with_reducible assumption) | assumption); have hx14 := bt_at a0 x4_2; replace p14 := eq_true p14; replace q14 := eq_true q14))
              go_roundg k2
              case measure => have := HJ1.out; have := HK2.out; omega
              case rel => exact ⟨((x3_2 ++ (⟨#[92]⟩ : ByteArray)) ++ (a0.extract (x4_2 : Int).toNat ((wrap64 (x4_2 + 1)) : Int).toNat)), (wrap64 (x4_2 + 1)), rfs_, rfs_, H', ⟨by have := HJ1.out; have := HK2.out; omega⟩, drs_⟩
             ·rw [if_neg c20] at H
              exact absurd H (by simp)
            ·rw [if_neg c19] at H
             exact absurd H (by simp)
           ·rw [if_neg c18] at H
            exact absurd H (by simp)
          ·rw [if_neg c16] at H
           exact absurd H (by simp)
         ·rw [if_neg c15] at H
          have c15b0 : ((bt a0 x4_2) == 34) = false := beq_eq_false_iff_ne.mpr c15
          have c15b1 : ((bt a0 x4_2) != 34) = true := bne_iff_ne.mpr c15
          by_cases c22 : (bt a0 x4_2) = 92
          ·rw [if_pos c22] at H
           have c22b0 : ((bt a0 x4_2) == 92) = true := beq_iff_eq.mpr c22
           have c22b1 : ((bt a0 x4_2) != 92) = false := bne_eq_false_iff_eq.mpr c22
           clear c22
           by_cases c23 : x3_2.size + 1 ≤ 9223372036854775807
           ·rw [if_pos c23] at H
            have c23b0 := eq_true c23
            have c23b1 : decide (x3_2.size + 1 ≤ 9223372036854775807) = true := decide_eq_true c23
            try have c23b2 : (9223372036854775807 < x3_2.size + 1) = False := eq_false (Nat.not_lt.2 c23)
            have c24b0 := eq_true (of_decide_eq_true (by first | (with_reducible assumption) | assumption) : 0 ≤ x4_2)
            by_cases c25 : x4_2 ≤ (wrap64 (x4_2 + 1))
            ·rw [if_pos c25] at H
             have c25b0 := eq_true c25
             have c25b1 : decide (x4_2 ≤ (wrap64 (x4_2 + 1))) = true := decide_eq_true c25
             by_cases c26 : (wrap64 (x4_2 + 1)) ≤ (a0.size : Int)
             ·rw [if_pos c26] at H
              have c26b0 := eq_true c26
              have c26b1 : decide ((wrap64 (x4_2 + 1)) ≤ (a0.size : Int)) = true := decide_eq_true c26
              by_cases c27 : (x3_2 ++ (⟨#[92]⟩ : ByteArray)).size + (a0.extract (x4_2 : Int).toNat ((wrap64 (x4_2 + 1)) : Int).toNat).size ≤ 9223372036854775807
              ·rw [if_pos c27] at H
               have c27b0 := eq_true c27
               have c27b1 : decide ((x3_2 ++ (⟨#[92]⟩ : ByteArray)).size + (a0.extract (x4_2 : Int).toNat ((wrap64 (x4_2 + 1)) : Int).toNat).size ≤ 9223372036854775807) = true := decide_eq_true c27
               try have c27b2 : (9223372036854775807 < (x3_2 ++ (⟨#[92]⟩ : ByteArray)).size + (a0.extract (x4_2 : Int).toNat ((wrap64 (x4_2 + 1)) : Int).toNat).size) = False := eq_false (Nat.not_lt.2 c27)
               have H' := Aside0.mk H
               clear H
               have p8 : 0 ≤ (x4_2 : Int) := of_decide_eq_true (by first | (with_reducible assumption) | assumption)
               have q8 : x4_2 < (a0.size : Int) := of_decide_eq_true (by first | (with_reducible assumption) | assumption)
               have hx8 := bt_at a0 x4_2
               replace p8 := eq_true p8
               replace q8 := eq_true q8
               go_wp2_with (first | ((with_reducible refine gate_callee (f := 62) rfl ?_); refine goesL_ (some 21) rfl rfl Tryz.func62 (by kernel_rfl) rfl #[.int .u8 (bt a0 x4_2)] rfl goa_ ?_; (with_reducible refine (parterreref04_control.calls (bt a0 x4_2) false _ A9.out).mono ?_); rintro e w' ⟨rfl, ⟨nd, rfl⟩⟩; refine ⟨_, rfl, ?_⟩; have p14 : 0 ≤ (x4_2 : Int) := of_decide_eq_true (by first | (with_reducible assumption) | assumption); have q14 : x4_2 < (a0.size : Int) := of_decide_eq_true (by first | (with_reducible assumption) | assumption); have hx14 := bt_at a0 x4_2; replace p14 := eq_true p14; replace q14 := eq_true q14; have p21 : 0 ≤ (x4_2 : Int) := of_decide_eq_true (by first | (with_reducible assumption) | assumption); have q21 : x4_2 < (a0.size : Int) := of_decide_eq_true (by first | (with_reducible assumption) | assumption); have hx21 := bt_at a0 x4_2; replace p21 := eq_true p21; replace q21 := eq_true q21))
               go_roundg k2
               case measure => have := HJ1.out; have := HK2.out; omega
               case rel => exact ⟨((x3_2 ++ (⟨#[92]⟩ : ByteArray)) ++ (a0.extract (x4_2 : Int).toNat ((wrap64 (x4_2 + 1)) : Int).toNat)), (wrap64 (x4_2 + 1)), rfs_, rfs_, H', ⟨by have := HJ1.out; have := HK2.out; omega⟩, drs_⟩
              ·rw [if_neg c27] at H
               exact absurd H (by simp)
             ·rw [if_neg c26] at H
              exact absurd H (by simp)
            ·rw [if_neg c25] at H
             exact absurd H (by simp)
           ·rw [if_neg c23] at H
            exact absurd H (by simp)
          ·rw [if_neg c22] at H
           have c22b0 : ((bt a0 x4_2) == 92) = false := beq_eq_false_iff_ne.mpr c22
           have c22b1 : ((bt a0 x4_2) != 92) = true := bne_iff_ne.mpr c22
           have c28b0 := eq_true (of_decide_eq_true (by first | (with_reducible assumption) | assumption) : 0 ≤ x4_2)
           by_cases c29 : x4_2 ≤ (wrap64 (x4_2 + 1))
           ·rw [if_pos c29] at H
            have c29b0 := eq_true c29
            have c29b1 : decide (x4_2 ≤ (wrap64 (x4_2 + 1))) = true := decide_eq_true c29
            by_cases c30 : (wrap64 (x4_2 + 1)) ≤ (a0.size : Int)
            ·rw [if_pos c30] at H
             have c30b0 := eq_true c30
             have c30b1 : decide ((wrap64 (x4_2 + 1)) ≤ (a0.size : Int)) = true := decide_eq_true c30
             by_cases c31 : x3_2.size + (a0.extract (x4_2 : Int).toNat ((wrap64 (x4_2 + 1)) : Int).toNat).size ≤ 9223372036854775807
             ·rw [if_pos c31] at H
              have c31b0 := eq_true c31
              have c31b1 : decide (x3_2.size + (a0.extract (x4_2 : Int).toNat ((wrap64 (x4_2 + 1)) : Int).toNat).size ≤ 9223372036854775807) = true := decide_eq_true c31
              try have c31b2 : (9223372036854775807 < x3_2.size + (a0.extract (x4_2 : Int).toNat ((wrap64 (x4_2 + 1)) : Int).toNat).size) = False := eq_false (Nat.not_lt.2 c31)
              have H' := Aside0.mk H
              clear H
              have p8 : 0 ≤ (x4_2 : Int) := of_decide_eq_true (by first | (with_reducible assumption) | assumption)
              have q8 : x4_2 < (a0.size : Int) := of_decide_eq_true (by first | (with_reducible assumption) | assumption)
              have hx8 := bt_at a0 x4_2
              replace p8 := eq_true p8
              replace q8 := eq_true q8
              go_wp2_with (first | ((with_reducible refine gate_callee (f := 62) rfl ?_); refine goesL_ (some 21) rfl rfl Tryz.func62 (by kernel_rfl) rfl #[.int .u8 (bt a0 x4_2)] rfl goa_ ?_; (with_reducible refine (parterreref04_control.calls (bt a0 x4_2) false _ A9.out).mono ?_); rintro e w' ⟨rfl, ⟨nd, rfl⟩⟩; refine ⟨_, rfl, ?_⟩; have p14 : 0 ≤ (x4_2 : Int) := of_decide_eq_true (by first | (with_reducible assumption) | assumption); have q14 : x4_2 < (a0.size : Int) := of_decide_eq_true (by first | (with_reducible assumption) | assumption); have hx14 := bt_at a0 x4_2; replace p14 := eq_true p14; replace q14 := eq_true q14; have p21 : 0 ≤ (x4_2 : Int) := of_decide_eq_true (by first | (with_reducible assumption) | assumption); have q21 : x4_2 < (a0.size : Int) := of_decide_eq_true (by first | (with_reducible assumption) | assumption); have hx21 := bt_at a0 x4_2; replace p21 := eq_true p21; replace q21 := eq_true q21))
              go_roundg k2
              case measure => have := HJ1.out; have := HK2.out; omega
              case rel => exact ⟨(x3_2 ++ (a0.extract (x4_2 : Int).toNat ((wrap64 (x4_2 + 1)) : Int).toNat)), (wrap64 (x4_2 + 1)), rfs_, rfs_, H', ⟨by have := HJ1.out; have := HK2.out; omega⟩, drs_⟩
             ·rw [if_neg c31] at H
              exact absurd H (by simp)
            ·rw [if_neg c30] at H
             exact absurd H (by simp)
           ·rw [if_neg c29] at H
            exact absurd H (by simp)
       ·rw [if_neg c7] at H
        exact absurd H (by simp)
      ·rw [if_neg c6] at H
       have c6b0 : decide (x4_2 < (a0.size : Int)) = false := decide_eq_false c6
       clear c6
       by_cases c32 : x3_2.size + 1 ≤ 9223372036854775807
       ·rw [if_pos c32] at H
        have c32b0 := eq_true c32
        have c32b1 : decide (x3_2.size + 1 ≤ 9223372036854775807) = true := decide_eq_true c32
        try have c32b2 : (9223372036854775807 < x3_2.size + 1) = False := eq_false (Nat.not_lt.2 c32)
        obtain rfl := Option.some.inj H
        go_wp2
        go_ret
        exact ⟨by first | rfl | (simp; done) | (simp [*]; done), drs_⟩
       ·rw [if_neg c32] at H
        exact absurd H (by simp)

end Go.Proofs.YtofdhdafabmhmaaGreatDoor.PAr
end
section
namespace Go.Proofs.YtofdhdafabmhmaaGreatDoor.PAr
open Go.RowKit Go.Proofs.YtofdhdafabmhmaaGreatDoorW.PrintWords Go.Proofs.YtofdhdafabmhmaaGreatDoorW.PrintLast Go.Proofs.YtofdhdafabmhmaaGreatDoorW.PrintMore
attribute [local go_sem] max2_int min2_int max_two min_two max_three min_three max_four min_four
open Go.Proofs.YtofdhdafabmhmaaGreatDoor.Opn Go.Proofs.YtofdhdafabmhmaaGreatDoor.Giv

/-! ### parterreref08_Text: function 12 -/
mutual
def parterreref08_Text.l0 : Nat → List (List ByteArray) → ByteArray → Int → Option (ByteArray)
 | 0, _, _, _ => none
 | k + 1, x0, x3, x4 => if x4 < (x0.length : Int) then (parterreref08_Text.l1 k x0 x3 x4 (⟨#[]⟩ : ByteArray) 0) else (some x3)
def parterreref08_Text.l1 : Nat → List (List ByteArray) → ByteArray → Int → ByteArray → Int → Option (ByteArray)
 | 0, _, _, _, _, _ => none
 | k + 1, x0, x3, x4, x5, x6 => if 0 ≤ x4 then (if x4 < (x0.length : Int) then (if x6 < ((rd_L1 x0 x4).length : Int) then (if x6 > 0 then (if x5.size + 1 ≤ 9223372036854775807 then (if 0 ≤ x6 then (if (rdOf ByteArray.empty (rd_L1 x0 x4) x6).toList = ([] : List UInt8) then (if (x5 ++ (⟨#[32]⟩ : ByteArray)).size + 1 ≤ 9223372036854775807 then (if ((x5 ++ (⟨#[32]⟩ : ByteArray)) ++ (⟨#[46]⟩ : ByteArray)).size + (rdOf ByteArray.empty (rd_L1 x0 x4) x6).size ≤ 9223372036854775807 then (parterreref08_Text.l1 k x0 x3 x4 (((x5 ++ (⟨#[32]⟩ : ByteArray)) ++ (⟨#[46]⟩ : ByteArray)) ++ (rdOf ByteArray.empty (rd_L1 x0 x4) x6)) (wrap64 (x6 + 1))) else (none)) else (none)) else (if (x5 ++ (⟨#[32]⟩ : ByteArray)).size + (rdOf ByteArray.empty (rd_L1 x0 x4) x6).size ≤ 9223372036854775807 then (parterreref08_Text.l1 k x0 x3 x4 ((x5 ++ (⟨#[32]⟩ : ByteArray)) ++ (rdOf ByteArray.empty (rd_L1 x0 x4) x6)) (wrap64 (x6 + 1))) else (none))) else (none)) else (none)) else (if 0 ≤ x6 then (if (rdOf ByteArray.empty (rd_L1 x0 x4) x6).toList = ([] : List UInt8) then (if x5.size + 1 ≤ 9223372036854775807 then (if (x5 ++ (⟨#[46]⟩ : ByteArray)).size + (rdOf ByteArray.empty (rd_L1 x0 x4) x6).size ≤ 9223372036854775807 then (parterreref08_Text.l1 k x0 x3 x4 ((x5 ++ (⟨#[46]⟩ : ByteArray)) ++ (rdOf ByteArray.empty (rd_L1 x0 x4) x6)) (wrap64 (x6 + 1))) else (none)) else (none)) else (if x5.size + (rdOf ByteArray.empty (rd_L1 x0 x4) x6).size ≤ 9223372036854775807 then (parterreref08_Text.l1 k x0 x3 x4 (x5 ++ (rdOf ByteArray.empty (rd_L1 x0 x4) x6)) (wrap64 (x6 + 1))) else (none))) else (none))) else (if x4 > 0 then (if x3.size + 1 ≤ 9223372036854775807 then ((parterreref04_Quote.f k x5).bind fun t323 => (if (x3 ++ (⟨#[32]⟩ : ByteArray)).size + t323.size ≤ 9223372036854775807 then (parterreref08_Text.l0 k x0 ((x3 ++ (⟨#[32]⟩ : ByteArray)) ++ t323) (wrap64 (x4 + 1))) else (none))) else (none)) else ((parterreref04_Quote.f k x5).bind fun t324 => (if x3.size + t324.size ≤ 9223372036854775807 then (parterreref08_Text.l0 k x0 (x3 ++ t324) (wrap64 (x4 + 1))) else (none))))) else (none)) else (none)
end
def parterreref08_Text.f (k : Nat) (l0 : List (List ByteArray)) : Option (ByteArray) := if (l0.length : Int) = 0 then (some (⟨#[110, 111, 110, 101]⟩ : ByteArray)) else ((parterreref08_Good.f k l0).bind fun t321 => (if t321 = true then (parterreref08_Text.l0 k l0 (⟨#[]⟩ : ByteArray) 0) else (some (⟨#[]⟩ : ByteArray))))
theorem parterreref08_Text.mono_l : ∀ k, (∀ y0 y1 y2, LeO (parterreref08_Text.l0 k y0 y1 y2) (parterreref08_Text.l0 (k + 1) y0 y1 y2)) ∧ (∀ y0 y1 y2 y3 y4, LeO (parterreref08_Text.l1 k y0 y1 y2 y3 y4) (parterreref08_Text.l1 (k + 1) y0 y1 y2 y3 y4))
 | 0 => ⟨fun _ _ _ r h => by simp [parterreref08_Text.l0] at h, fun _ _ _ _ _ r h => by simp [parterreref08_Text.l1] at h⟩
 | k + 1 => by
  obtain ⟨ih0, ih1⟩ := parterreref08_Text.mono_l k
  refine ⟨?_, ?_⟩
  ·intro y0 y1 y2
   unfold parterreref08_Text.l0
   repeat' first
   | (with_reducible exact ih0 _ _ _)
   | (with_reducible exact ih1 _ _ _ _ _)
   | (with_reducible exact parterreref04_Quote.mono _ _)
   | (with_reducible exact parterreref08_Good.mono _ _)
   | (with_reducible exact LeO.refl _)
   | (with_reducible exact LeO.none _)
   | (with_reducible refine LeO.ite ?_ ?_)
   | (with_reducible refine LeO.bind ?_ (fun _ => ?_))
  ·intro y0 y1 y2 y3 y4
   unfold parterreref08_Text.l1
   repeat' first
   | (with_reducible exact ih0 _ _ _)
   | (with_reducible exact ih1 _ _ _ _ _)
   | (with_reducible exact parterreref04_Quote.mono _ _)
   | (with_reducible exact parterreref08_Good.mono _ _)
   | (with_reducible exact LeO.refl _)
   | (with_reducible exact LeO.none _)
   | (with_reducible refine LeO.ite ?_ ?_)
   | (with_reducible refine LeO.bind ?_ (fun _ => ?_))
theorem parterreref08_Text.mono : ∀ a0 k, LeO (parterreref08_Text.f k a0) (parterreref08_Text.f (k + 1) a0) := by
 intro a0 k
 obtain ⟨ih0, ih1⟩ := parterreref08_Text.mono_l k
 unfold parterreref08_Text.f
 repeat' first
   | (with_reducible exact ih0 _ _ _)
   | (with_reducible exact ih1 _ _ _ _ _)
   | (with_reducible exact parterreref04_Quote.mono _ _)
   | (with_reducible exact parterreref08_Good.mono _ _)
   | (with_reducible exact LeO.refl _)
   | (with_reducible exact LeO.none _)
   | (with_reducible refine LeO.ite ?_ ?_)
   | (with_reducible refine LeO.bind ?_ (fun _ => ?_))
set_option maxHeartbeats 8000000 in
set_option maxRecDepth 100000 in
theorem parterreref08_Text.calls (k : Nat) (A0 : Option Addr) (c0 : Nat) (l0 : List (List ByteArray)) (r : ByteArray) (w : World) (hr0 : Kd.C (Kd.slice 9 Kd.string) w A0 l0.length l0) (hc0 : l0.length ≤ c0) (h : parterreref08_Text.f k l0 = some r) :
  Calls Tryz.prog 12 #[.slice A0 l0.length c0] w fun e w' => e = .returned (.string r) ∧ Drawn0 w w' := by
 have HR0 := Aside0.mk hr0
 have HC0 := Aside0.mk hc0
 clear hr0 hc0
 have H : (if (l0.length : Int) = 0 then (some (⟨#[110, 111, 110, 101]⟩ : ByteArray)) else ((parterreref08_Good.f k l0).bind fun t321 => (if t321 = true then (parterreref08_Text.l0 k l0 (⟨#[]⟩ : ByteArray) 0) else (some (⟨#[]⟩ : ByteArray))))) = some r := h
 clear h
 by_cases c2 : (l0.length : Int) = 0
 ·rw [if_pos c2] at H
  have c2b0 : ((l0.length : Int) == 0) = true := beq_iff_eq.mpr c2
  have c2b1 : ((l0.length : Int) != 0) = false := bne_eq_false_iff_eq.mpr c2
  clear c2
  obtain rfl := Option.some.inj H
  go_enter Tryz.func12, Tryz.ntmps12
  go_wp2
  go_ret
  exact ⟨by first | rfl | (simp; done) | (simp [*]; done), drs_⟩
 ·rw [if_neg c2] at H
  have c2b0 : ((l0.length : Int) == 0) = false := beq_eq_false_iff_ne.mpr c2
  have c2b1 : ((l0.length : Int) != 0) = true := bne_iff_ne.mpr c2
  have c2b2 : ¬ (l0 = []) := fun h_ => c2 (by rw [h_]; rfl)
  replace H := Option.bind_eq_some_iff.mp H
  obtain ⟨t321, A30, H⟩ := H
  try dsimp only at H
  have A3 := Aside0.mk A30
  clear A30
  by_cases c4 : t321 = true
  ·subst c4
   rw [if_pos rfl] at H
   have H' := Aside0.mk H
   clear H
   go_enter Tryz.func12, Tryz.ntmps12
   go_wp2_with (first | ((with_reducible refine gate_callee (f := 10) rfl ?_); refine goesL_ (some 11) rfl rfl Tryz.func10 (by kernel_rfl) rfl #[.slice A0 l0.length c0] rfl goa_ ?_; (with_reducible refine (parterreref08_Good.calls k _ _ l0 true _ ?side1 ?side2 A3.out).mono ?_); (case side1 => repeat (first | exact HR0.out | (with_reducible refine Kd.C_alloc ?_ _) | (with_reducible refine Kd.C_drewN ?_ _) | (with_reducible refine Kd.C_drew ?_))); (case side2 => exact HC0.out); rintro e w' ⟨rfl, ⟨nd, rfl⟩⟩; refine ⟨_, rfl, ?_⟩))
   go_loopg [3, 4] k (fun kq v3 v4 w' => ∃ (x3_1 : ByteArray) (x4_1 : Int), v3 = .string x3_1 ∧ v4 = .int .i64 x4_1 ∧ Aside0 (parterreref08_Text.l0 kq l0 x3_1 x4_1 = some r) ∧ Aside0 (kq ≤ k) ∧ Drawn0 w w')
   case atStart => exact ⟨((⟨#[]⟩ : ByteArray)), (0), rfs_, rfs_, H', ⟨Nat.le_refl _⟩, drs_⟩
   case round =>
    clear H'
    try clear c2
    try clear c2b0
    try clear c2b1
    try clear c2b2
    try clear c4
    obtain ⟨x3_1, x4_1, rfl, rfl, HA, HK1, ⟨m1, rfl⟩⟩ := hrel
    cases gk with
    | zero => exact absurd HA.out (by simp [parterreref08_Text.l0])
    | succ k1 =>
     have H := HA.out
     clear HA
     simp only [parterreref08_Text.l0] at H
     by_cases c5 : x4_1 < (l0.length : Int)
     ·rw [if_pos c5] at H
      have c5b0 : decide (x4_1 < (l0.length : Int)) = true := decide_eq_true c5
      clear c5
      have H' := Aside0.mk H
      clear H
      go_wp2
      go_loopg [5, 6] k1 (fun kq v5 v6 w' => ∃ (x5_2 : ByteArray) (x6_2 : Int), v5 = .string x5_2 ∧ v6 = .int .i64 x6_2 ∧ Aside0 (parterreref08_Text.l1 kq l0 x3_1 x4_1 x5_2 x6_2 = some r) ∧ Aside0 (kq ≤ k1) ∧ Drawn0 w w')
      case atStart => exact ⟨((⟨#[]⟩ : ByteArray)), (0), rfs_, rfs_, H', ⟨Nat.le_refl _⟩, drs_⟩
      case round =>
       clear H'
       try clear c5b0
       obtain ⟨x5_2, x6_2, rfl, rfl, HA, HK2, ⟨m2, rfl⟩⟩ := hrel
       cases gk with
       | zero => exact absurd HA.out (by simp [parterreref08_Text.l1])
       | succ k2 =>
        have H := HA.out
        clear HA
        simp only [parterreref08_Text.l1] at H
        by_cases c6 : 0 ≤ x4_1
        ·rw [if_pos c6] at H
         have c6b0 : decide (0 ≤ x4_1) = true := decide_eq_true c6
         clear c6
         by_cases c7 : x4_1 < (l0.length : Int)
         ·rw [if_pos c7] at H
          have c7b0 : decide (x4_1 < (l0.length : Int)) = true := decide_eq_true c7
          clear c7
          by_cases c8 : x6_2 < ((rd_L1 l0 x4_1).length : Int)
          ·rw [if_pos c8] at H
           have c8b0 : decide (x6_2 < ((rd_L1 l0 x4_1).length : Int)) = true := decide_eq_true c8
           clear c8
           by_cases c9 : x6_2 > 0
           ·rw [if_pos c9] at H
            have c9b0 : decide (0 < x6_2) = true := decide_eq_true c9
            clear c9
            by_cases c10 : x5_2.size + 1 ≤ 9223372036854775807
            ·rw [if_pos c10] at H
             have c10b0 := eq_true c10
             have c10b1 : decide (x5_2.size + 1 ≤ 9223372036854775807) = true := decide_eq_true c10
             try have c10b2 : (9223372036854775807 < x5_2.size + 1) = False := eq_false (Nat.not_lt.2 c10)
             by_cases c11 : 0 ≤ x6_2
             ·rw [if_pos c11] at H
              have c11b0 : decide (0 ≤ x6_2) = true := decide_eq_true c11
              clear c11
              by_cases c12 : (rdOf ByteArray.empty (rd_L1 l0 x4_1) x6_2).toList = ([] : List UInt8)
              ·rw [if_pos c12] at H
               have c12b0 : ((rdOf ByteArray.empty (rd_L1 l0 x4_1) x6_2).toList == ([] : List UInt8)) = true := beq_iff_eq.mpr c12
               have c12b1 : ((rdOf ByteArray.empty (rd_L1 l0 x4_1) x6_2).toList != ([] : List UInt8)) = false := bne_eq_false_iff_eq.mpr c12
               clear c12
               by_cases c13 : (x5_2 ++ (⟨#[32]⟩ : ByteArray)).size + 1 ≤ 9223372036854775807
               ·rw [if_pos c13] at H
                have c13b0 := eq_true c13
                have c13b1 : decide ((x5_2 ++ (⟨#[32]⟩ : ByteArray)).size + 1 ≤ 9223372036854775807) = true := decide_eq_true c13
                try have c13b2 : (9223372036854775807 < (x5_2 ++ (⟨#[32]⟩ : ByteArray)).size + 1) = False := eq_false (Nat.not_lt.2 c13)
                try have c13b3 : (9223372036854775807 < x5_2.size + 1 + 1) = False := eq_false (Nat.not_lt.2 (by have h_ := c13; simp only [ByteArray.size_append] at h_; exact h_))
                by_cases c14 : ((x5_2 ++ (⟨#[32]⟩ : ByteArray)) ++ (⟨#[46]⟩ : ByteArray)).size + (rdOf ByteArray.empty (rd_L1 l0 x4_1) x6_2).size ≤ 9223372036854775807
                ·rw [if_pos c14] at H
                 have c14b0 := eq_true c14
                 have c14b1 : decide (((x5_2 ++ (⟨#[32]⟩ : ByteArray)) ++ (⟨#[46]⟩ : ByteArray)).size + (rdOf ByteArray.empty (rd_L1 l0 x4_1) x6_2).size ≤ 9223372036854775807) = true := decide_eq_true c14
                 try have c14b2 : (9223372036854775807 < ((x5_2 ++ (⟨#[32]⟩ : ByteArray)) ++ (⟨#[46]⟩ : ByteArray)).size + (rdOf ByteArray.empty (rd_L1 l0 x4_1) x6_2).size) = False := eq_false (Nat.not_lt.2 c14)
                 have H' := Aside0.mk H
                 clear H
                 have p322 : 0 ≤ (x4_1 : Int) := of_decide_eq_true (by first | (with_reducible assumption) | assumption)
                 have q322 : x4_1 < (l0.length : Int) := of_decide_eq_true (by first | (with_reducible assumption) | assumption)
                 obtain ⟨ad322, A322_0, c322_0, e322, hx322_0, hl322_0, hi322_0⟩ := at_L1 HR0.out x4_1 p322 q322
                 cases e322
                 have HR322_0 := Aside0.mk hi322_0
                 have HC322_0 := Aside0.mk hl322_0
                 clear hi322_0 hl322_0
                 replace p322 := eq_true p322
                 replace q322 := eq_true q322
                 have p325 : 0 ≤ (x4_1 : Int) := of_decide_eq_true (by first | (with_reducible assumption) | assumption)
                 have q325 : x4_1 < (l0.length : Int) := of_decide_eq_true (by first | (with_reducible assumption) | assumption)
                 obtain ⟨ad325, A325_0, c325_0, e325, hx325_0, hl325_0, hi325_0⟩ := at_L1 HR0.out x4_1 p325 q325
                 obtain rfl : ad322 = ad325 := (by injection e325)
                 have HR325_0 := Aside0.mk hi325_0
                 have HC325_0 := Aside0.mk hl325_0
                 clear hi325_0 hl325_0
                 replace p325 := eq_true p325
                 replace q325 := eq_true q325
                 have ea_ := Option.some.inj (hx322_0.symm.trans hx325_0)
                 injection ea_ with ea_ en_ ec_
                 subst ea_
                 subst ec_
                 clear en_
                 have p326 : 0 ≤ (x6_2 : Int) := of_decide_eq_true (by first | (with_reducible assumption) | assumption)
                 have q326 : x6_2 < ((rd_L1 l0 x4_1).length : Int) := of_decide_eq_true (by first | (with_reducible assumption) | assumption)
                 obtain ⟨ad326, e326, hx326_0⟩ := Kd.at_string HR325_0.out x6_2 p326 q326
                 cases e326
                 replace p326 := eq_true p326
                 replace q326 := eq_true q326
                 have p327 : 0 ≤ (x4_1 : Int) := of_decide_eq_true (by first | (with_reducible assumption) | assumption)
                 have q327 : x4_1 < (l0.length : Int) := of_decide_eq_true (by first | (with_reducible assumption) | assumption)
                 obtain ⟨ad327, A327_0, c327_0, e327, hx327_0, hl327_0, hi327_0⟩ := at_L1 HR0.out x4_1 p327 q327
                 obtain rfl : ad322 = ad327 := (by injection e327)
                 have HR327_0 := Aside0.mk hi327_0
                 have HC327_0 := Aside0.mk hl327_0
                 clear hi327_0 hl327_0
                 replace p327 := eq_true p327
                 replace q327 := eq_true q327
                 have ea_ := Option.some.inj (hx322_0.symm.trans hx327_0)
                 injection ea_ with ea_ en_ ec_
                 subst ea_
                 subst ec_
                 clear en_
                 have p328 : 0 ≤ (x6_2 : Int) := of_decide_eq_true (by first | (with_reducible assumption) | assumption)
                 have q328 : x6_2 < ((rd_L1 l0 x4_1).length : Int) := of_decide_eq_true (by first | (with_reducible assumption) | assumption)
                 obtain ⟨ad328, e328, hx328_0⟩ := Kd.at_string HR327_0.out x6_2 p328 q328
                 cases e328
                 replace p328 := eq_true p328
                 replace q328 := eq_true q328
                 go_wp2
                 go_roundg k2
                 case measure => have := HK1.out; have := HK2.out; omega
                 case rel => exact ⟨(((x5_2 ++ (⟨#[32]⟩ : ByteArray)) ++ (⟨#[46]⟩ : ByteArray)) ++ (rdOf ByteArray.empty (rd_L1 l0 x4_1) x6_2)), (wrap64 (x6_2 + 1)), rfs_, rfs_, H', ⟨by have := HK1.out; have := HK2.out; omega⟩, drs_⟩
                ·rw [if_neg c14] at H
                 exact absurd H (by simp)
               ·rw [if_neg c13] at H
                exact absurd H (by simp)
              ·rw [if_neg c12] at H
               have c12b0 : ((rdOf ByteArray.empty (rd_L1 l0 x4_1) x6_2).toList == ([] : List UInt8)) = false := beq_eq_false_iff_ne.mpr c12
               have c12b1 : ((rdOf ByteArray.empty (rd_L1 l0 x4_1) x6_2).toList != ([] : List UInt8)) = true := bne_iff_ne.mpr c12
               by_cases c15 : (x5_2 ++ (⟨#[32]⟩ : ByteArray)).size + (rdOf ByteArray.empty (rd_L1 l0 x4_1) x6_2).size ≤ 9223372036854775807
               ·rw [if_pos c15] at H
                have c15b0 := eq_true c15
                have c15b1 : decide ((x5_2 ++ (⟨#[32]⟩ : ByteArray)).size + (rdOf ByteArray.empty (rd_L1 l0 x4_1) x6_2).size ≤ 9223372036854775807) = true := decide_eq_true c15
                try have c15b2 : (9223372036854775807 < (x5_2 ++ (⟨#[32]⟩ : ByteArray)).size + (rdOf ByteArray.empty (rd_L1 l0 x4_1) x6_2).size) = False := eq_false (Nat.not_lt.2 c15)
                have H' := Aside0.mk H
                clear H
                have p322 : 0 ≤ (x4_1 : Int) := of_decide_eq_true (by first | (with_reducible assumption) | assumption)
                have q322 : x4_1 < (l0.length : Int) := of_decide_eq_true (by first | (with_reducible assumption) | assumption)
                obtain ⟨ad322, A322_0, c322_0, e322, hx322_0, hl322_0, hi322_0⟩ := at_L1 HR0.out x4_1 p322 q322
                cases e322
                have HR322_0 := Aside0.mk hi322_0
                have HC322_0 := Aside0.mk hl322_0
                clear hi322_0 hl322_0
                replace p322 := eq_true p322
                replace q322 := eq_true q322
                have p325 : 0 ≤ (x4_1 : Int) := of_decide_eq_true (by first | (with_reducible assumption) | assumption)
                have q325 : x4_1 < (l0.length : Int) := of_decide_eq_true (by first | (with_reducible assumption) | assumption)
                obtain ⟨ad325, A325_0, c325_0, e325, hx325_0, hl325_0, hi325_0⟩ := at_L1 HR0.out x4_1 p325 q325
                obtain rfl : ad322 = ad325 := (by injection e325)
                have HR325_0 := Aside0.mk hi325_0
                have HC325_0 := Aside0.mk hl325_0
                clear hi325_0 hl325_0
                replace p325 := eq_true p325
                replace q325 := eq_true q325
                have ea_ := Option.some.inj (hx322_0.symm.trans hx325_0)
                injection ea_ with ea_ en_ ec_
                subst ea_
                subst ec_
                clear en_
                have p326 : 0 ≤ (x6_2 : Int) := of_decide_eq_true (by first | (with_reducible assumption) | assumption)
                have q326 : x6_2 < ((rd_L1 l0 x4_1).length : Int) := of_decide_eq_true (by first | (with_reducible assumption) | assumption)
                obtain ⟨ad326, e326, hx326_0⟩ := Kd.at_string HR325_0.out x6_2 p326 q326
                cases e326
                replace p326 := eq_true p326
                replace q326 := eq_true q326
                have p329 : 0 ≤ (x4_1 : Int) := of_decide_eq_true (by first | (with_reducible assumption) | assumption)
                have q329 : x4_1 < (l0.length : Int) := of_decide_eq_true (by first | (with_reducible assumption) | assumption)
                obtain ⟨ad329, A329_0, c329_0, e329, hx329_0, hl329_0, hi329_0⟩ := at_L1 HR0.out x4_1 p329 q329
                obtain rfl : ad322 = ad329 := (by injection e329)
                have HR329_0 := Aside0.mk hi329_0
                have HC329_0 := Aside0.mk hl329_0
                clear hi329_0 hl329_0
                replace p329 := eq_true p329
                replace q329 := eq_true q329
                have ea_ := Option.some.inj (hx322_0.symm.trans hx329_0)
                injection ea_ with ea_ en_ ec_
                subst ea_
                subst ec_
                clear en_
                have p330 : 0 ≤ (x6_2 : Int) := of_decide_eq_true (by first | (with_reducible assumption) | assumption)
                have q330 : x6_2 < ((rd_L1 l0 x4_1).length : Int) := of_decide_eq_true (by first | (with_reducible assumption) | assumption)
                obtain ⟨ad330, e330, hx330_0⟩ := Kd.at_string HR329_0.out x6_2 p330 q330
                cases e330
                replace p330 := eq_true p330
                replace q330 := eq_true q330
                go_wp2
                go_roundg k2
                case measure => have := HK1.out; have := HK2.out; omega
                case rel => exact ⟨((x5_2 ++ (⟨#[32]⟩ : ByteArray)) ++ (rdOf ByteArray.empty (rd_L1 l0 x4_1) x6_2)), (wrap64 (x6_2 + 1)), rfs_, rfs_, H', ⟨by have := HK1.out; have := HK2.out; omega⟩, drs_⟩
               ·rw [if_neg c15] at H
                exact absurd H (by simp)
             ·rw [if_neg c11] at H
              exact absurd H (by simp)
            ·rw [if_neg c10] at H
             exact absurd H (by simp)
           ·rw [if_neg c9] at H
            have c9b0 : decide (0 < x6_2) = false := decide_eq_false c9
            clear c9
            by_cases c16 : 0 ≤ x6_2
            ·rw [if_pos c16] at H
             have c16b0 : decide (0 ≤ x6_2) = true := decide_eq_true c16
             clear c16
             by_cases c17 : (rdOf ByteArray.empty (rd_L1 l0 x4_1) x6_2).toList = ([] : List UInt8)
             ·rw [if_pos c17] at H
              have c17b0 : ((rdOf ByteArray.empty (rd_L1 l0 x4_1) x6_2).toList == ([] : List UInt8)) = true := beq_iff_eq.mpr c17
              have c17b1 : ((rdOf ByteArray.empty (rd_L1 l0 x4_1) x6_2).toList != ([] : List UInt8)) = false := bne_eq_false_iff_eq.mpr c17
              clear c17
              by_cases c18 : x5_2.size + 1 ≤ 9223372036854775807
              ·rw [if_pos c18] at H
               have c18b0 := eq_true c18
               have c18b1 : decide (x5_2.size + 1 ≤ 9223372036854775807) = true := decide_eq_true c18
               try have c18b2 : (9223372036854775807 < x5_2.size + 1) = False := eq_false (Nat.not_lt.2 c18)
               by_cases c19 : (x5_2 ++ (⟨#[46]⟩ : ByteArray)).size + (rdOf ByteArray.empty (rd_L1 l0 x4_1) x6_2).size ≤ 9223372036854775807
               ·rw [if_pos c19] at H
                have c19b0 := eq_true c19
                have c19b1 : decide ((x5_2 ++ (⟨#[46]⟩ : ByteArray)).size + (rdOf ByteArray.empty (rd_L1 l0 x4_1) x6_2).size ≤ 9223372036854775807) = true := decide_eq_true c19
                try have c19b2 : (9223372036854775807 < (x5_2 ++ (⟨#[46]⟩ : ByteArray)).size + (rdOf ByteArray.empty (rd_L1 l0 x4_1) x6_2).size) = False := eq_false (Nat.not_lt.2 c19)
                have H' := Aside0.mk H
                clear H
                have p322 : 0 ≤ (x4_1 : Int) := of_decide_eq_true (by first | (with_reducible assumption) | assumption)
                have q322 : x4_1 < (l0.length : Int) := of_decide_eq_true (by first | (with_reducible assumption) | assumption)
                obtain ⟨ad322, A322_0, c322_0, e322, hx322_0, hl322_0, hi322_0⟩ := at_L1 HR0.out x4_1 p322 q322
                cases e322
                have HR322_0 := Aside0.mk hi322_0
                have HC322_0 := Aside0.mk hl322_0
                clear hi322_0 hl322_0
                replace p322 := eq_true p322
                replace q322 := eq_true q322
                have p331 : 0 ≤ (x4_1 : Int) := of_decide_eq_true (by first | (with_reducible assumption) | assumption)
                have q331 : x4_1 < (l0.length : Int) := of_decide_eq_true (by first | (with_reducible assumption) | assumption)
                obtain ⟨ad331, A331_0, c331_0, e331, hx331_0, hl331_0, hi331_0⟩ := at_L1 HR0.out x4_1 p331 q331
                obtain rfl : ad322 = ad331 := (by injection e331)
                have HR331_0 := Aside0.mk hi331_0
                have HC331_0 := Aside0.mk hl331_0
                clear hi331_0 hl331_0
                replace p331 := eq_true p331
                replace q331 := eq_true q331
                have ea_ := Option.some.inj (hx322_0.symm.trans hx331_0)
                injection ea_ with ea_ en_ ec_
                subst ea_
                subst ec_
                clear en_
                have p332 : 0 ≤ (x6_2 : Int) := of_decide_eq_true (by first | (with_reducible assumption) | assumption)
                have q332 : x6_2 < ((rd_L1 l0 x4_1).length : Int) := of_decide_eq_true (by first | (with_reducible assumption) | assumption)
                obtain ⟨ad332, e332, hx332_0⟩ := Kd.at_string HR331_0.out x6_2 p332 q332
                cases e332
                replace p332 := eq_true p332
                replace q332 := eq_true q332
                have p333 : 0 ≤ (x4_1 : Int) := of_decide_eq_true (by first | (with_reducible assumption) | assumption)
                have q333 : x4_1 < (l0.length : Int) := of_decide_eq_true (by first | (with_reducible assumption) | assumption)
                obtain ⟨ad333, A333_0, c333_0, e333, hx333_0, hl333_0, hi333_0⟩ := at_L1 HR0.out x4_1 p333 q333
                obtain rfl : ad322 = ad333 := (by injection e333)
                have HR333_0 := Aside0.mk hi333_0
                have HC333_0 := Aside0.mk hl333_0
                clear hi333_0 hl333_0
                replace p333 := eq_true p333
                replace q333 := eq_true q333
                have ea_ := Option.some.inj (hx322_0.symm.trans hx333_0)
                injection ea_ with ea_ en_ ec_
                subst ea_
                subst ec_
                clear en_
                have p334 : 0 ≤ (x6_2 : Int) := of_decide_eq_true (by first | (with_reducible assumption) | assumption)
                have q334 : x6_2 < ((rd_L1 l0 x4_1).length : Int) := of_decide_eq_true (by first | (with_reducible assumption) | assumption)
                obtain ⟨ad334, e334, hx334_0⟩ := Kd.at_string HR333_0.out x6_2 p334 q334
                cases e334
                replace p334 := eq_true p334
                replace q334 := eq_true q334
                go_wp2
                go_roundg k2
                case measure => have := HK1.out; have := HK2.out; omega
                case rel => exact ⟨((x5_2 ++ (⟨#[46]⟩ : ByteArray)) ++ (rdOf ByteArray.empty (rd_L1 l0 x4_1) x6_2)), (wrap64 (x6_2 + 1)), rfs_, rfs_, H', ⟨by have := HK1.out; have := HK2.out; omega⟩, drs_⟩
               ·rw [if_neg c19] at H
                exact absurd H (by simp)
              ·rw [if_neg c18] at H
               exact absurd H (by simp)
             ·rw [if_neg c17] at H
              have c17b0 : ((rdOf ByteArray.empty (rd_L1 l0 x4_1) x6_2).toList == ([] : List UInt8)) = false := beq_eq_false_iff_ne.mpr c17
              have c17b1 : ((rdOf ByteArray.empty (rd_L1 l0 x4_1) x6_2).toList != ([] : List UInt8)) = true := bne_iff_ne.mpr c17
              by_cases c20 : x5_2.size + (rdOf ByteArray.empty (rd_L1 l0 x4_1) x6_2).size ≤ 9223372036854775807
              ·rw [if_pos c20] at H
               have c20b0 := eq_true c20
               have c20b1 : decide (x5_2.size + (rdOf ByteArray.empty (rd_L1 l0 x4_1) x6_2).size ≤ 9223372036854775807) = true := decide_eq_true c20
               try have c20b2 : (9223372036854775807 < x5_2.size + (rdOf ByteArray.empty (rd_L1 l0 x4_1) x6_2).size) = False := eq_false (Nat.not_lt.2 c20)
               have H' := Aside0.mk H
               clear H
               have p322 : 0 ≤ (x4_1 : Int) := of_decide_eq_true (by first | (with_reducible assumption) | assumption)
               have q322 : x4_1 < (l0.length : Int) := of_decide_eq_true (by first | (with_reducible assumption) | assumption)
               obtain ⟨ad322, A322_0, c322_0, e322, hx322_0, hl322_0, hi322_0⟩ := at_L1 HR0.out x4_1 p322 q322
               cases e322
               have HR322_0 := Aside0.mk hi322_0
               have HC322_0 := Aside0.mk hl322_0
               clear hi322_0 hl322_0
               replace p322 := eq_true p322
               replace q322 := eq_true q322
               have p331 : 0 ≤ (x4_1 : Int) := of_decide_eq_true (by first | (with_reducible assumption) | assumption)
               have q331 : x4_1 < (l0.length : Int) := of_decide_eq_true (by first | (with_reducible assumption) | assumption)
               obtain ⟨ad331, A331_0, c331_0, e331, hx331_0, hl331_0, hi331_0⟩ := at_L1 HR0.out x4_1 p331 q331
               obtain rfl : ad322 = ad331 := (by injection e331)
               have HR331_0 := Aside0.mk hi331_0
               have HC331_0 := Aside0.mk hl331_0
               clear hi331_0 hl331_0
               replace p331 := eq_true p331
               replace q331 := eq_true q331
               have ea_ := Option.some.inj (hx322_0.symm.trans hx331_0)
               injection ea_ with ea_ en_ ec_
               subst ea_
               subst ec_
               clear en_
               have p332 : 0 ≤ (x6_2 : Int) := of_decide_eq_true (by first | (with_reducible assumption) | assumption)
               have q332 : x6_2 < ((rd_L1 l0 x4_1).length : Int) := of_decide_eq_true (by first | (with_reducible assumption) | assumption)
               obtain ⟨ad332, e332, hx332_0⟩ := Kd.at_string HR331_0.out x6_2 p332 q332
               cases e332
               replace p332 := eq_true p332
               replace q332 := eq_true q332
               have p335 : 0 ≤ (x4_1 : Int) := of_decide_eq_true (by first | (with_reducible assumption) | assumption)
               have q335 : x4_1 < (l0.length : Int) := of_decide_eq_true (by first | (with_reducible assumption) | assumption)
               obtain ⟨ad335, A335_0, c335_0, e335, hx335_0, hl335_0, hi335_0⟩ := at_L1 HR0.out x4_1 p335 q335
               obtain rfl : ad322 = ad335 := (by injection e335)
               have HR335_0 := Aside0.mk hi335_0
               have HC335_0 := Aside0.mk hl335_0
               clear hi335_0 hl335_0
               replace p335 := eq_true p335
               replace q335 := eq_true q335
               have ea_ := Option.some.inj (hx322_0.symm.trans hx335_0)
               injection ea_ with ea_ en_ ec_
               subst ea_
               subst ec_
               clear en_
               have p336 : 0 ≤ (x6_2 : Int) := of_decide_eq_true (by first | (with_reducible assumption) | assumption)
               have q336 : x6_2 < ((rd_L1 l0 x4_1).length : Int) := of_decide_eq_true (by first | (with_reducible assumption) | assumption)
               obtain ⟨ad336, e336, hx336_0⟩ := Kd.at_string HR335_0.out x6_2 p336 q336
               cases e336
               replace p336 := eq_true p336
               replace q336 := eq_true q336
               go_wp2
               go_roundg k2
               case measure => have := HK1.out; have := HK2.out; omega
               case rel => exact ⟨(x5_2 ++ (rdOf ByteArray.empty (rd_L1 l0 x4_1) x6_2)), (wrap64 (x6_2 + 1)), rfs_, rfs_, H', ⟨by have := HK1.out; have := HK2.out; omega⟩, drs_⟩
              ·rw [if_neg c20] at H
               exact absurd H (by simp)
            ·rw [if_neg c16] at H
             exact absurd H (by simp)
          ·rw [if_neg c8] at H
           have c8b0 : decide (x6_2 < ((rd_L1 l0 x4_1).length : Int)) = false := decide_eq_false c8
           clear c8
           by_cases c21 : x4_1 > 0
           ·rw [if_pos c21] at H
            have c21b0 : decide (0 < x4_1) = true := decide_eq_true c21
            clear c21
            by_cases c22 : x3_1.size + 1 ≤ 9223372036854775807
            ·rw [if_pos c22] at H
             have c22b0 := eq_true c22
             have c22b1 : decide (x3_1.size + 1 ≤ 9223372036854775807) = true := decide_eq_true c22
             try have c22b2 : (9223372036854775807 < x3_1.size + 1) = False := eq_false (Nat.not_lt.2 c22)
             replace H := Option.bind_eq_some_iff.mp H
             obtain ⟨t323, A230, H⟩ := H
             try dsimp only at H
             have A23 := Aside0.mk A230
             clear A230
             by_cases c24 : (x3_1 ++ (⟨#[32]⟩ : ByteArray)).size + t323.size ≤ 9223372036854775807
             ·rw [if_pos c24] at H
              have c24b0 := eq_true c24
              have c24b1 : decide ((x3_1 ++ (⟨#[32]⟩ : ByteArray)).size + t323.size ≤ 9223372036854775807) = true := decide_eq_true c24
              try have c24b2 : (9223372036854775807 < (x3_1 ++ (⟨#[32]⟩ : ByteArray)).size + t323.size) = False := eq_false (Nat.not_lt.2 c24)
              try have c24b3 : (9223372036854775807 < x3_1.size + 1 + t323.size) = False := eq_false (Nat.not_lt.2 (by have h_ := c24; simp only [ByteArray.size_append] at h_; exact h_))
              have H' := Aside0.mk H
              clear H
              have p322 : 0 ≤ (x4_1 : Int) := of_decide_eq_true (by first | (with_reducible assumption) | assumption)
              have q322 : x4_1 < (l0.length : Int) := of_decide_eq_true (by first | (with_reducible assumption) | assumption)
              obtain ⟨ad322, A322_0, c322_0, e322, hx322_0, hl322_0, hi322_0⟩ := at_L1 HR0.out x4_1 p322 q322
              cases e322
              have HR322_0 := Aside0.mk hi322_0
              have HC322_0 := Aside0.mk hl322_0
              clear hi322_0 hl322_0
              replace p322 := eq_true p322
              replace q322 := eq_true q322
              go_wp2_with (first | ((with_reducible refine gate_callee (f := 32) rfl ?_); refine goesL_ (some 57) rfl rfl Tryz.func32 (by kernel_rfl) rfl #[.string x5_2] rfl goa_ ?_; (with_reducible refine (parterreref04_Quote.calls k2 x5_2 t323 _ A23.out).mono ?_); rintro e w' ⟨rfl, ⟨nd, rfl⟩⟩; refine ⟨_, rfl, ?_⟩))
              go_roundg k2
              case measure => have := HK1.out; have := HK2.out; omega
              case rel => exact ⟨((x3_1 ++ (⟨#[32]⟩ : ByteArray)) ++ t323), (wrap64 (x4_1 + 1)), rfs_, rfs_, H', ⟨by have := HK1.out; have := HK2.out; omega⟩, drs_⟩
             ·rw [if_neg c24] at H
              exact absurd H (by simp)
            ·rw [if_neg c22] at H
             exact absurd H (by simp)
           ·rw [if_neg c21] at H
            have c21b0 : decide (0 < x4_1) = false := decide_eq_false c21
            clear c21
            replace H := Option.bind_eq_some_iff.mp H
            obtain ⟨t324, A250, H⟩ := H
            try dsimp only at H
            have A25 := Aside0.mk A250
            clear A250
            by_cases c26 : x3_1.size + t324.size ≤ 9223372036854775807
            ·rw [if_pos c26] at H
             have c26b0 := eq_true c26
             have c26b1 : decide (x3_1.size + t324.size ≤ 9223372036854775807) = true := decide_eq_true c26
             try have c26b2 : (9223372036854775807 < x3_1.size + t324.size) = False := eq_false (Nat.not_lt.2 c26)
             have H' := Aside0.mk H
             clear H
             have p322 : 0 ≤ (x4_1 : Int) := of_decide_eq_true (by first | (with_reducible assumption) | assumption)
             have q322 : x4_1 < (l0.length : Int) := of_decide_eq_true (by first | (with_reducible assumption) | assumption)
             obtain ⟨ad322, A322_0, c322_0, e322, hx322_0, hl322_0, hi322_0⟩ := at_L1 HR0.out x4_1 p322 q322
             cases e322
             have HR322_0 := Aside0.mk hi322_0
             have HC322_0 := Aside0.mk hl322_0
             clear hi322_0 hl322_0
             replace p322 := eq_true p322
             replace q322 := eq_true q322
             go_wp2_with (first | ((with_reducible refine gate_callee (f := 32) rfl ?_); refine goesL_ (some 57) rfl rfl Tryz.func32 (by kernel_rfl) rfl #[.string x5_2] rfl goa_ ?_; (with_reducible refine (parterreref04_Quote.calls k2 x5_2 t324 _ A25.out).mono ?_); rintro e w' ⟨rfl, ⟨nd, rfl⟩⟩; refine ⟨_, rfl, ?_⟩))
             go_roundg k2
             case measure => have := HK1.out; have := HK2.out; omega
             case rel => exact ⟨(x3_1 ++ t324), (wrap64 (x4_1 + 1)), rfs_, rfs_, H', ⟨by have := HK1.out; have := HK2.out; omega⟩, drs_⟩
            ·rw [if_neg c26] at H
             exact absurd H (by simp)
         ·rw [if_neg c7] at H
          exact absurd H (by simp)
        ·rw [if_neg c6] at H
         exact absurd H (by simp)
     ·rw [if_neg c5] at H
      have c5b0 : decide (x4_1 < (l0.length : Int)) = false := decide_eq_false c5
      clear c5
      obtain rfl := Option.some.inj H
      go_wp2
      go_ret
      exact ⟨by first | rfl | (simp; done) | (simp [*]; done), drs_⟩
  ·replace c4 := Bool.eq_false_iff.mpr c4
   subst c4
   rw [if_neg (show ¬ (false = true) by decide)] at H
   obtain rfl := Option.some.inj H
   go_enter Tryz.func12, Tryz.ntmps12
   go_wp2_with (first | ((with_reducible refine gate_callee (f := 10) rfl ?_); refine goesL_ (some 11) rfl rfl Tryz.func10 (by kernel_rfl) rfl #[.slice A0 l0.length c0] rfl goa_ ?_; (with_reducible refine (parterreref08_Good.calls k _ _ l0 false _ ?side1 ?side2 A3.out).mono ?_); (case side1 => repeat (first | exact HR0.out | (with_reducible refine Kd.C_alloc ?_ _) | (with_reducible refine Kd.C_drewN ?_ _) | (with_reducible refine Kd.C_drew ?_))); (case side2 => exact HC0.out); rintro e w' ⟨rfl, ⟨nd, rfl⟩⟩; refine ⟨_, rfl, ?_⟩))
   go_ret
   exact ⟨by first | rfl | (simp; done) | (simp [*]; done), drs_⟩

end Go.Proofs.YtofdhdafabmhmaaGreatDoor.PAr
end
