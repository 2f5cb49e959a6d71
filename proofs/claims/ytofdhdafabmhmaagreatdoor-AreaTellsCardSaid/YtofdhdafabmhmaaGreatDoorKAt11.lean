/- AreaTellsCardSaid, part 12 of 15: contracts of the program's functions, the words that they use, and the plain laws on what they compute. Conditions: none beyond what the statements say. -/
import Derived.Test.YtofdhdafabmhmaaGreatDoorKAt1
import Derived.Test.YtofdhdafabmhmaaGreatDoorKAt2
import Derived.Test.YtofdhdafabmhmaaGreatDoorKAt3
import Derived.Test.YtofdhdafabmhmaaGreatDoorKAt8
import Derived.Test.YtofdhdafabmhmaaGreatDoorKAt9
import Derived.Test.YtofdhdafabmhmaaGreatDoorKAt10
set_option linter.unusedVariables false
set_option linter.unusedSimpArgs false
section
namespace Go.Proofs.YtofdhdafabmhmaaGreatDoor.PAr
open Go.RowKit Go.Proofs.YtofdhdafabmhmaaGreatDoorW.PrintWords Go.Proofs.YtofdhdafabmhmaaGreatDoorW.PrintLast Go.Proofs.YtofdhdafabmhmaaGreatDoorW.PrintMore
attribute [local go_sem] max2_int min2_int max_two min_two max_three min_three max_four min_four
open Go.Proofs.YtofdhdafabmhmaaGreatDoor.Opn Go.Proofs.YtofdhdafabmhmaaGreatDoor.Giv

/-! ### area_same_string: function 33 -/
mutual
def area_same_string.l0 : Nat → List (List ByteArray) → List (List ByteArray) → Int → Int → Option (Bool)
 | 0, _, _, _, _ => none
 | k + 1, x0, x1, x13, x14 => if x14 < x13 then (if 0 ≤ x14 then (if x14 < (x0.length : Int) then (if x14 < (x1.length : Int) then (if ((rd_L1 x0 x14).length : Int) = ((rd_L1 x1 x14).length : Int) then (area_same_string.l1 k x0 x1 x14 x13 x14 ((rd_L1 x0 x14).length : Int) 0) else (some false)) else (none)) else (none)) else (none)) else (some true)
def area_same_string.l1 : Nat → List (List ByteArray) → List (List ByteArray) → Int → Int → Int → Int → Int → Option (Bool)
 | 0, _, _, _, _, _, _, _ => none
 | k + 1, x0, x1, x5, x13, x14, x32, x33 => if x33 < x32 then (if 0 ≤ x5 then (if x5 < (x0.length : Int) then (if 0 ≤ x33 then (if x33 < ((rd_L1 x0 x5).length : Int) then (if x5 < (x1.length : Int) then (if x33 < ((rd_L1 x1 x5).length : Int) then (if (rdOf ByteArray.empty (rd_L1 x0 x5) x33).toList = (rdOf ByteArray.empty (rd_L1 x1 x5) x33).toList then (area_same_string.l1 k x0 x1 x5 x13 x14 x32 (wrap64 (x33 + 1))) else (some false)) else (none)) else (none)) else (none)) else (none)) else (none)) else (none)) else (area_same_string.l0 k x0 x1 x13 (wrap64 (x14 + 1)))
end
def area_same_string.f (k : Nat) (l0 : List (List ByteArray)) (l1 : List (List ByteArray)) : Option (Bool) := if (l0.length : Int) = (l1.length : Int) then (area_same_string.l0 k l0 l1 (l0.length : Int) 0) else (some false)
theorem area_same_string.mono_l : ∀ k, (∀ y0 y1 y2 y3, LeO (area_same_string.l0 k y0 y1 y2 y3) (area_same_string.l0 (k + 1) y0 y1 y2 y3)) ∧ (∀ y0 y1 y2 y3 y4 y5 y6, LeO (area_same_string.l1 k y0 y1 y2 y3 y4 y5 y6) (area_same_string.l1 (k + 1) y0 y1 y2 y3 y4 y5 y6))
 | 0 => ⟨fun _ _ _ _ r h => by simp [area_same_string.l0] at h, fun _ _ _ _ _ _ _ r h => by simp [area_same_string.l1] at h⟩
 | k + 1 => by
  obtain ⟨ih0, ih1⟩ := area_same_string.mono_l k
  refine ⟨?_, ?_⟩
  ·intro y0 y1 y2 y3
   unfold area_same_string.l0
   repeat' first
   | (with_reducible exact ih0 _ _ _ _)
   | (with_reducible exact ih1 _ _ _ _ _ _ _)
   | (with_reducible exact LeO.refl _)
   | (with_reducible exact LeO.none _)
   | (with_reducible refine LeO.ite ?_ ?_)
   | (with_reducible refine LeO.bind ?_ (fun _ => ?_))
  ·intro y0 y1 y2 y3 y4 y5 y6
   unfold area_same_string.l1
   repeat' first
   | (with_reducible exact ih0 _ _ _ _)
   | (with_reducible exact ih1 _ _ _ _ _ _ _)
   | (with_reducible exact LeO.refl _)
   | (with_reducible exact LeO.none _)
   | (with_reducible refine LeO.ite ?_ ?_)
   | (with_reducible refine LeO.bind ?_ (fun _ => ?_))
theorem area_same_string.mono : ∀ a0 a1 k, LeO (area_same_string.f k a0 a1) (area_same_string.f (k + 1) a0 a1) := by
 intro a0 a1 k
 obtain ⟨ih0, ih1⟩ := area_same_string.mono_l k
 unfold area_same_string.f
 repeat' first
   | (with_reducible exact ih0 _ _ _ _)
   | (with_reducible exact ih1 _ _ _ _ _ _ _)
   | (with_reducible exact LeO.refl _)
   | (with_reducible exact LeO.none _)
   | (with_reducible refine LeO.ite ?_ ?_)
   | (with_reducible refine LeO.bind ?_ (fun _ => ?_))
set_option maxHeartbeats 8000000 in
set_option maxRecDepth 100000 in
theorem area_same_string.calls (k : Nat) (A0 : Option Addr) (c0 : Nat) (l0 : List (List ByteArray)) (A1 : Option Addr) (c1 : Nat) (l1 : List (List ByteArray)) (r : Bool) (w : World) (hr0 : Kd.C (Kd.slice 9 Kd.string) w A0 l0.length l0) (hc0 : l0.length ≤ c0) (hr1 : Kd.C (Kd.slice 9 Kd.string) w A1 l1.length l1) (hc1 : l1.length ≤ c1) (h : area_same_string.f k l0 l1 = some r) :
  Calls Tryz.prog 33 #[.slice A0 l0.length c0, .slice A1 l1.length c1] w fun e w' => e = .returned (.bool r) ∧ Drawn0 w w' := by
 have HR0 := Aside0.mk hr0
 have HC0 := Aside0.mk hc0
 clear hr0 hc0
 have HR1 := Aside0.mk hr1
 have HC1 := Aside0.mk hc1
 clear hr1 hc1
 have H : (if (l0.length : Int) = (l1.length : Int) then (area_same_string.l0 k l0 l1 (l0.length : Int) 0) else (some false)) = some r := h
 clear h
 by_cases c3 : (l0.length : Int) = (l1.length : Int)
 ·rw [if_pos c3] at H
  have c3b0 : ((l0.length : Int) == (l1.length : Int)) = true := beq_iff_eq.mpr c3
  have c3b1 : ((l0.length : Int) != (l1.length : Int)) = false := bne_eq_false_iff_eq.mpr c3
  have c3b2 : (l0.length == l1.length) = true := by first | simpa using c3 | (simp at c3 ⊢; omega)
  clear c3
  have H' := Aside0.mk H
  clear H
  go_enter Tryz.func33, Tryz.ntmps33
  go_wp2
  repeat (go_quiet (fail); try go_wp2)
  go_loopg [14] k (fun kq v14 w' => ∃ (x14_1 : Int), v14 = .int .i64 x14_1 ∧ Aside0 (area_same_string.l0 kq l0 l1 (l0.length : Int) x14_1 = some r) ∧ Aside0 (kq ≤ k) ∧ Drawn0 w w')
  case atStart => exact ⟨(0), rfs_, H', ⟨Nat.le_refl _⟩, drs_⟩
  case round =>
   clear H'
   try clear c3b0
   try clear c3b1
   try clear c3b2
   obtain ⟨x14_1, rfl, HA, HK1, ⟨m1, rfl⟩⟩ := hrel
   cases gk with
   | zero => exact absurd HA.out (by simp [area_same_string.l0])
   | succ k1 =>
    have H := HA.out
    clear HA
    simp only [area_same_string.l0] at H
    by_cases c4 : x14_1 < (l0.length : Int)
    ·rw [if_pos c4] at H
     have c4b0 : decide (x14_1 < (l0.length : Int)) = true := decide_eq_true c4
     clear c4
     by_cases c5 : 0 ≤ x14_1
     ·rw [if_pos c5] at H
      have c5b0 : decide (0 ≤ x14_1) = true := decide_eq_true c5
      clear c5
      by_cases c6 : x14_1 < (l0.length : Int)
      ·rw [if_pos c6] at H
       have c6b0 : decide (x14_1 < (l0.length : Int)) = true := decide_eq_true c6
       clear c6
       by_cases c7 : x14_1 < (l1.length : Int)
       ·rw [if_pos c7] at H
        have c7b0 : decide (x14_1 < (l1.length : Int)) = true := decide_eq_true c7
        clear c7
        by_cases c8 : ((rd_L1 l0 x14_1).length : Int) = ((rd_L1 l1 x14_1).length : Int)
        ·rw [if_pos c8] at H
         have c8b0 : (((rd_L1 l0 x14_1).length : Int) == ((rd_L1 l1 x14_1).length : Int)) = true := beq_iff_eq.mpr c8
         have c8b1 : (((rd_L1 l0 x14_1).length : Int) != ((rd_L1 l1 x14_1).length : Int)) = false := bne_eq_false_iff_eq.mpr c8
         have c8b2 : ((rd_L1 l0 x14_1).length == (rd_L1 l1 x14_1).length) = true := by first | simpa using c8 | (simp at c8 ⊢; omega)
         clear c8
         have H' := Aside0.mk H
         clear H
         have p337 : 0 ≤ (x14_1 : Int) := of_decide_eq_true (by first | (with_reducible assumption) | assumption)
         have q337 : x14_1 < (l0.length : Int) := of_decide_eq_true (by first | (with_reducible assumption) | assumption)
         obtain ⟨ad337, A337_0, c337_0, e337, hx337_0, hl337_0, hi337_0⟩ := at_L1 HR0.out x14_1 p337 q337
         cases e337
         have HR337_0 := Aside0.mk hi337_0
         have HC337_0 := Aside0.mk hl337_0
         clear hi337_0 hl337_0
         replace p337 := eq_true p337
         replace q337 := eq_true q337
         have p338 : 0 ≤ (x14_1 : Int) := of_decide_eq_true (by first | (with_reducible assumption) | assumption)
         have q338 : x14_1 < (l1.length : Int) := of_decide_eq_true (by first | (with_reducible assumption) | assumption)
         obtain ⟨ad338, A338_0, c338_0, e338, hx338_0, hl338_0, hi338_0⟩ := at_L1 HR1.out x14_1 p338 q338
         cases e338
         have HR338_0 := Aside0.mk hi338_0
         have HC338_0 := Aside0.mk hl338_0
         clear hi338_0 hl338_0
         replace p338 := eq_true p338
         replace q338 := eq_true q338
         have p339 : 0 ≤ (x14_1 : Int) := of_decide_eq_true (by first | (with_reducible assumption) | assumption)
         have q339 : x14_1 < (l0.length : Int) := of_decide_eq_true (by first | (with_reducible assumption) | assumption)
         obtain ⟨ad339, A339_0, c339_0, e339, hx339_0, hl339_0, hi339_0⟩ := at_L1 HR0.out x14_1 p339 q339
         obtain rfl : ad337 = ad339 := (by injection e339)
         have HR339_0 := Aside0.mk hi339_0
         have HC339_0 := Aside0.mk hl339_0
         clear hi339_0 hl339_0
         replace p339 := eq_true p339
         replace q339 := eq_true q339
         have ea_ := Option.some.inj (hx337_0.symm.trans hx339_0)
         injection ea_ with ea_ en_ ec_
         subst ea_
         subst ec_
         clear en_
         go_wp2
         repeat (go_quiet (fail); try go_wp2)
         go_loopg [33] k1 (fun kq v33 w' => ∃ (x33_2 : Int), v33 = .int .i64 x33_2 ∧ Aside0 (area_same_string.l1 kq l0 l1 x14_1 (l0.length : Int) x14_1 ((rd_L1 l0 x14_1).length : Int) x33_2 = some r) ∧ Aside0 (kq ≤ k1) ∧ Drawn0 w w')
         case atStart => exact ⟨(0), rfs_, H', ⟨Nat.le_refl _⟩, drs_⟩
         case round =>
          clear H'
          try clear c4b0
          try clear c5b0
          try clear c6b0
          try clear c7b0
          try clear c8b0
          try clear c8b1
          try clear c8b2
          try clear hx337_0
          try clear hx338_0
          try clear hx339_0
          try clear p337
          try clear p338
          try clear p339
          try clear q337
          try clear q338
          try clear q339
          obtain ⟨x33_2, rfl, HA, HK2, ⟨m2, rfl⟩⟩ := hrel
          cases gk with
          | zero => exact absurd HA.out (by simp [area_same_string.l1])
          | succ k2 =>
           have H := HA.out
           clear HA
           simp only [area_same_string.l1] at H
           by_cases c9 : x33_2 < ((rd_L1 l0 x14_1).length : Int)
           ·rw [if_pos c9] at H
            have c9b0 : decide (x33_2 < ((rd_L1 l0 x14_1).length : Int)) = true := decide_eq_true c9
            clear c9
            by_cases c10 : 0 ≤ x14_1
            ·rw [if_pos c10] at H
             have c10b0 : decide (0 ≤ x14_1) = true := decide_eq_true c10
             clear c10
             by_cases c11 : x14_1 < (l0.length : Int)
             ·rw [if_pos c11] at H
              have c11b0 : decide (x14_1 < (l0.length : Int)) = true := decide_eq_true c11
              clear c11
              by_cases c12 : 0 ≤ x33_2
              ·rw [if_pos c12] at H
               have c12b0 : decide (0 ≤ x33_2) = true := decide_eq_true c12
               clear c12
               by_cases c13 : x33_2 < ((rd_L1 l0 x14_1).length : Int)
               ·rw [if_pos c13] at H
                have c13b0 : decide (x33_2 < ((rd_L1 l0 x14_1).length : Int)) = true := decide_eq_true c13
                clear c13
                by_cases c14 : x14_1 < (l1.length : Int)
                ·rw [if_pos c14] at H
                 have c14b0 : decide (x14_1 < (l1.length : Int)) = true := decide_eq_true c14
                 clear c14
                 by_cases c15 : x33_2 < ((rd_L1 l1 x14_1).length : Int)
                 ·rw [if_pos c15] at H
                  have c15b0 : decide (x33_2 < ((rd_L1 l1 x14_1).length : Int)) = true := decide_eq_true c15
                  clear c15
                  by_cases c16 : (rdOf ByteArray.empty (rd_L1 l0 x14_1) x33_2).toList = (rdOf ByteArray.empty (rd_L1 l1 x14_1) x33_2).toList
                  ·rw [if_pos c16] at H
                   have c16b0 : ((rdOf ByteArray.empty (rd_L1 l0 x14_1) x33_2).toList == (rdOf ByteArray.empty (rd_L1 l1 x14_1) x33_2).toList) = true := beq_iff_eq.mpr c16
                   have c16b1 : ((rdOf ByteArray.empty (rd_L1 l0 x14_1) x33_2).toList != (rdOf ByteArray.empty (rd_L1 l1 x14_1) x33_2).toList) = false := bne_eq_false_iff_eq.mpr c16
                   clear c16
                   have H' := Aside0.mk H
                   clear H
                   have p340 : 0 ≤ (x14_1 : Int) := of_decide_eq_true (by first | (with_reducible assumption) | assumption)
                   have q340 : x14_1 < (l0.length : Int) := of_decide_eq_true (by first | (with_reducible assumption) | assumption)
                   obtain ⟨ad340, A340_0, c340_0, e340, hx340_0, hl340_0, hi340_0⟩ := at_L1 HR0.out x14_1 p340 q340
                   obtain rfl : ad337 = ad340 := (by injection e340)
                   have HR340_0 := Aside0.mk hi340_0
                   have HC340_0 := Aside0.mk hl340_0
                   clear hi340_0 hl340_0
                   replace p340 := eq_true p340
                   replace q340 := eq_true q340
                   have p341 : 0 ≤ (x33_2 : Int) := of_decide_eq_true (by first | (with_reducible assumption) | assumption)
                   have q341 : x33_2 < ((rd_L1 l0 x14_1).length : Int) := of_decide_eq_true (by first | (with_reducible assumption) | assumption)
                   obtain ⟨ad341, e341, hx341_0⟩ := Kd.at_string HR340_0.out x33_2 p341 q341
                   cases e341
                   replace p341 := eq_true p341
                   replace q341 := eq_true q341
                   have p342 : 0 ≤ (x14_1 : Int) := of_decide_eq_true (by first | (with_reducible assumption) | assumption)
                   have q342 : x14_1 < (l1.length : Int) := of_decide_eq_true (by first | (with_reducible assumption) | assumption)
                   obtain ⟨ad342, A342_0, c342_0, e342, hx342_0, hl342_0, hi342_0⟩ := at_L1 HR1.out x14_1 p342 q342
                   obtain rfl : ad338 = ad342 := (by injection e342)
                   have HR342_0 := Aside0.mk hi342_0
                   have HC342_0 := Aside0.mk hl342_0
                   clear hi342_0 hl342_0
                   replace p342 := eq_true p342
                   replace q342 := eq_true q342
                   have p343 : 0 ≤ (x33_2 : Int) := of_decide_eq_true (by first | (with_reducible assumption) | assumption)
                   have q343 : x33_2 < ((rd_L1 l1 x14_1).length : Int) := of_decide_eq_true (by first | (with_reducible assumption) | assumption)
                   obtain ⟨ad343, e343, hx343_0⟩ := Kd.at_string HR342_0.out x33_2 p343 q343
                   cases e343
                   replace p343 := eq_true p343
                   replace q343 := eq_true q343
                   go_wp2
                   repeat (go_quiet (fail); try go_wp2)
                   go_roundg k2
                   case measure => have := HK1.out; have := HK2.out; omega
                   case rel => exact ⟨(wrap64 (x33_2 + 1)), rfs_, H', ⟨by have := HK1.out; have := HK2.out; omega⟩, drs_⟩
                  ·rw [if_neg c16] at H
                   have c16b0 : ((rdOf ByteArray.empty (rd_L1 l0 x14_1) x33_2).toList == (rdOf ByteArray.empty (rd_L1 l1 x14_1) x33_2).toList) = false := beq_eq_false_iff_ne.mpr c16
                   have c16b1 : ((rdOf ByteArray.empty (rd_L1 l0 x14_1) x33_2).toList != (rdOf ByteArray.empty (rd_L1 l1 x14_1) x33_2).toList) = true := bne_iff_ne.mpr c16
                   obtain rfl := Option.some.inj H
                   have p340 : 0 ≤ (x14_1 : Int) := of_decide_eq_true (by first | (with_reducible assumption) | assumption)
                   have q340 : x14_1 < (l0.length : Int) := of_decide_eq_true (by first | (with_reducible assumption) | assumption)
                   obtain ⟨ad340, A340_0, c340_0, e340, hx340_0, hl340_0, hi340_0⟩ := at_L1 HR0.out x14_1 p340 q340
                   obtain rfl : ad337 = ad340 := (by injection e340)
                   have HR340_0 := Aside0.mk hi340_0
                   have HC340_0 := Aside0.mk hl340_0
                   clear hi340_0 hl340_0
                   replace p340 := eq_true p340
                   replace q340 := eq_true q340
                   have p341 : 0 ≤ (x33_2 : Int) := of_decide_eq_true (by first | (with_reducible assumption) | assumption)
                   have q341 : x33_2 < ((rd_L1 l0 x14_1).length : Int) := of_decide_eq_true (by first | (with_reducible assumption) | assumption)
                   obtain ⟨ad341, e341, hx341_0⟩ := Kd.at_string HR340_0.out x33_2 p341 q341
                   cases e341
                   replace p341 := eq_true p341
                   replace q341 := eq_true q341
                   have p342 : 0 ≤ (x14_1 : Int) := of_decide_eq_true (by first | (with_reducible assumption) | assumption)
                   have q342 : x14_1 < (l1.length : Int) := of_decide_eq_true (by first | (with_reducible assumption) | assumption)
                   obtain ⟨ad342, A342_0, c342_0, e342, hx342_0, hl342_0, hi342_0⟩ := at_L1 HR1.out x14_1 p342 q342
                   obtain rfl : ad338 = ad342 := (by injection e342)
                   have HR342_0 := Aside0.mk hi342_0
                   have HC342_0 := Aside0.mk hl342_0
                   clear hi342_0 hl342_0
                   replace p342 := eq_true p342
                   replace q342 := eq_true q342
                   have p343 : 0 ≤ (x33_2 : Int) := of_decide_eq_true (by first | (with_reducible assumption) | assumption)
                   have q343 : x33_2 < ((rd_L1 l1 x14_1).length : Int) := of_decide_eq_true (by first | (with_reducible assumption) | assumption)
                   obtain ⟨ad343, e343, hx343_0⟩ := Kd.at_string HR342_0.out x33_2 p343 q343
                   cases e343
                   replace p343 := eq_true p343
                   replace q343 := eq_true q343
                   go_wp2
                   repeat (go_quiet (fail); try go_wp2)
                   go_ret
                   exact ⟨by first | rfl | (simp; done) | (simp [*]; done), drs_⟩
                 ·rw [if_neg c15] at H
                  exact absurd H (by simp)
                ·rw [if_neg c14] at H
                 exact absurd H (by simp)
               ·rw [if_neg c13] at H
                exact absurd H (by simp)
              ·rw [if_neg c12] at H
               exact absurd H (by simp)
             ·rw [if_neg c11] at H
              exact absurd H (by simp)
            ·rw [if_neg c10] at H
             exact absurd H (by simp)
           ·rw [if_neg c9] at H
            have c9b0 : decide (x33_2 < ((rd_L1 l0 x14_1).length : Int)) = false := decide_eq_false c9
            clear c9
            have H' := Aside0.mk H
            clear H
            go_wp2
            repeat (go_quiet (fail); try go_wp2)
            go_roundg k2
            case measure => have := HK1.out; have := HK2.out; omega
            case rel => exact ⟨(wrap64 (x14_1 + 1)), rfs_, H', ⟨by have := HK1.out; have := HK2.out; omega⟩, drs_⟩
        ·rw [if_neg c8] at H
         have c8b0 : (((rd_L1 l0 x14_1).length : Int) == ((rd_L1 l1 x14_1).length : Int)) = false := beq_eq_false_iff_ne.mpr c8
         have c8b1 : (((rd_L1 l0 x14_1).length : Int) != ((rd_L1 l1 x14_1).length : Int)) = true := bne_iff_ne.mpr c8
         have c8b2 : ((rd_L1 l0 x14_1).length == (rd_L1 l1 x14_1).length) = false := by first | simpa using c8 | (simp at c8 ⊢; omega)
         obtain rfl := Option.some.inj H
         have p337 : 0 ≤ (x14_1 : Int) := of_decide_eq_true (by first | (with_reducible assumption) | assumption)
         have q337 : x14_1 < (l0.length : Int) := of_decide_eq_true (by first | (with_reducible assumption) | assumption)
         obtain ⟨ad337, A337_0, c337_0, e337, hx337_0, hl337_0, hi337_0⟩ := at_L1 HR0.out x14_1 p337 q337
         cases e337
         have HR337_0 := Aside0.mk hi337_0
         have HC337_0 := Aside0.mk hl337_0
         clear hi337_0 hl337_0
         replace p337 := eq_true p337
         replace q337 := eq_true q337
         have p338 : 0 ≤ (x14_1 : Int) := of_decide_eq_true (by first | (with_reducible assumption) | assumption)
         have q338 : x14_1 < (l1.length : Int) := of_decide_eq_true (by first | (with_reducible assumption) | assumption)
         obtain ⟨ad338, A338_0, c338_0, e338, hx338_0, hl338_0, hi338_0⟩ := at_L1 HR1.out x14_1 p338 q338
         cases e338
         have HR338_0 := Aside0.mk hi338_0
         have HC338_0 := Aside0.mk hl338_0
         clear hi338_0 hl338_0
         replace p338 := eq_true p338
         replace q338 := eq_true q338
         go_wp2
         repeat (go_quiet (fail); try go_wp2)
         go_ret
         exact ⟨by first | rfl | (simp; done) | (simp [*]; done), drs_⟩
       ·rw [if_neg c7] at H
        exact absurd H (by simp)
      ·rw [if_neg c6] at H
       exact absurd H (by simp)
     ·rw [if_neg c5] at H
      exact absurd H (by simp)
    ·rw [if_neg c4] at H
     have c4b0 : decide (x14_1 < (l0.length : Int)) = false := decide_eq_false c4
     clear c4
     obtain rfl := Option.some.inj H
     go_wp2
     repeat (go_quiet (fail); try go_wp2)
     go_ret
     exact ⟨by first | rfl | (simp; done) | (simp [*]; done), drs_⟩
 ·rw [if_neg c3] at H
  have c3b0 : ((l0.length : Int) == (l1.length : Int)) = false := beq_eq_false_iff_ne.mpr c3
  have c3b1 : ((l0.length : Int) != (l1.length : Int)) = true := bne_iff_ne.mpr c3
  have c3b2 : (l0.length == l1.length) = false := by first | simpa using c3 | (simp at c3 ⊢; omega)
  obtain rfl := Option.some.inj H
  go_enter Tryz.func33, Tryz.ntmps33
  go_wp2
  repeat (go_quiet (fail); try go_wp2)
  go_ret
  exact ⟨by first | rfl | (simp; done) | (simp [*]; done), drs_⟩

/-! ### area_Same: function 13 -/
def area_Same.f (k : Nat) (l0 : List (List ByteArray)) (l1 : List (List ByteArray)) : Option (Bool) := (area_same_string.f k l0 l1).bind fun t344 => (some t344)
theorem area_Same.mono : ∀ a0 a1 k, LeO (area_Same.f k a0 a1) (area_Same.f (k + 1) a0 a1) := by
 intro a0 a1 k
 unfold area_Same.f
 repeat' first
   | (with_reducible exact area_same_string.mono _ _ _)
   | (with_reducible exact LeO.refl _)
   | (with_reducible exact LeO.none _)
   | (with_reducible refine LeO.ite ?_ ?_)
   | (with_reducible refine LeO.bind ?_ (fun _ => ?_))
set_option maxHeartbeats 8000000 in
set_option maxRecDepth 100000 in
theorem area_Same.calls (k : Nat) (A0 : Option Addr) (c0 : Nat) (l0 : List (List ByteArray)) (A1 : Option Addr) (c1 : Nat) (l1 : List (List ByteArray)) (r : Bool) (w : World) (hr0 : Kd.C (Kd.slice 9 Kd.string) w A0 l0.length l0) (hc0 : l0.length ≤ c0) (hr1 : Kd.C (Kd.slice 9 Kd.string) w A1 l1.length l1) (hc1 : l1.length ≤ c1) (h : area_Same.f k l0 l1 = some r) :
  Calls Tryz.prog 13 #[.slice A0 l0.length c0, .slice A1 l1.length c1] w fun e w' => e = .returned (.bool r) ∧ Drawn0 w w' := by
 have HR0 := Aside0.mk hr0
 have HC0 := Aside0.mk hc0
 clear hr0 hc0
 have HR1 := Aside0.mk hr1
 have HC1 := Aside0.mk hc1
 clear hr1 hc1
 have H : ((area_same_string.f k l0 l1).bind fun t344 => (some t344)) = some r := h
 clear h
 replace H := Option.bind_eq_some_iff.mp H
 obtain ⟨t344, A30, H⟩ := H
 try dsimp only at H
 have A3 := Aside0.mk A30
 clear A30
 obtain rfl := Option.some.inj H
 go_enter Tryz.func13, Tryz.ntmps13
 go_wp2_with (first | ((with_reducible refine gate_callee (f := 33) rfl ?_); refine goesL_ (some 7) rfl rfl Tryz.func33 (by kernel_rfl) rfl #[.slice A0 l0.length c0, .slice A1 l1.length c1] rfl goa_ ?_; (with_reducible refine (area_same_string.calls k _ _ l0 _ _ l1 t344 _ ?side1 ?side2 ?side3 ?side4 A3.out).mono ?_); (case side1 => repeat (first | exact HR0.out | (with_reducible refine Kd.C_alloc ?_ _) | (with_reducible refine Kd.C_drewN ?_ _) | (with_reducible refine Kd.C_drew ?_))); (case side2 => exact HC0.out); (case side3 => repeat (first | exact HR1.out | (with_reducible refine Kd.C_alloc ?_ _) | (with_reducible refine Kd.C_drewN ?_ _) | (with_reducible refine Kd.C_drew ?_))); (case side4 => exact HC1.out); rintro e w' ⟨rfl, ⟨nd, rfl⟩⟩; refine ⟨_, rfl, ?_⟩))
 go_ret
 exact ⟨by first | rfl | (simp; done) | (simp [*]; done), drs_⟩

/-! ### parterreref08_Same: function 14 -/
mutual
def parterreref08_Same.l0 : Nat → List (List ByteArray) → List (List ByteArray) → Int → Option (Bool)
 | 0, _, _, _ => none
 | k + 1, x0, x1, x5 => if x5 < (x0.length : Int) then (if 0 ≤ x5 then (if x5 < (x1.length : Int) then (if ((rd_L1 x0 x5).length : Int) = ((rd_L1 x1 x5).length : Int) then (parterreref08_Same.l1 k x0 x1 x5 0) else (some false)) else (none)) else (none)) else (some true)
def parterreref08_Same.l1 : Nat → List (List ByteArray) → List (List ByteArray) → Int → Int → Option (Bool)
 | 0, _, _, _, _ => none
 | k + 1, x0, x1, x5, x6 => if 0 ≤ x5 then (if x5 < (x0.length : Int) then (if x6 < ((rd_L1 x0 x5).length : Int) then (if 0 ≤ x6 then (if x5 < (x1.length : Int) then (if x6 < ((rd_L1 x1 x5).length : Int) then (if (rdOf ByteArray.empty (rd_L1 x0 x5) x6).toList = (rdOf ByteArray.empty (rd_L1 x1 x5) x6).toList then (parterreref08_Same.l1 k x0 x1 x5 (wrap64 (x6 + 1))) else (some false)) else (none)) else (none)) else (none)) else (parterreref08_Same.l0 k x0 x1 (wrap64 (x5 + 1)))) else (none)) else (none)
end
def parterreref08_Same.f (k : Nat) (l0 : List (List ByteArray)) (l1 : List (List ByteArray)) : Option (Bool) := if (l0.length : Int) = (l1.length : Int) then (parterreref08_Same.l0 k l0 l1 0) else (some false)
theorem parterreref08_Same.mono_l : ∀ k, (∀ y0 y1 y2, LeO (parterreref08_Same.l0 k y0 y1 y2) (parterreref08_Same.l0 (k + 1) y0 y1 y2)) ∧ (∀ y0 y1 y2 y3, LeO (parterreref08_Same.l1 k y0 y1 y2 y3) (parterreref08_Same.l1 (k + 1) y0 y1 y2 y3))
 | 0 => ⟨fun _ _ _ r h => by simp [parterreref08_Same.l0] at h, fun _ _ _ _ r h => by simp [parterreref08_Same.l1] at h⟩
 | k + 1 => by
  obtain ⟨ih0, ih1⟩ := parterreref08_Same.mono_l k
  refine ⟨?_, ?_⟩
  ·intro y0 y1 y2
   unfold parterreref08_Same.l0
   repeat' first
   | (with_reducible exact ih0 _ _ _)
   | (with_reducible exact ih1 _ _ _ _)
   | (with_reducible exact LeO.refl _)
   | (with_reducible exact LeO.none _)
   | (with_reducible refine LeO.ite ?_ ?_)
   | (with_reducible refine LeO.bind ?_ (fun _ => ?_))
  ·intro y0 y1 y2 y3
   unfold parterreref08_Same.l1
   repeat' first
   | (with_reducible exact ih0 _ _ _)
   | (with_reducible exact ih1 _ _ _ _)
   | (with_reducible exact LeO.refl _)
   | (with_reducible exact LeO.none _)
   | (with_reducible refine LeO.ite ?_ ?_)
   | (with_reducible refine LeO.bind ?_ (fun _ => ?_))
theorem parterreref08_Same.mono : ∀ a0 a1 k, LeO (parterreref08_Same.f k a0 a1) (parterreref08_Same.f (k + 1) a0 a1) := by
 intro a0 a1 k
 obtain ⟨ih0, ih1⟩ := parterreref08_Same.mono_l k
 unfold parterreref08_Same.f
 repeat' first
   | (with_reducible exact ih0 _ _ _)
   | (with_reducible exact ih1 _ _ _ _)
   | (with_reducible exact LeO.refl _)
   | (with_reducible exact LeO.none _)
   | (with_reducible refine LeO.ite ?_ ?_)
   | (with_reducible refine LeO.bind ?_ (fun _ => ?_))
set_option maxHeartbeats 8000000 in
set_option maxRecDepth 100000 in
theorem parterreref08_Same.calls (k : Nat) (A0 : Option Addr) (c0 : Nat) (l0 : List (List ByteArray)) (A1 : Option Addr) (c1 : Nat) (l1 : List (List ByteArray)) (r : Bool) (w : World) (hr0 : Kd.C (Kd.slice 9 Kd.string) w A0 l0.length l0) (hc0 : l0.length ≤ c0) (hr1 : Kd.C (Kd.slice 9 Kd.string) w A1 l1.length l1) (hc1 : l1.length ≤ c1) (h : parterreref08_Same.f k l0 l1 = some r) :
  Calls Tryz.prog 14 #[.slice A0 l0.length c0, .slice A1 l1.length c1] w fun e w' => e = .returned (.bool r) ∧ Drawn0 w w' := by
 have HR0 := Aside0.mk hr0
 have HC0 := Aside0.mk hc0
 clear hr0 hc0
 have HR1 := Aside0.mk hr1
 have HC1 := Aside0.mk hc1
 clear hr1 hc1
 have H : (if (l0.length : Int) = (l1.length : Int) then (parterreref08_Same.l0 k l0 l1 0) else (some false)) = some r := h
 clear h
 by_cases c3 : (l0.length : Int) = (l1.length : Int)
 ·rw [if_pos c3] at H
  have c3b0 : ((l0.length : Int) == (l1.length : Int)) = true := beq_iff_eq.mpr c3
  have c3b1 : ((l0.length : Int) != (l1.length : Int)) = false := bne_eq_false_iff_eq.mpr c3
  have c3b2 : (l0.length == l1.length) = true := by first | simpa using c3 | (simp at c3 ⊢; omega)
  clear c3
  have H' := Aside0.mk H
  clear H
  go_enter Tryz.func14, Tryz.ntmps14
  go_wp2
  repeat (go_quiet (fail); try go_wp2)
  go_loopg [5] k (fun kq v5 w' => ∃ (x5_1 : Int), v5 = .int .i64 x5_1 ∧ Aside0 (parterreref08_Same.l0 kq l0 l1 x5_1 = some r) ∧ Aside0 (kq ≤ k) ∧ Drawn0 w w')
  case atStart => exact ⟨(0), rfs_, H', ⟨Nat.le_refl _⟩, drs_⟩
  case round =>
   clear H'
   try clear c3b0
   try clear c3b1
   try clear c3b2
   obtain ⟨x5_1, rfl, HA, HK1, ⟨m1, rfl⟩⟩ := hrel
   cases gk with
   | zero => exact absurd HA.out (by simp [parterreref08_Same.l0])
   | succ k1 =>
    have H := HA.out
    clear HA
    simp only [parterreref08_Same.l0] at H
    by_cases c4 : x5_1 < (l0.length : Int)
    ·rw [if_pos c4] at H
     have c4b0 : decide (x5_1 < (l0.length : Int)) = true := decide_eq_true c4
     clear c4
     by_cases c5 : 0 ≤ x5_1
     ·rw [if_pos c5] at H
      have c5b0 : decide (0 ≤ x5_1) = true := decide_eq_true c5
      clear c5
      by_cases c6 : x5_1 < (l1.length : Int)
      ·rw [if_pos c6] at H
       have c6b0 : decide (x5_1 < (l1.length : Int)) = true := decide_eq_true c6
       clear c6
       by_cases c7 : ((rd_L1 l0 x5_1).length : Int) = ((rd_L1 l1 x5_1).length : Int)
       ·rw [if_pos c7] at H
        have c7b0 : (((rd_L1 l0 x5_1).length : Int) == ((rd_L1 l1 x5_1).length : Int)) = true := beq_iff_eq.mpr c7
        have c7b1 : (((rd_L1 l0 x5_1).length : Int) != ((rd_L1 l1 x5_1).length : Int)) = false := bne_eq_false_iff_eq.mpr c7
        have c7b2 : ((rd_L1 l0 x5_1).length == (rd_L1 l1 x5_1).length) = true := by first | simpa using c7 | (simp at c7 ⊢; omega)
        clear c7
        have H' := Aside0.mk H
        clear H
        have p345 : 0 ≤ (x5_1 : Int) := of_decide_eq_true (by first | (with_reducible assumption) | assumption)
        have q345 : x5_1 < (l0.length : Int) := of_decide_eq_true (by first | (with_reducible assumption) | assumption)
        obtain ⟨ad345, A345_0, c345_0, e345, hx345_0, hl345_0, hi345_0⟩ := at_L1 HR0.out x5_1 p345 q345
        cases e345
        have HR345_0 := Aside0.mk hi345_0
        have HC345_0 := Aside0.mk hl345_0
        clear hi345_0 hl345_0
        replace p345 := eq_true p345
        replace q345 := eq_true q345
        have p346 : 0 ≤ (x5_1 : Int) := of_decide_eq_true (by first | (with_reducible assumption) | assumption)
        have q346 : x5_1 < (l1.length : Int) := of_decide_eq_true (by first | (with_reducible assumption) | assumption)
        obtain ⟨ad346, A346_0, c346_0, e346, hx346_0, hl346_0, hi346_0⟩ := at_L1 HR1.out x5_1 p346 q346
        cases e346
        have HR346_0 := Aside0.mk hi346_0
        have HC346_0 := Aside0.mk hl346_0
        clear hi346_0 hl346_0
        replace p346 := eq_true p346
        replace q346 := eq_true q346
        go_wp2
        repeat (go_quiet (fail); try go_wp2)
        go_loopg [6] k1 (fun kq v6 w' => ∃ (x6_2 : Int), v6 = .int .i64 x6_2 ∧ Aside0 (parterreref08_Same.l1 kq l0 l1 x5_1 x6_2 = some r) ∧ Aside0 (kq ≤ k1) ∧ Drawn0 w w')
        case atStart => exact ⟨(0), rfs_, H', ⟨Nat.le_refl _⟩, drs_⟩
        case round =>
         clear H'
         try clear c4b0
         try clear c5b0
         try clear c6b0
         try clear c7b0
         try clear c7b1
         try clear c7b2
         try clear hx345_0
         try clear hx346_0
         try clear p345
         try clear p346
         try clear q345
         try clear q346
         obtain ⟨x6_2, rfl, HA, HK2, ⟨m2, rfl⟩⟩ := hrel
         cases gk with
         | zero => exact absurd HA.out (by simp [parterreref08_Same.l1])
         | succ k2 =>
          have H := HA.out
          clear HA
          simp only [parterreref08_Same.l1] at H
          by_cases c8 : 0 ≤ x5_1
          ·rw [if_pos c8] at H
           have c8b0 : decide (0 ≤ x5_1) = true := decide_eq_true c8
           clear c8
           by_cases c9 : x5_1 < (l0.length : Int)
           ·rw [if_pos c9] at H
            have c9b0 : decide (x5_1 < (l0.length : Int)) = true := decide_eq_true c9
            clear c9
            by_cases c10 : x6_2 < ((rd_L1 l0 x5_1).length : Int)
            ·rw [if_pos c10] at H
             have c10b0 : decide (x6_2 < ((rd_L1 l0 x5_1).length : Int)) = true := decide_eq_true c10
             clear c10
             by_cases c11 : 0 ≤ x6_2
             ·rw [if_pos c11] at H
              have c11b0 : decide (0 ≤ x6_2) = true := decide_eq_true c11
              clear c11
              by_cases c12 : x5_1 < (l1.length : Int)
              ·rw [if_pos c12] at H
               have c12b0 : decide (x5_1 < (l1.length : Int)) = true := decide_eq_true c12
               clear c12
               by_cases c13 : x6_2 < ((rd_L1 l1 x5_1).length : Int)
               ·rw [if_pos c13] at H
                have c13b0 : decide (x6_2 < ((rd_L1 l1 x5_1).length : Int)) = true := decide_eq_true c13
                clear c13
                by_cases c14 : (rdOf ByteArray.empty (rd_L1 l0 x5_1) x6_2).toList = (rdOf ByteArray.empty (rd_L1 l1 x5_1) x6_2).toList
                ·rw [if_pos c14] at H
                 have c14b0 : ((rdOf ByteArray.empty (rd_L1 l0 x5_1) x6_2).toList == (rdOf ByteArray.empty (rd_L1 l1 x5_1) x6_2).toList) = true := beq_iff_eq.mpr c14
                 have c14b1 : ((rdOf ByteArray.empty (rd_L1 l0 x5_1) x6_2).toList != (rdOf ByteArray.empty (rd_L1 l1 x5_1) x6_2).toList) = false := bne_eq_false_iff_eq.mpr c14
                 clear c14
                 have H' := Aside0.mk H
                 clear H
                 have p347 : 0 ≤ (x5_1 : Int) := of_decide_eq_true (by first | (with_reducible assumption) | assumption)
                 have q347 : x5_1 < (l0.length : Int) := of_decide_eq_true (by first | (with_reducible assumption) | assumption)
                 obtain ⟨ad347, A347_0, c347_0, e347, hx347_0, hl347_0, hi347_0⟩ := at_L1 HR0.out x5_1 p347 q347
                 obtain rfl : ad345 = ad347 := (by injection e347)
                 have HR347_0 := Aside0.mk hi347_0
                 have HC347_0 := Aside0.mk hl347_0
                 clear hi347_0 hl347_0
                 replace p347 := eq_true p347
                 replace q347 := eq_true q347
                 have p348 : 0 ≤ (x5_1 : Int) := of_decide_eq_true (by first | (with_reducible assumption) | assumption)
                 have q348 : x5_1 < (l0.length : Int) := of_decide_eq_true (by first | (with_reducible assumption) | assumption)
                 obtain ⟨ad348, A348_0, c348_0, e348, hx348_0, hl348_0, hi348_0⟩ := at_L1 HR0.out x5_1 p348 q348
                 obtain rfl : ad345 = ad348 := (by injection e348)
                 have HR348_0 := Aside0.mk hi348_0
                 have HC348_0 := Aside0.mk hl348_0
                 clear hi348_0 hl348_0
                 replace p348 := eq_true p348
                 replace q348 := eq_true q348
                 have ea_ := Option.some.inj (hx347_0.symm.trans hx348_0)
                 injection ea_ with ea_ en_ ec_
                 subst ea_
                 subst ec_
                 clear en_
                 have p349 : 0 ≤ (x6_2 : Int) := of_decide_eq_true (by first | (with_reducible assumption) | assumption)
                 have q349 : x6_2 < ((rd_L1 l0 x5_1).length : Int) := of_decide_eq_true (by first | (with_reducible assumption) | assumption)
                 obtain ⟨ad349, e349, hx349_0⟩ := Kd.at_string HR348_0.out x6_2 p349 q349
                 cases e349
                 replace p349 := eq_true p349
                 replace q349 := eq_true q349
                 have p350 : 0 ≤ (x5_1 : Int) := of_decide_eq_true (by first | (with_reducible assumption) | assumption)
                 have q350 : x5_1 < (l1.length : Int) := of_decide_eq_true (by first | (with_reducible assumption) | assumption)
                 obtain ⟨ad350, A350_0, c350_0, e350, hx350_0, hl350_0, hi350_0⟩ := at_L1 HR1.out x5_1 p350 q350
                 obtain rfl : ad346 = ad350 := (by injection e350)
                 have HR350_0 := Aside0.mk hi350_0
                 have HC350_0 := Aside0.mk hl350_0
                 clear hi350_0 hl350_0
                 replace p350 := eq_true p350
                 replace q350 := eq_true q350
                 have p351 : 0 ≤ (x6_2 : Int) := of_decide_eq_true (by first | (with_reducible assumption) | assumption)
                 have q351 : x6_2 < ((rd_L1 l1 x5_1).length : Int) := of_decide_eq_true (by first | (with_reducible assumption) | assumption)
                 obtain ⟨ad351, e351, hx351_0⟩ := Kd.at_string HR350_0.out x6_2 p351 q351
                 cases e351
                 replace p351 := eq_true p351
                 replace q351 := eq_true q351
                 go_wp2
                 repeat (go_quiet (fail); try go_wp2)
                 go_roundg k2
                 case measure => have := HK1.out; have := HK2.out; omega
                 case rel => exact ⟨(wrap64 (x6_2 + 1)), rfs_, H', ⟨by have := HK1.out; have := HK2.out; omega⟩, drs_⟩
                ·rw [if_neg c14] at H
                 have c14b0 : ((rdOf ByteArray.empty (rd_L1 l0 x5_1) x6_2).toList == (rdOf ByteArray.empty (rd_L1 l1 x5_1) x6_2).toList) = false := beq_eq_false_iff_ne.mpr c14
                 have c14b1 : ((rdOf ByteArray.empty (rd_L1 l0 x5_1) x6_2).toList != (rdOf ByteArray.empty (rd_L1 l1 x5_1) x6_2).toList) = true := bne_iff_ne.mpr c14
                 obtain rfl := Option.some.inj H
                 have p347 : 0 ≤ (x5_1 : Int) := of_decide_eq_true (by first | (with_reducible assumption) | assumption)
                 have q347 : x5_1 < (l0.length : Int) := of_decide_eq_true (by first | (with_reducible assumption) | assumption)
                 obtain ⟨ad347, A347_0, c347_0, e347, hx347_0, hl347_0, hi347_0⟩ := at_L1 HR0.out x5_1 p347 q347
                 obtain rfl : ad345 = ad347 := (by injection e347)
                 have HR347_0 := Aside0.mk hi347_0
                 have HC347_0 := Aside0.mk hl347_0
                 clear hi347_0 hl347_0
                 replace p347 := eq_true p347
                 replace q347 := eq_true q347
                 have p348 : 0 ≤ (x5_1 : Int) := of_decide_eq_true (by first | (with_reducible assumption) | assumption)
                 have q348 : x5_1 < (l0.length : Int) := of_decide_eq_true (by first | (with_reducible assumption) | assumption)
                 obtain ⟨ad348, A348_0, c348_0, e348, hx348_0, hl348_0, hi348_0⟩ := at_L1 HR0.out x5_1 p348 q348
                 obtain rfl : ad345 = ad348 := (by injection e348)
                 have HR348_0 := Aside0.mk hi348_0
                 have HC348_0 := Aside0.mk hl348_0
                 clear hi348_0 hl348_0
                 replace p348 := eq_true p348
                 replace q348 := eq_true q348
                 have ea_ := Option.some.inj (hx347_0.symm.trans hx348_0)
                 injection ea_ with ea_ en_ ec_
                 subst ea_
                 subst ec_
                 clear en_
                 have p349 : 0 ≤ (x6_2 : Int) := of_decide_eq_true (by first | (with_reducible assumption) | assumption)
                 have q349 : x6_2 < ((rd_L1 l0 x5_1).length : Int) := of_decide_eq_true (by first | (with_reducible assumption) | assumption)
                 obtain ⟨ad349, e349, hx349_0⟩ := Kd.at_string HR348_0.out x6_2 p349 q349
                 cases e349
                 replace p349 := eq_true p349
                 replace q349 := eq_true q349
                 have p350 : 0 ≤ (x5_1 : Int) := of_decide_eq_true (by first | (with_reducible assumption) | assumption)
                 have q350 : x5_1 < (l1.length : Int) := of_decide_eq_true (by first | (with_reducible assumption) | assumption)
                 obtain ⟨ad350, A350_0, c350_0, e350, hx350_0, hl350_0, hi350_0⟩ := at_L1 HR1.out x5_1 p350 q350
                 obtain rfl : ad346 = ad350 := (by injection e350)
                 have HR350_0 := Aside0.mk hi350_0
                 have HC350_0 := Aside0.mk hl350_0
                 clear hi350_0 hl350_0
                 replace p350 := eq_true p350
                 replace q350 := eq_true q350
                 have p351 : 0 ≤ (x6_2 : Int) := of_decide_eq_true (by first | (with_reducible assumption) | assumption)
                 have q351 : x6_2 < ((rd_L1 l1 x5_1).length : Int) := of_decide_eq_true (by first | (with_reducible assumption) | assumption)
                 obtain ⟨ad351, e351, hx351_0⟩ := Kd.at_string HR350_0.out x6_2 p351 q351
                 cases e351
                 replace p351 := eq_true p351
                 replace q351 := eq_true q351
                 go_wp2
                 repeat (go_quiet (fail); try go_wp2)
                 go_ret
                 exact ⟨by first | rfl | (simp; done) | (simp [*]; done), drs_⟩
               ·rw [if_neg c13] at H
                exact absurd H (by simp)
              ·rw [if_neg c12] at H
               exact absurd H (by simp)
             ·rw [if_neg c11] at H
              exact absurd H (by simp)
            ·rw [if_neg c10] at H
             have c10b0 : decide (x6_2 < ((rd_L1 l0 x5_1).length : Int)) = false := decide_eq_false c10
             clear c10
             have H' := Aside0.mk H
             clear H
             have p347 : 0 ≤ (x5_1 : Int) := of_decide_eq_true (by first | (with_reducible assumption) | assumption)
             have q347 : x5_1 < (l0.length : Int) := of_decide_eq_true (by first | (with_reducible assumption) | assumption)
             obtain ⟨ad347, A347_0, c347_0, e347, hx347_0, hl347_0, hi347_0⟩ := at_L1 HR0.out x5_1 p347 q347
             obtain rfl : ad345 = ad347 := (by injection e347)
             have HR347_0 := Aside0.mk hi347_0
             have HC347_0 := Aside0.mk hl347_0
             clear hi347_0 hl347_0
             replace p347 := eq_true p347
             replace q347 := eq_true q347
             go_wp2
             repeat (go_quiet (fail); try go_wp2)
             go_roundg k2
             case measure => have := HK1.out; have := HK2.out; omega
             case rel => exact ⟨(wrap64 (x5_1 + 1)), rfs_, H', ⟨by have := HK1.out; have := HK2.out; omega⟩, drs_⟩
           ·rw [if_neg c9] at H
            exact absurd H (by simp)
          ·rw [if_neg c8] at H
           exact absurd H (by simp)
       ·rw [if_neg c7] at H
        have c7b0 : (((rd_L1 l0 x5_1).length : Int) == ((rd_L1 l1 x5_1).length : Int)) = false := beq_eq_false_iff_ne.mpr c7
        have c7b1 : (((rd_L1 l0 x5_1).length : Int) != ((rd_L1 l1 x5_1).length : Int)) = true := bne_iff_ne.mpr c7
        have c7b2 : ((rd_L1 l0 x5_1).length == (rd_L1 l1 x5_1).length) = false := by first | simpa using c7 | (simp at c7 ⊢; omega)
        obtain rfl := Option.some.inj H
        have p345 : 0 ≤ (x5_1 : Int) := of_decide_eq_true (by first | (with_reducible assumption) | assumption)
        have q345 : x5_1 < (l0.length : Int) := of_decide_eq_true (by first | (with_reducible assumption) | assumption)
        obtain ⟨ad345, A345_0, c345_0, e345, hx345_0, hl345_0, hi345_0⟩ := at_L1 HR0.out x5_1 p345 q345
        cases e345
        have HR345_0 := Aside0.mk hi345_0
        have HC345_0 := Aside0.mk hl345_0
        clear hi345_0 hl345_0
        replace p345 := eq_true p345
        replace q345 := eq_true q345
        have p346 : 0 ≤ (x5_1 : Int) := of_decide_eq_true (by first | (with_reducible assumption) | assumption)
        have q346 : x5_1 < (l1.length : Int) := of_decide_eq_true (by first | (with_reducible assumption) | assumption)
        obtain ⟨ad346, A346_0, c346_0, e346, hx346_0, hl346_0, hi346_0⟩ := at_L1 HR1.out x5_1 p346 q346
        cases e346
        have HR346_0 := Aside0.mk hi346_0
        have HC346_0 := Aside0.mk hl346_0
        clear hi346_0 hl346_0
        replace p346 := eq_true p346
        replace q346 := eq_true q346
        go_wp2
        repeat (go_quiet (fail); try go_wp2)
        go_ret
        exact ⟨by first | rfl | (simp; done) | (simp [*]; done), drs_⟩
      ·rw [if_neg c6] at H
       exact absurd H (by simp)
     ·rw [if_neg c5] at H
      exact absurd H (by simp)
    ·rw [if_neg c4] at H
     have c4b0 : decide (x5_1 < (l0.length : Int)) = false := decide_eq_false c4
     clear c4
     obtain rfl := Option.some.inj H
     go_wp2
     repeat (go_quiet (fail); try go_wp2)
     go_ret
     exact ⟨by first | rfl | (simp; done) | (simp [*]; done), drs_⟩
 ·rw [if_neg c3] at H
  have c3b0 : ((l0.length : Int) == (l1.length : Int)) = false := beq_eq_false_iff_ne.mpr c3
  have c3b1 : ((l0.length : Int) != (l1.length : Int)) = true := bne_iff_ne.mpr c3
  have c3b2 : (l0.length == l1.length) = false := by first | simpa using c3 | (simp at c3 ⊢; omega)
  obtain rfl := Option.some.inj H
  go_enter Tryz.func14, Tryz.ntmps14
  go_wp2
  repeat (go_quiet (fail); try go_wp2)
  go_ret
  exact ⟨by first | rfl | (simp; done) | (simp [*]; done), drs_⟩

end Go.Proofs.YtofdhdafabmhmaaGreatDoor.PAr
end
section
namespace Go.Proofs.YtofdhdafabmhmaaGreatDoor.PAr
open Go.RowKit Go.Proofs.YtofdhdafabmhmaaGreatDoorW.PrintWords Go.Proofs.YtofdhdafabmhmaaGreatDoorW.PrintLast Go.Proofs.YtofdhdafabmhmaaGreatDoorW.PrintMore
attribute [local go_sem] max2_int min2_int max_two min_two max_three min_three max_four min_four
open Go.Proofs.YtofdhdafabmhmaaGreatDoor.Opn Go.Proofs.YtofdhdafabmhmaaGreatDoor.Giv

attribute [local go_sem high] eqA28
/-! ### parterrelaw08_AreaTells: function 3 -/
mutual
def parterrelaw08_AreaTells.j0 : Nat → List (List ByteArray) → List (List ByteArray) → Bool → Option (Bool)
 | 0, _, _, _ => none
 | k + 1, x0, x1, x15 => if x15 = true then ((parterrelaw08_lives.f k).bind fun t354 => (some t354)) else ((area_Rects.f k x0).bind fun t355 => ((parterreref08_Rects.f k x0).bind fun t358 => (if (t355.length : Int) = (t358.length : Int) then (parterrelaw08_AreaTells.l0 k x0 x1 t355 t358 (t355.length : Int) 0) else (none))))
def parterrelaw08_AreaTells.l0 : Nat → List (List ByteArray) → List (List ByteArray) → List (S28) → List (S28) → Int → Int → Option (Bool)
 | 0, _, _, _, _, _, _ => none
 | k + 1, x0, x1, x5, x6, x27, x28 => if x28 < x27 then (if 0 ≤ x28 then (if x28 < (x5.length : Int) then (if x28 < (x6.length : Int) then (if (!((((rd_T28 x5 x28).f0).toList) == (((rd_T28 x6 x28).f0).toList)) || (!(((rd_T28 x5 x28).f1) == ((rd_T28 x6 x28).f1)) || (!(((rd_T28 x5 x28).f2) == ((rd_T28 x6 x28).f2)) || (!(((rd_T28 x5 x28).f3) == ((rd_T28 x6 x28).f3)) || (!(((rd_T28 x5 x28).f4) == ((rd_T28 x6 x28).f4))))))) = true then (none) else (parterrelaw08_AreaTells.l0 k x0 x1 x5 x6 x27 (wrap64 (x28 + 1)))) else (none)) else (none)) else (none)) else ((area_Good.f k x0).bind fun t363 => ((parterreref08_Good.f k x0).bind fun t364 => (if (t363 == t364) = true then ((area_Text.f k x0).bind fun t365 => ((parterreref08_Text.f k x0).bind fun t366 => (if t365.toList = t366.toList then ((area_Same.f k x0 x1).bind fun t367 => ((parterreref08_Same.f k x0 x1).bind fun t368 => (if (t367 == t368) = true then ((area_Same.f k x0 x0).bind fun t369 => (if t369 = true then ((parterrelaw08_lives.f k).bind fun t370 => (some t370)) else (none))) else (none)))) else (none)))) else (none))))
end
def parterrelaw08_AreaTells.f (k : Nat) (l0 : List (List ByteArray)) (l1 : List (List ByteArray)) : Option (Bool) := (parterrelaw08_Light.f k l0).bind fun t352 => (if t352 = true then ((parterrelaw08_Light.f k l1).bind fun t353 => (parterrelaw08_AreaTells.j0 k l0 l1 (!t353))) else (parterrelaw08_AreaTells.j0 k l0 l1 true))
theorem parterrelaw08_AreaTells.mono_l : ∀ k, (∀ y0 y1 y2, LeO (parterrelaw08_AreaTells.j0 k y0 y1 y2) (parterrelaw08_AreaTells.j0 (k + 1) y0 y1 y2)) ∧ (∀ y0 y1 y2 y3 y4 y5, LeO (parterrelaw08_AreaTells.l0 k y0 y1 y2 y3 y4 y5) (parterrelaw08_AreaTells.l0 (k + 1) y0 y1 y2 y3 y4 y5))
 | 0 => ⟨fun _ _ _ r h => by simp [parterrelaw08_AreaTells.j0] at h, fun _ _ _ _ _ _ r h => by simp [parterrelaw08_AreaTells.l0] at h⟩
 | k + 1 => by
  obtain ⟨ih0, ih1⟩ := parterrelaw08_AreaTells.mono_l k
  refine ⟨?_, ?_⟩
  ·intro y0 y1 y2
   unfold parterrelaw08_AreaTells.j0
   repeat' first
   | (with_reducible exact ih0 _ _ _)
   | (with_reducible exact ih1 _ _ _ _ _ _)
   | (with_reducible exact area_Good.mono _ _)
   | (with_reducible exact area_Rects.mono _ _)
   | (with_reducible exact area_Same.mono _ _ _)
   | (with_reducible exact area_Text.mono _ _)
   | (with_reducible exact parterrelaw08_Light.mono _ _)
   | (with_reducible exact parterrelaw08_lives.mono _)
   | (with_reducible exact parterreref08_Good.mono _ _)
   | (with_reducible exact parterreref08_Rects.mono _ _)
   | (with_reducible exact parterreref08_Same.mono _ _ _)
   | (with_reducible exact parterreref08_Text.mono _ _)
   | (with_reducible exact LeO.refl _)
   | (with_reducible exact LeO.none _)
   | (with_reducible refine LeO.ite ?_ ?_)
   | (with_reducible refine LeO.bind ?_ (fun _ => ?_))
  ·intro y0 y1 y2 y3 y4 y5
   unfold parterrelaw08_AreaTells.l0
   repeat' first
   | (with_reducible exact ih0 _ _ _)
   | (with_reducible exact ih1 _ _ _ _ _ _)
   | (with_reducible exact area_Good.mono _ _)
   | (with_reducible exact area_Rects.mono _ _)
   | (with_reducible exact area_Same.mono _ _ _)
   | (with_reducible exact area_Text.mono _ _)
   | (with_reducible exact parterrelaw08_Light.mono _ _)
   | (with_reducible exact parterrelaw08_lives.mono _)
   | (with_reducible exact parterreref08_Good.mono _ _)
   | (with_reducible exact parterreref08_Rects.mono _ _)
   | (with_reducible exact parterreref08_Same.mono _ _ _)
   | (with_reducible exact parterreref08_Text.mono _ _)
   | (with_reducible exact LeO.refl _)
   | (with_reducible exact LeO.none _)
   | (with_reducible refine LeO.ite ?_ ?_)
   | (with_reducible refine LeO.bind ?_ (fun _ => ?_))
theorem parterrelaw08_AreaTells.mono : ∀ a0 a1 k, LeO (parterrelaw08_AreaTells.f k a0 a1) (parterrelaw08_AreaTells.f (k + 1) a0 a1) := by
 intro a0 a1 k
 obtain ⟨ih0, ih1⟩ := parterrelaw08_AreaTells.mono_l k
 unfold parterrelaw08_AreaTells.f
 repeat' first
   | (with_reducible exact ih0 _ _ _)
   | (with_reducible exact ih1 _ _ _ _ _ _)
   | (with_reducible exact area_Good.mono _ _)
   | (with_reducible exact area_Rects.mono _ _)
   | (with_reducible exact area_Same.mono _ _ _)
   | (with_reducible exact area_Text.mono _ _)
   | (with_reducible exact parterrelaw08_Light.mono _ _)
   | (with_reducible exact parterrelaw08_lives.mono _)
   | (with_reducible exact parterreref08_Good.mono _ _)
   | (with_reducible exact parterreref08_Rects.mono _ _)
   | (with_reducible exact parterreref08_Same.mono _ _ _)
   | (with_reducible exact parterreref08_Text.mono _ _)
   | (with_reducible exact LeO.refl _)
   | (with_reducible exact LeO.none _)
   | (with_reducible refine LeO.ite ?_ ?_)
   | (with_reducible refine LeO.bind ?_ (fun _ => ?_))
set_option maxHeartbeats 8000000 in
set_option maxRecDepth 100000 in
theorem parterrelaw08_AreaTells.calls (k : Nat) (A0 : Option Addr) (c0 : Nat) (l0 : List (List ByteArray)) (A1 : Option Addr) (c1 : Nat) (l1 : List (List ByteArray)) (r : Bool) (w : World) (hr0 : Kd.C (Kd.slice 9 Kd.string) w A0 l0.length l0) (hc0 : l0.length ≤ c0) (hr1 : Kd.C (Kd.slice 9 Kd.string) w A1 l1.length l1) (hc1 : l1.length ≤ c1) (h : parterrelaw08_AreaTells.f k l0 l1 = some r) :
  Calls Tryz.prog 3 #[.slice A0 l0.length c0, .slice A1 l1.length c1] w fun e w' => e = .returned (.bool r) ∧ Below w.heap.size w w' := by
 have hu28 := Tryz.underlying28
 have HR0 := Aside0.mk hr0
 have HC0 := Aside0.mk hc0
 clear hr0 hc0
 have HR1 := Aside0.mk hr1
 have HC1 := Aside0.mk hc1
 clear hr1 hc1
 have HB := Aside0.mk (Below.refl w.heap.size w)
 have H : ((parterrelaw08_Light.f k l0).bind fun t352 => (if t352 = true then ((parterrelaw08_Light.f k l1).bind fun t353 => (parterrelaw08_AreaTells.j0 k l0 l1 (!t353))) else (parterrelaw08_AreaTells.j0 k l0 l1 true))) = some r := h
 clear h
 have HC3 := Aside0.mk H
 clear H
 go_enter Tryz.func3, Tryz.ntmps3
 go_upto_region 1 with (fail)
 repeat (go_quiet (fail); go_upto_region 1 with (fail))
 go_cut [15] (fun v15 wc => ∃ (kq : Nat) (x15_2 : Bool), v15 = .bool x15_2 ∧ Aside0 (parterrelaw08_AreaTells.j0 kq l0 l1 x15_2 = some r) ∧ Aside0 (kq ≤ k) ∧ Aside0 (Below w.heap.size w wc))
 case first =>
  have H := HC3.out
  clear HC3
  replace H := Option.bind_eq_some_iff.mp H
  obtain ⟨t352, A40, H⟩ := H
  try dsimp only at H
  have A4 := Aside0.mk A40
  clear A40
  by_cases c5 : t352 = true
  ·subst c5
   rw [if_pos rfl] at H
   replace H := Option.bind_eq_some_iff.mp H
   obtain ⟨t353, A60, H⟩ := H
   try dsimp only at H
   have A6 := Aside0.mk A60
   clear A60
   have H' := Aside0.mk H
   clear H
   go_wp2_with (first | (go_at_call 5; (with_reducible refine (parterrelaw08_Light.calls k _ _ l0 true _ ?side1 ?side2 A4.out).mono ?_); (case side1 => repeat (first | exact (Kd.C_below HR0.out HB.out) | (with_reducible refine Kd.C_alloc ?_ _) | (with_reducible refine Kd.C_drewN ?_ _) | (with_reducible refine Kd.C_drew ?_))); (case side2 => exact HC0.out); rintro e w7 ⟨rfl, hb⟩; have n0_ := Aside0.mk (below_step bel_ hb); clear HB; have HB := n0_; clear n0_; clear hb) | (go_at_call 5; (with_reducible refine (parterrelaw08_Light.calls k _ _ l1 t353 _ ?side1 ?side2 A6.out).mono ?_); (case side1 => repeat (first | exact (Kd.C_below HR1.out HB.out) | (with_reducible refine Kd.C_alloc ?_ _) | (with_reducible refine Kd.C_drewN ?_ _) | (with_reducible refine Kd.C_drew ?_))); (case side2 => exact HC1.out); rintro e w8 ⟨rfl, hb⟩; have n0_ := Aside0.mk (below_step bel_ hb); clear HB; have HB := n0_; clear n0_; clear hb))
   repeat (go_quiet (first | (go_at_call 5; (with_reducible refine (parterrelaw08_Light.calls k _ _ l0 true _ ?side1 ?side2 A4.out).mono ?_); (case side1 => repeat (first | exact (Kd.C_below HR0.out HB.out) | (with_reducible refine Kd.C_alloc ?_ _) | (with_reducible refine Kd.C_drewN ?_ _) | (with_reducible refine Kd.C_drew ?_))); (case side2 => exact HC0.out); rintro e w7 ⟨rfl, hb⟩; have n0_ := Aside0.mk (below_step bel_ hb); clear HB; have HB := n0_; clear n0_; clear hb) | (go_at_call 5; (with_reducible refine (parterrelaw08_Light.calls k _ _ l1 t353 _ ?side1 ?side2 A6.out).mono ?_); (case side1 => repeat (first | exact (Kd.C_below HR1.out HB.out) | (with_reducible refine Kd.C_alloc ?_ _) | (with_reducible refine Kd.C_drewN ?_ _) | (with_reducible refine Kd.C_drew ?_))); (case side2 => exact HC1.out); rintro e w8 ⟨rfl, hb⟩; have n0_ := Aside0.mk (below_step bel_ hb); clear HB; have HB := n0_; clear n0_; clear hb)); try go_wp2_with (first | (go_at_call 5; (with_reducible refine (parterrelaw08_Light.calls k _ _ l0 true _ ?side1 ?side2 A4.out).mono ?_); (case side1 => repeat (first | exact (Kd.C_below HR0.out HB.out) | (with_reducible refine Kd.C_alloc ?_ _) | (with_reducible refine Kd.C_drewN ?_ _) | (with_reducible refine Kd.C_drew ?_))); (case side2 => exact HC0.out); rintro e w7 ⟨rfl, hb⟩; have n0_ := Aside0.mk (below_step bel_ hb); clear HB; have HB := n0_; clear n0_; clear hb) | (go_at_call 5; (with_reducible refine (parterrelaw08_Light.calls k _ _ l1 t353 _ ?side1 ?side2 A6.out).mono ?_); (case side1 => repeat (first | exact (Kd.C_below HR1.out HB.out) | (with_reducible refine Kd.C_alloc ?_ _) | (with_reducible refine Kd.C_drewN ?_ _) | (with_reducible refine Kd.C_drew ?_))); (case side2 => exact HC1.out); rintro e w8 ⟨rfl, hb⟩; have n0_ := Aside0.mk (below_step bel_ hb); clear HB; have HB := n0_; clear n0_; clear hb)))
   go_meet
   case rel => exact ⟨_, (!t353), rfs_, (by first | exact H' | (subst_vars; exact H')), ⟨ole_⟩, ⟨bel_⟩⟩
  ·replace c5 := Bool.eq_false_iff.mpr c5
   subst c5
   rw [if_neg (show ¬ (false = true) by decide)] at H
   have H' := Aside0.mk H
   clear H
   go_wp2_with (first | (go_at_call 5; (with_reducible refine (parterrelaw08_Light.calls k _ _ l0 false _ ?side1 ?side2 A4.out).mono ?_); (case side1 => repeat (first | exact (Kd.C_below HR0.out HB.out) | (with_reducible refine Kd.C_alloc ?_ _) | (with_reducible refine Kd.C_drewN ?_ _) | (with_reducible refine Kd.C_drew ?_))); (case side2 => exact HC0.out); rintro e w9 ⟨rfl, hb⟩; have n0_ := Aside0.mk (below_step bel_ hb); clear HB; have HB := n0_; clear n0_; clear hb))
   repeat (go_quiet (first | (go_at_call 5; (with_reducible refine (parterrelaw08_Light.calls k _ _ l0 false _ ?side1 ?side2 A4.out).mono ?_); (case side1 => repeat (first | exact (Kd.C_below HR0.out HB.out) | (with_reducible refine Kd.C_alloc ?_ _) | (with_reducible refine Kd.C_drewN ?_ _) | (with_reducible refine Kd.C_drew ?_))); (case side2 => exact HC0.out); rintro e w9 ⟨rfl, hb⟩; have n0_ := Aside0.mk (below_step bel_ hb); clear HB; have HB := n0_; clear n0_; clear hb)); try go_wp2_with (first | (go_at_call 5; (with_reducible refine (parterrelaw08_Light.calls k _ _ l0 false _ ?side1 ?side2 A4.out).mono ?_); (case side1 => repeat (first | exact (Kd.C_below HR0.out HB.out) | (with_reducible refine Kd.C_alloc ?_ _) | (with_reducible refine Kd.C_drewN ?_ _) | (with_reducible refine Kd.C_drew ?_))); (case side2 => exact HC0.out); rintro e w9 ⟨rfl, hb⟩; have n0_ := Aside0.mk (below_step bel_ hb); clear HB; have HB := n0_; clear n0_; clear hb)))
   go_meet
   case rel => exact ⟨_, (true), rfs_, (by first | exact H' | (subst_vars; exact H')), ⟨ole_⟩, ⟨bel_⟩⟩
 case rest =>
  clear HC3
  obtain ⟨kq, x15_2, rfl, HA, HJ2, HB⟩ := hcut
  cases kq with
  | zero => exact absurd HA.out (by simp [parterrelaw08_AreaTells.j0])
  | succ kj2 =>
   have H := HA.out
   clear HA
   simp only [parterrelaw08_AreaTells.j0] at H
   by_cases c10 : x15_2 = true
   ·subst c10
    rw [if_pos rfl] at H
    replace H := Option.bind_eq_some_iff.mp H
    obtain ⟨t354, A110, H⟩ := H
    try dsimp only at H
    have A11 := Aside0.mk A110
    clear A110
    obtain rfl := Option.some.inj H
    go_wp2_with (first | (go_at_call 6; (with_reducible refine (parterrelaw08_lives.calls kj2  t354 _ A11.out).mono ?_); rintro e w12 ⟨rfl, hb⟩; have n0_ := Aside0.mk (below_step bel_ hb); clear HB; have HB := n0_; clear n0_; clear hb))
    repeat (go_quiet (first | (go_at_call 6; (with_reducible refine (parterrelaw08_lives.calls kj2  t354 _ A11.out).mono ?_); rintro e w12 ⟨rfl, hb⟩; have n0_ := Aside0.mk (below_step bel_ hb); clear HB; have HB := n0_; clear n0_; clear hb)); try go_wp2_with (first | (go_at_call 6; (with_reducible refine (parterrelaw08_lives.calls kj2  t354 _ A11.out).mono ?_); rintro e w12 ⟨rfl, hb⟩; have n0_ := Aside0.mk (below_step bel_ hb); clear HB; have HB := n0_; clear n0_; clear hb)))
    go_ret
    exact ⟨rsl_, bel_⟩
   ·replace c10 := Bool.eq_false_iff.mpr c10
    subst c10
    rw [if_neg (show ¬ (false = true) by decide)] at H
    replace H := Option.bind_eq_some_iff.mp H
    obtain ⟨t355, A130, H⟩ := H
    try dsimp only at H
    have A13 := Aside0.mk A130
    clear A130
    replace H := Option.bind_eq_some_iff.mp H
    obtain ⟨t358, A140, H⟩ := H
    try dsimp only at H
    have A14 := Aside0.mk A140
    clear A140
    by_cases c15 : (t355.length : Int) = (t358.length : Int)
    ·rw [if_pos c15] at H
     have c15b0 : ((t355.length : Int) == (t358.length : Int)) = true := beq_iff_eq.mpr c15
     have c15b1 : ((t355.length : Int) != (t358.length : Int)) = false := bne_eq_false_iff_eq.mpr c15
     have c15b2 : (t355.length == t358.length) = true := by first | simpa using c15 | (simp at c15 ⊢; omega)
     clear c15
     have H' := Aside0.mk H
     clear H
     go_wp2_with (first | (go_at_call 7; (with_reducible refine (area_Rects.calls kj2 _ _ l0 t355 _ ?side1 ?side2 A13.out).mono ?_); (case side1 => repeat (first | exact (Kd.C_below HR0.out HB.out) | (with_reducible refine Kd.C_alloc ?_ _) | (with_reducible refine Kd.C_drewN ?_ _) | (with_reducible refine Kd.C_drew ?_))); (case side2 => exact HC0.out); rintro e w16 ⟨v356, rfl, ho0, hb⟩; have n0_ := Aside0.mk (Kd.R_lower ho0 (below_size bel_)); have n1_ := Aside0.mk (below_step bel_ hb); clear HB; have HO357 := n0_; have HB := n1_; clear n0_ n1_; (try clear hb); (try clear hb2); (try clear hk); (try clear hi); (try clear ho0)) | (go_at_call 8; (with_reducible refine (parterreref08_Rects.calls kj2 _ _ l0 t358 _ ?side1 ?side2 A14.out).mono ?_); (case side1 => repeat (first | exact (Kd.C_below HR0.out HB.out) | (with_reducible refine Kd.C_alloc ?_ _) | (with_reducible refine Kd.C_drewN ?_ _) | (with_reducible refine Kd.C_drew ?_))); (case side2 => exact HC0.out); rintro e w17 ⟨v359, rfl, ho0, hb⟩; have n0_ := Aside0.mk (Kd.R_elder' (by (with_reducible repeat (first | apply Kd.R_alloc | apply Kd.R_drewN | apply Kd.R_drew)); exact HO357.out) (Kd.R_base ho0) hb); have n1_ := Aside0.mk (Kd.R_lower (Kd.R_new' ho0 (Kd.R_lt (by (with_reducible repeat (first | apply Kd.R_alloc | apply Kd.R_drewN | apply Kd.R_drew)); exact HO357.out))) (below_size bel_)); have n2_ := Aside0.mk (below_step bel_ hb); clear HO357; clear HB; have HO357 := n0_; have HO360 := n1_; have HB := n2_; clear n0_ n1_ n2_; (try clear hb); (try clear hb2); (try clear hk); (try clear hi); (try clear ho0); obtain ⟨Ao18, co18, eo18⟩ := Kd.R_slice HO357.out; subst eo18; obtain ⟨Ao19, co19, eo19⟩ := Kd.R_slice HO360.out; subst eo19))
     repeat (go_quiet (first | (go_at_call 7; (with_reducible refine (area_Rects.calls kj2 _ _ l0 t355 _ ?side1 ?side2 A13.out).mono ?_); (case side1 => repeat (first | exact (Kd.C_below HR0.out HB.out) | (with_reducible refine Kd.C_alloc ?_ _) | (with_reducible refine Kd.C_drewN ?_ _) | (with_reducible refine Kd.C_drew ?_))); (case side2 => exact HC0.out); rintro e w16 ⟨v356, rfl, ho0, hb⟩; have n0_ := Aside0.mk (Kd.R_lower ho0 (below_size bel_)); have n1_ := Aside0.mk (below_step bel_ hb); clear HB; have HO357 := n0_; have HB := n1_; clear n0_ n1_; (try clear hb); (try clear hb2); (try clear hk); (try clear hi); (try clear ho0)) | (go_at_call 8; (with_reducible refine (parterreref08_Rects.calls kj2 _ _ l0 t358 _ ?side1 ?side2 A14.out).mono ?_); (case side1 => repeat (first | exact (Kd.C_below HR0.out HB.out) | (with_reducible refine Kd.C_alloc ?_ _) | (with_reducible refine Kd.C_drewN ?_ _) | (with_reducible refine Kd.C_drew ?_))); (case side2 => exact HC0.out); rintro e w17 ⟨v359, rfl, ho0, hb⟩; have n0_ := Aside0.mk (Kd.R_elder' (by (with_reducible repeat (first | apply Kd.R_alloc | apply Kd.R_drewN | apply Kd.R_drew)); exact HO357.out) (Kd.R_base ho0) hb); have n1_ := Aside0.mk (Kd.R_lower (Kd.R_new' ho0 (Kd.R_lt (by (with_reducible repeat (first | apply Kd.R_alloc | apply Kd.R_drewN | apply Kd.R_drew)); exact HO357.out))) (below_size bel_)); have n2_ := Aside0.mk (below_step bel_ hb); clear HO357; clear HB; have HO357 := n0_; have HO360 := n1_; have HB := n2_; clear n0_ n1_ n2_; (try clear hb); (try clear hb2); (try clear hk); (try clear hi); (try clear ho0); obtain ⟨Ao18, co18, eo18⟩ := Kd.R_slice HO357.out; subst eo18; obtain ⟨Ao19, co19, eo19⟩ := Kd.R_slice HO360.out; subst eo19)); try go_wp2_with (first | (go_at_call 7; (with_reducible refine (area_Rects.calls kj2 _ _ l0 t355 _ ?side1 ?side2 A13.out).mono ?_); (case side1 => repeat (first | exact (Kd.C_below HR0.out HB.out) | (with_reducible refine Kd.C_alloc ?_ _) | (with_reducible refine Kd.C_drewN ?_ _) | (with_reducible refine Kd.C_drew ?_))); (case side2 => exact HC0.out); rintro e w16 ⟨v356, rfl, ho0, hb⟩; have n0_ := Aside0.mk (Kd.R_lower ho0 (below_size bel_)); have n1_ := Aside0.mk (below_step bel_ hb); clear HB; have HO357 := n0_; have HB := n1_; clear n0_ n1_; (try clear hb); (try clear hb2); (try clear hk); (try clear hi); (try clear ho0)) | (go_at_call 8; (with_reducible refine (parterreref08_Rects.calls kj2 _ _ l0 t358 _ ?side1 ?side2 A14.out).mono ?_); (case side1 => repeat (first | exact (Kd.C_below HR0.out HB.out) | (with_reducible refine Kd.C_alloc ?_ _) | (with_reducible refine Kd.C_drewN ?_ _) | (with_reducible refine Kd.C_drew ?_))); (case side2 => exact HC0.out); rintro e w17 ⟨v359, rfl, ho0, hb⟩; have n0_ := Aside0.mk (Kd.R_elder' (by (with_reducible repeat (first | apply Kd.R_alloc | apply Kd.R_drewN | apply Kd.R_drew)); exact HO357.out) (Kd.R_base ho0) hb); have n1_ := Aside0.mk (Kd.R_lower (Kd.R_new' ho0 (Kd.R_lt (by (with_reducible repeat (first | apply Kd.R_alloc | apply Kd.R_drewN | apply Kd.R_drew)); exact HO357.out))) (below_size bel_)); have n2_ := Aside0.mk (below_step bel_ hb); clear HO357; clear HB; have HO357 := n0_; have HO360 := n1_; have HB := n2_; clear n0_ n1_ n2_; (try clear hb); (try clear hb2); (try clear hk); (try clear hi); (try clear ho0); obtain ⟨Ao18, co18, eo18⟩ := Kd.R_slice HO357.out; subst eo18; obtain ⟨Ao19, co19, eo19⟩ := Kd.R_slice HO360.out; subst eo19)))
     go_loopg [28] kj2 (fun kq v28 w' => ∃ (x28_2 : Int), v28 = .int .i64 x28_2 ∧ Aside0 (parterrelaw08_AreaTells.l0 kq l0 l1 t355 t358 (t355.length : Int) x28_2 = some r) ∧ Aside0 (kq ≤ kj2) ∧ Aside0 (Kd.R k28 28 w' w.heap.size (fun k_ => some k_ ≠ ((.slice Ao19 t358.length co19) : Value).ownBlock) (.slice Ao18 t355.length co18) t355) ∧ Aside0 (Kd.R k28 28 w' w.heap.size (fun k_ => some k_ ≠ ((.slice Ao18 t355.length co18) : Value).ownBlock) (.slice Ao19 t358.length co19) t358) ∧ Aside0 (Below w.heap.size w w'))
     case atStart => exact ⟨(0), rfs_, H', ⟨Nat.le_refl _⟩, ⟨by (with_reducible repeat (first | apply Kd.R_alloc | apply Kd.R_drewN | apply Kd.R_drew)); exact Kd.R_mono HO357.out (fun _ hk => hk.2)⟩, ⟨by (with_reducible repeat (first | apply Kd.R_alloc | apply Kd.R_drewN | apply Kd.R_drew)); exact Kd.R_mono HO360.out (fun _ hk => hk.2)⟩, ⟨bel_⟩⟩
     case round =>
      clear H'
      try clear c10
      try clear c15b0
      try clear c15b1
      try clear c15b2
      obtain ⟨x28_2, rfl, HA, HK2, HO_5, HO_6, HB⟩ := hrel
      cases gk with
      | zero => exact absurd HA.out (by simp [parterrelaw08_AreaTells.l0])
      | succ k2 =>
       have H := HA.out
       clear HA
       simp only [parterrelaw08_AreaTells.l0] at H
       by_cases c20 : x28_2 < (t355.length : Int)
       ·rw [if_pos c20] at H
        have c20b0 : decide (x28_2 < (t355.length : Int)) = true := decide_eq_true c20
        clear c20
        by_cases c21 : 0 ≤ x28_2
        ·rw [if_pos c21] at H
         have c21b0 : decide (0 ≤ x28_2) = true := decide_eq_true c21
         clear c21
         by_cases c22 : x28_2 < (t355.length : Int)
         ·rw [if_pos c22] at H
          have c22b0 : decide (x28_2 < (t355.length : Int)) = true := decide_eq_true c22
          clear c22
          by_cases c23 : x28_2 < (t358.length : Int)
          ·rw [if_pos c23] at H
           have c23b0 : decide (x28_2 < (t358.length : Int)) = true := decide_eq_true c23
           clear c23
           by_cases c24 : (!((((rd_T28 t355 x28_2).f0).toList) == (((rd_T28 t358 x28_2).f0).toList)) || (!(((rd_T28 t355 x28_2).f1) == ((rd_T28 t358 x28_2).f1)) || (!(((rd_T28 t355 x28_2).f2) == ((rd_T28 t358 x28_2).f2)) || (!(((rd_T28 t355 x28_2).f3) == ((rd_T28 t358 x28_2).f3)) || (!(((rd_T28 t355 x28_2).f4) == ((rd_T28 t358 x28_2).f4))))))) = true
           ·rw [if_pos c24] at H
            exact absurd H (by simp)
           ·rw [if_neg c24] at H
            have c24b0 : (!((((rd_T28 t355 x28_2).f0).toList) == (((rd_T28 t358 x28_2).f0).toList)) || (!(((rd_T28 t355 x28_2).f1) == ((rd_T28 t358 x28_2).f1)) || (!(((rd_T28 t355 x28_2).f2) == ((rd_T28 t358 x28_2).f2)) || (!(((rd_T28 t355 x28_2).f3) == ((rd_T28 t358 x28_2).f3)) || (!(((rd_T28 t355 x28_2).f4) == ((rd_T28 t358 x28_2).f4))))))) = false := by simpa using c24
            clear c24
            have H' := Aside0.mk H
            clear H
            have p361 : 0 ≤ (x28_2 : Int) := of_decide_eq_true (by first | (with_reducible assumption) | assumption)
            have q361 : x28_2 < (t355.length : Int) := of_decide_eq_true (by first | (with_reducible assumption) | assumption)
            obtain ⟨ad361, e361, hx361_0, hx361_1, hx361_2, hx361_3, hx361_4⟩ := at_T28 (Kd.R_reads' HO_5.out).2.2 x28_2 p361 q361
            cases e361
            replace p361 := eq_true p361
            replace q361 := eq_true q361
            have p362 : 0 ≤ (x28_2 : Int) := of_decide_eq_true (by first | (with_reducible assumption) | assumption)
            have q362 : x28_2 < (t358.length : Int) := of_decide_eq_true (by first | (with_reducible assumption) | assumption)
            obtain ⟨ad362, e362, hx362_0, hx362_1, hx362_2, hx362_3, hx362_4⟩ := at_T28 (Kd.R_reads' HO_6.out).2.2 x28_2 p362 q362
            cases e362
            replace p362 := eq_true p362
            replace q362 := eq_true q362
            go_wp2
            repeat (go_quiet (fail); try go_wp2)
            go_roundg k2
            case measure => have := HJ2.out; have := HK2.out; omega
            case rel => exact ⟨(wrap64 (x28_2 + 1)), rfs_, H', ⟨by have := HJ2.out; have := HK2.out; omega⟩, ⟨by (with_reducible repeat (first | apply Kd.R_alloc | apply Kd.R_drewN | apply Kd.R_drew)); exact HO_5.out⟩, ⟨by (with_reducible repeat (first | apply Kd.R_alloc | apply Kd.R_drewN | apply Kd.R_drew)); exact HO_6.out⟩, ⟨bel_⟩⟩
          ·rw [if_neg c23] at H
           exact absurd H (by simp)
         ·rw [if_neg c22] at H
          exact absurd H (by simp)
        ·rw [if_neg c21] at H
         exact absurd H (by simp)
       ·rw [if_neg c20] at H
        have c20b0 : decide (x28_2 < (t355.length : Int)) = false := decide_eq_false c20
        clear c20
        replace H := Option.bind_eq_some_iff.mp H
        obtain ⟨t363, A250, H⟩ := H
        try dsimp only at H
        have A25 := Aside0.mk A250
        clear A250
        replace H := Option.bind_eq_some_iff.mp H
        obtain ⟨t364, A260, H⟩ := H
        try dsimp only at H
        have A26 := Aside0.mk A260
        clear A260
        by_cases c27 : (t363 == t364) = true
        ·rw [if_pos c27] at H
         have c27b0 : (t363 == t364) = true := c27
         (try (have c27b1 : decide (t363 = t364) = true := by simpa using c27))
         (try (have c27b2 : (t363 == t364) = true := by simpa using c27))
         clear c27
         replace H := Option.bind_eq_some_iff.mp H
         obtain ⟨t365, A280, H⟩ := H
         try dsimp only at H
         have A28 := Aside0.mk A280
         clear A280
         replace H := Option.bind_eq_some_iff.mp H
         obtain ⟨t366, A290, H⟩ := H
         try dsimp only at H
         have A29 := Aside0.mk A290
         clear A290
         by_cases c30 : t365.toList = t366.toList
         ·rw [if_pos c30] at H
          have c30b0 : (t365.toList == t366.toList) = true := beq_iff_eq.mpr c30
          have c30b1 : (t365.toList != t366.toList) = false := bne_eq_false_iff_eq.mpr c30
          clear c30
          replace H := Option.bind_eq_some_iff.mp H
          obtain ⟨t367, A310, H⟩ := H
          try dsimp only at H
          have A31 := Aside0.mk A310
          clear A310
          replace H := Option.bind_eq_some_iff.mp H
          obtain ⟨t368, A320, H⟩ := H
          try dsimp only at H
          have A32 := Aside0.mk A320
          clear A320
          by_cases c33 : (t367 == t368) = true
          ·rw [if_pos c33] at H
           have c33b0 : (t367 == t368) = true := c33
           (try (have c33b1 : decide (t367 = t368) = true := by simpa using c33))
           (try (have c33b2 : (t367 == t368) = true := by simpa using c33))
           clear c33
           replace H := Option.bind_eq_some_iff.mp H
           obtain ⟨t369, A340, H⟩ := H
           try dsimp only at H
           have A34 := Aside0.mk A340
           clear A340
           by_cases c35 : t369 = true
           ·subst c35
            rw [if_pos rfl] at H
            replace H := Option.bind_eq_some_iff.mp H
            obtain ⟨t370, A360, H⟩ := H
            try dsimp only at H
            have A36 := Aside0.mk A360
            clear A360
            obtain rfl := Option.some.inj H
            go_wp2_with (first | (go_at_call 9; (with_reducible refine (area_Good.calls k2 _ _ l0 t363 _ ?side1 ?side2 A25.out).mono ?_); (case side1 => repeat (first | exact (Kd.C_below HR0.out HB.out) | (with_reducible refine Kd.C_alloc ?_ _) | (with_reducible refine Kd.C_drewN ?_ _) | (with_reducible refine Kd.C_drew ?_))); (case side2 => exact HC0.out); rintro e w37 ⟨rfl, hb⟩; have n0_ := Aside0.mk (Kd.R_below (by (with_reducible repeat (first | apply Kd.R_alloc | apply Kd.R_drewN | apply Kd.R_drew)); exact HO_5.out) hb); have n1_ := Aside0.mk (Kd.R_below (by (with_reducible repeat (first | apply Kd.R_alloc | apply Kd.R_drewN | apply Kd.R_drew)); exact HO_6.out) hb); have n2_ := Aside0.mk (below_step bel_ hb); clear HO_5; clear HO_6; clear HB; have HO_5 := n0_; have HO_6 := n1_; have HB := n2_; clear n0_ n1_ n2_; clear hb) | (go_at_call 10; (with_reducible refine (parterreref08_Good.calls k2 _ _ l0 t364 _ ?side1 ?side2 A26.out).mono ?_); (case side1 => repeat (first | exact (Kd.C_below HR0.out HB.out) | (with_reducible refine Kd.C_alloc ?_ _) | (with_reducible refine Kd.C_drewN ?_ _) | (with_reducible refine Kd.C_drew ?_))); (case side2 => exact HC0.out); rintro e w' ⟨rfl, ⟨nd, rfl⟩⟩; (try first | exact ⟨rfl, _, World.drewN_drewN _ _ _⟩ | exact ⟨rfl, _, Eq.trans (World.drewN_drewN _ _ _) (congrArg (World.drewN _) (Nat.add_assoc _ _ _))⟩)) | (go_at_call 11; (with_reducible refine (area_Text.calls k2 _ _ l0 t365 _ ?side1 ?side2 A28.out).mono ?_); (case side1 => repeat (first | exact (Kd.C_below HR0.out bel_) | (with_reducible refine Kd.C_alloc ?_ _) | (with_reducible refine Kd.C_drewN ?_ _) | (with_reducible refine Kd.C_drew ?_))); (case side2 => exact HC0.out); rintro e w38 ⟨rfl, hb⟩; have n0_ := Aside0.mk (Kd.R_below (by (with_reducible repeat (first | apply Kd.R_alloc | apply Kd.R_drewN | apply Kd.R_drew)); exact HO_5.out) hb); have n1_ := Aside0.mk (Kd.R_below (by (with_reducible repeat (first | apply Kd.R_alloc | apply Kd.R_drewN | apply Kd.R_drew)); exact HO_6.out) hb); have n2_ := Aside0.mk (below_step bel_ hb); clear HO_5; clear HO_6; clear HB; have HO_5 := n0_; have HO_6 := n1_; have HB := n2_; clear n0_ n1_ n2_; clear hb) | (go_at_call 12; (with_reducible refine (parterreref08_Text.calls k2 _ _ l0 t366 _ ?side1 ?side2 A29.out).mono ?_); (case side1 => repeat (first | exact (Kd.C_below HR0.out HB.out) | (with_reducible refine Kd.C_alloc ?_ _) | (with_reducible refine Kd.C_drewN ?_ _) | (with_reducible refine Kd.C_drew ?_))); (case side2 => exact HC0.out); rintro e w' ⟨rfl, ⟨nd, rfl⟩⟩; (try first | exact ⟨rfl, _, World.drewN_drewN _ _ _⟩ | exact ⟨rfl, _, Eq.trans (World.drewN_drewN _ _ _) (congrArg (World.drewN _) (Nat.add_assoc _ _ _))⟩)) | (go_at_call 13; (with_reducible refine (area_Same.calls k2 _ _ l0 _ _ l1 t367 _ ?side1 ?side2 ?side3 ?side4 A31.out).mono ?_); (case side1 => repeat (first | exact (Kd.C_below HR0.out bel_) | (with_reducible refine Kd.C_alloc ?_ _) | (with_reducible refine Kd.C_drewN ?_ _) | (with_reducible refine Kd.C_drew ?_))); (case side2 => exact HC0.out); (case side3 => repeat (first | exact (Kd.C_below HR1.out bel_) | (with_reducible refine Kd.C_alloc ?_ _) | (with_reducible refine Kd.C_drewN ?_ _) | (with_reducible refine Kd.C_drew ?_))); (case side4 => exact HC1.out); rintro e w' ⟨rfl, ⟨nd, rfl⟩⟩; (try first | exact ⟨rfl, _, World.drewN_drewN _ _ _⟩ | exact ⟨rfl, _, Eq.trans (World.drewN_drewN _ _ _) (congrArg (World.drewN _) (Nat.add_assoc _ _ _))⟩)) | (go_at_call 14; (with_reducible refine (parterreref08_Same.calls k2 _ _ l0 _ _ l1 t368 _ ?side1 ?side2 ?side3 ?side4 A32.out).mono ?_); (case side1 => repeat (first | exact (Kd.C_below HR0.out bel_) | (with_reducible refine Kd.C_alloc ?_ _) | (with_reducible refine Kd.C_drewN ?_ _) | (with_reducible refine Kd.C_drew ?_))); (case side2 => exact HC0.out); (case side3 => repeat (first | exact (Kd.C_below HR1.out bel_) | (with_reducible refine Kd.C_alloc ?_ _) | (with_reducible refine Kd.C_drewN ?_ _) | (with_reducible refine Kd.C_drew ?_))); (case side4 => exact HC1.out); rintro e w' ⟨rfl, ⟨nd, rfl⟩⟩; (try first | exact ⟨rfl, _, World.drewN_drewN _ _ _⟩ | exact ⟨rfl, _, Eq.trans (World.drewN_drewN _ _ _) (congrArg (World.drewN _) (Nat.add_assoc _ _ _))⟩)) | (go_at_call 13; (with_reducible refine (area_Same.calls k2 _ _ l0 _ _ l0 true _ ?side1 ?side2 ?side3 ?side4 A34.out).mono ?_); (case side1 => repeat (first | exact (Kd.C_below HR0.out bel_) | (with_reducible refine Kd.C_alloc ?_ _) | (with_reducible refine Kd.C_drewN ?_ _) | (with_reducible refine Kd.C_drew ?_))); (case side2 => exact HC0.out); (case side3 => repeat (first | exact (Kd.C_below HR0.out bel_) | (with_reducible refine Kd.C_alloc ?_ _) | (with_reducible refine Kd.C_drewN ?_ _) | (with_reducible refine Kd.C_drew ?_))); (case side4 => exact HC0.out); rintro e w' ⟨rfl, ⟨nd, rfl⟩⟩; (try first | exact ⟨rfl, _, World.drewN_drewN _ _ _⟩ | exact ⟨rfl, _, Eq.trans (World.drewN_drewN _ _ _) (congrArg (World.drewN _) (Nat.add_assoc _ _ _))⟩)) | (go_at_call 6; (with_reducible refine (parterrelaw08_lives.calls k2  t370 _ A36.out).mono ?_); rintro e w39 ⟨rfl, hb⟩; have n0_ := Aside0.mk (Kd.R_below (by (with_reducible repeat (first | apply Kd.R_alloc | apply Kd.R_drewN | apply Kd.R_drew)); exact HO_5.out) hb); have n1_ := Aside0.mk (Kd.R_below (by (with_reducible repeat (first | apply Kd.R_alloc | apply Kd.R_drewN | apply Kd.R_drew)); exact HO_6.out) hb); have n2_ := Aside0.mk (below_step bel_ hb); clear HO_5; clear HO_6; clear HB; have HO_5 := n0_; have HO_6 := n1_; have HB := n2_; clear n0_ n1_ n2_; clear hb))
            repeat (go_quiet (first | (go_at_call 9; (with_reducible refine (area_Good.calls k2 _ _ l0 t363 _ ?side1 ?side2 A25.out).mono ?_); (case side1 => repeat (first | exact (Kd.C_below HR0.out HB.out) | (with_reducible refine Kd.C_alloc ?_ _) | (with_reducible refine Kd.C_drewN ?_ _) | (with_reducible refine Kd.C_drew ?_))); (case side2 => exact HC0.out); rintro e w37 ⟨rfl, hb⟩; have n0_ := Aside0.mk (Kd.R_below (by (with_reducible repeat (first | apply Kd.R_alloc | apply Kd.R_drewN | apply Kd.R_drew)); exact HO_5.out) hb); have n1_ := Aside0.mk (Kd.R_below (by (with_reducible repeat (first | apply Kd.R_alloc | apply Kd.R_drewN | apply Kd.R_drew)); exact HO_6.out) hb); have n2_ := Aside0.mk (below_step bel_ hb); clear HO_5; clear HO_6; clear HB; have HO_5 := n0_; have HO_6 := n1_; have HB := n2_; clear n0_ n1_ n2_; clear hb) | (go_at_call 10; (with_reducible refine (parterreref08_Good.calls k2 _ _ l0 t364 _ ?side1 ?side2 A26.out).mono ?_); (case side1 => repeat (first | exact (Kd.C_below HR0.out HB.out) | (with_reducible refine Kd.C_alloc ?_ _) | (with_reducible refine Kd.C_drewN ?_ _) | (with_reducible refine Kd.C_drew ?_))); (case side2 => exact HC0.out); rintro e w' ⟨rfl, ⟨nd, rfl⟩⟩; (try first | exact ⟨rfl, _, World.drewN_drewN _ _ _⟩ | exact ⟨rfl, _, Eq.trans (World.drewN_drewN _ _ _) (congrArg (World.drewN _) (Nat.add_assoc _ _ _))⟩)) | (go_at_call 11; (with_reducible refine (area_Text.calls k2 _ _ l0 t365 _ ?side1 ?side2 A28.out).mono ?_); (case side1 => repeat (first | exact (Kd.C_below HR0.out bel_) | (with_reducible refine Kd.C_alloc ?_ _) | (with_reducible refine Kd.C_drewN ?_ _) | (with_reducible refine Kd.C_drew ?_))); (case side2 => exact HC0.out); rintro e w38 ⟨rfl, hb⟩; have n0_ := Aside0.mk (Kd.R_below (by (with_reducible repeat (first | apply Kd.R_alloc | apply Kd.R_drewN | apply Kd.R_drew)); exact HO_5.out) hb); have n1_ := Aside0.mk (Kd.R_below (by (with_reducible repeat (first | apply Kd.R_alloc | apply Kd.R_drewN | apply Kd.R_drew)); exact HO_6.out) hb); have n2_ := Aside0.mk (below_step bel_ hb); clear HO_5; clear HO_6; clear HB; have HO_5 := n0_; have HO_6 := n1_; have HB := n2_; clear n0_ n1_ n2_; clear hb) | (go_at_call 12; (with_reducible refine (parterreref08_Text.calls k2 _ _ l0 t366 _ ?side1 ?side2 A29.out).mono ?_); (case side1 => repeat (first | exact (Kd.C_below HR0.out HB.out) | (with_reducible refine Kd.C_alloc ?_ _) | (with_reducible refine Kd.C_drewN ?_ _) | (with_reducible refine Kd.C_drew ?_))); (case side2 => exact HC0.out); rintro e w' ⟨rfl, ⟨nd, rfl⟩⟩; (try first | exact ⟨rfl, _, World.drewN_drewN _ _ _⟩ | exact ⟨rfl, _, Eq.trans (World.drewN_drewN _ _ _) (congrArg (World.drewN _) (Nat.add_assoc _ _ _))⟩)) | (go_at_call 13; (with_reducible refine (area_Same.calls k2 _ _ l0 _ _ l1 t367 _ ?side1 ?side2 ?side3 ?side4 A31.out).mono ?_); (case side1 => repeat (first | exact (Kd.C_below HR0.out bel_) | (with_reducible refine Kd.C_alloc ?_ _) | (with_reducible refine Kd.C_drewN ?_ _) | (with_reducible refine Kd.C_drew ?_))); (case side2 => exact HC0.out); (case side3 => repeat (first | exact (Kd.C_below HR1.out bel_) | (with_reducible refine Kd.C_alloc ?_ _) | (with_reducible refine Kd.C_drewN ?_ _) | (with_reducible refine Kd.C_drew ?_))); (case side4 => exact HC1.out); rintro e w' ⟨rfl, ⟨nd, rfl⟩⟩; (try first | exact ⟨rfl, _, World.drewN_drewN _ _ _⟩ | exact ⟨rfl, _, Eq.trans (World.drewN_drewN _ _ _) (congrArg (World.drewN _) (Nat.add_assoc _ _ _))⟩)) | (go_at_call 14; (with_reducible refine (parterreref08_Same.calls k2 _ _ l0 _ _ l1 t368 _ ?side1 ?side2 ?side3 ?side4 A32.out).mono ?_); (case side1 => repeat (first | exact (Kd.C_below HR0.out bel_) | (with_reducible refine Kd.C_alloc ?_ _) | (with_reducible refine Kd.C_drewN ?_ _) | (with_reducible refine Kd.C_drew ?_))); (case side2 => exact HC0.out); (case side3 => repeat (first | exact (Kd.C_below HR1.out bel_) | (with_reducible refine Kd.C_alloc ?_ _) | (with_reducible refine Kd.C_drewN ?_ _) | (with_reducible refine Kd.C_drew ?_))); (case side4 => exact HC1.out); rintro e w' ⟨rfl, ⟨nd, rfl⟩⟩; (try first | exact ⟨rfl, _, World.drewN_drewN _ _ _⟩ | exact ⟨rfl, _, Eq.trans (World.drewN_drewN _ _ _) (congrArg (World.drewN _) (Nat.add_assoc _ _ _))⟩)) | (go_at_call 13; (with_reducible refine (area_Same.calls k2 _ _ l0 _ _ l0 true _ ?side1 ?side2 ?side3 ?side4 A34.out).mono ?_); (case side1 => repeat (first | exact (Kd.C_below HR0.out bel_) | (with_reducible refine Kd.C_alloc ?_ _) | (with_reducible refine Kd.C_drewN ?_ _) | (with_reducible refine Kd.C_drew ?_))); (case side2 => exact HC0.out); (case side3 => repeat (first | exact (Kd.C_below HR0.out bel_) | (with_reducible refine Kd.C_alloc ?_ _) | (with_reducible refine Kd.C_drewN ?_ _) | (with_reducible refine Kd.C_drew ?_))); (case side4 => exact HC0.out); rintro e w' ⟨rfl, ⟨nd, rfl⟩⟩; (try first | exact ⟨rfl, _, World.drewN_drewN _ _ _⟩ | exact ⟨rfl, _, Eq.trans (World.drewN_drewN _ _ _) (congrArg (World.drewN _) (Nat.add_assoc _ _ _))⟩)) | (go_at_call 6; (with_reducible refine (parterrelaw08_lives.calls k2  t370 _ A36.out).mono ?_); rintro e w39 ⟨rfl, hb⟩; have n0_ := Aside0.mk (Kd.R_below (by (with_reducible repeat (first | apply Kd.R_alloc | apply Kd.R_drewN | apply Kd.R_drew)); exact HO_5.out) hb); have n1_ := Aside0.mk (Kd.R_below (by (with_reducible repeat (first | apply Kd.R_alloc | apply Kd.R_drewN | apply Kd.R_drew)); exact HO_6.out) hb); have n2_ := Aside0.mk (below_step bel_ hb); clear HO_5; clear HO_6; clear HB; have HO_5 := n0_; have HO_6 := n1_; have HB := n2_; clear n0_ n1_ n2_; clear hb)); try go_wp2_with (first | (go_at_call 9; (with_reducible refine (area_Good.calls k2 _ _ l0 t363 _ ?side1 ?side2 A25.out).mono ?_); (case side1 => repeat (first | exact (Kd.C_below HR0.out HB.out) | (with_reducible refine Kd.C_alloc ?_ _) | (with_reducible refine Kd.C_drewN ?_ _) | (with_reducible refine Kd.C_drew ?_))); (case side2 => exact HC0.out); rintro e w37 ⟨rfl, hb⟩; have n0_ := Aside0.mk (Kd.R_below (by (with_reducible repeat (first | apply Kd.R_alloc | apply Kd.R_drewN | apply Kd.R_drew)); exact HO_5.out) hb); have n1_ := Aside0.mk (Kd.R_below (by (with_reducible repeat (first | apply Kd.R_alloc | apply Kd.R_drewN | apply Kd.R_drew)); exact HO_6.out) hb); have n2_ := Aside0.mk (below_step bel_ hb); clear HO_5; clear HO_6; clear HB; have HO_5 := n0_; have HO_6 := n1_; have HB := n2_; clear n0_ n1_ n2_; clear hb) | (go_at_call 10; (with_reducible refine (parterreref08_Good.calls k2 _ _ l0 t364 _ ?side1 ?side2 A26.out).mono ?_); (case side1 => repeat (first | exact (Kd.C_below HR0.out HB.out) | (with_reducible refine Kd.C_alloc ?_ _) | (with_reducible refine Kd.C_drewN ?_ _) | (with_reducible refine Kd.C_drew ?_))); (case side2 => exact HC0.out); rintro e w' ⟨rfl, ⟨nd, rfl⟩⟩; (try first | exact ⟨rfl, _, World.drewN_drewN _ _ _⟩ | exact ⟨rfl, _, Eq.trans (World.drewN_drewN _ _ _) (congrArg (World.drewN _) (Nat.add_assoc _ _ _))⟩)) | (go_at_call 11; (with_reducible refine (area_Text.calls k2 _ _ l0 t365 _ ?side1 ?side2 A28.out).mono ?_); (case side1 => repeat (first | exact (Kd.C_below HR0.out bel_) | (with_reducible refine Kd.C_alloc ?_ _) | (with_reducible refine Kd.C_drewN ?_ _) | (with_reducible refine Kd.C_drew ?_))); (case side2 => exact HC0.out); rintro e w38 ⟨rfl, hb⟩; have n0_ := Aside0.mk (Kd.R_below (by (with_reducible repeat (first | apply Kd.R_alloc | apply Kd.R_drewN | apply Kd.R_drew)); exact HO_5.out) hb); have n1_ := Aside0.mk (Kd.R_below (by (with_reducible repeat (first | apply Kd.R_alloc | apply Kd.R_drewN | apply Kd.R_drew)); exact HO_6.out) hb); have n2_ := Aside0.mk (below_step bel_ hb); clear HO_5; clear HO_6; clear HB; have HO_5 := n0_; have HO_6 := n1_; have HB := n2_; clear n0_ n1_ n2_; clear hb) | (go_at_call 12; (with_reducible refine (parterreref08_Text.calls k2 _ _ l0 t366 _ ?side1 ?side2 A29.out).mono ?_); (case side1 => repeat (first | exact (Kd.C_below HR0.out HB.out) | (with_reducible refine Kd.C_alloc ?_ _) | (with_reducible refine Kd.C_drewN ?_ _) | (with_reducible refine Kd.C_drew ?_))); (case side2 => exact HC0.out); rintro e w' ⟨rfl, ⟨nd, rfl⟩⟩; (try first | exact ⟨rfl, _, World.drewN_drewN _ _ _⟩ | exact ⟨rfl, _, Eq.trans (World.drewN_drewN _ _ _) (congrArg (World.drewN _) (Nat.add_assoc _ _ _))⟩)) | (go_at_call 13; (with_reducible refine (area_Same.calls k2 _ _ l0 _ _ l1 t367 _ ?side1 ?side2 ?side3 ?side4 A31.out).mono ?_); (case side1 => repeat (first | exact (Kd.C_below HR0.out bel_) | (with_reducible refine Kd.C_alloc ?_ _) | (with_reducible refine Kd.C_drewN ?_ _) | (with_reducible refine Kd.C_drew ?_))); (case side2 => exact HC0.out); (case side3 => repeat (first | exact (Kd.C_below HR1.out bel_) | (with_reducible refine Kd.C_alloc ?_ _) | (with_reducible refine Kd.C_drewN ?_ _) | (with_reducible refine Kd.C_drew ?_))); (case side4 => exact HC1.out); rintro e w' ⟨rfl, ⟨nd, rfl⟩⟩; (try first | exact ⟨rfl, _, World.drewN_drewN _ _ _⟩ | exact ⟨rfl, _, Eq.trans (World.drewN_drewN _ _ _) (congrArg (World.drewN _) (Nat.add_assoc _ _ _))⟩)) | (go_at_call 14; (with_reducible refine (parterreref08_Same.calls k2 _ _ l0 _ _ l1 t368 _ ?side1 ?side2 ?side3 ?side4 A32.out).mono ?_); (case side1 => repeat (first | exact (Kd.C_below HR0.out bel_) | (with_reducible refine Kd.C_alloc ?_ _) | (with_reducible refine Kd.C_drewN ?_ _) | (with_reducible refine Kd.C_drew ?_))); (case side2 => exact HC0.out); (case side3 => repeat (first | exact (Kd.C_below HR1.out bel_) | (with_reducible refine Kd.C_alloc ?_ _) | (with_reducible refine Kd.C_drewN ?_ _) | (with_reducible refine Kd.C_drew ?_))); (case side4 => exact HC1.out); rintro e w' ⟨rfl, ⟨nd, rfl⟩⟩; (try first | exact ⟨rfl, _, World.drewN_drewN _ _ _⟩ | exact ⟨rfl, _, Eq.trans (World.drewN_drewN _ _ _) (congrArg (World.drewN _) (Nat.add_assoc _ _ _))⟩)) | (go_at_call 13; (with_reducible refine (area_Same.calls k2 _ _ l0 _ _ l0 true _ ?side1 ?side2 ?side3 ?side4 A34.out).mono ?_); (case side1 => repeat (first | exact (Kd.C_below HR0.out bel_) | (with_reducible refine Kd.C_alloc ?_ _) | (with_reducible refine Kd.C_drewN ?_ _) | (with_reducible refine Kd.C_drew ?_))); (case side2 => exact HC0.out); (case side3 => repeat (first | exact (Kd.C_below HR0.out bel_) | (with_reducible refine Kd.C_alloc ?_ _) | (with_reducible refine Kd.C_drewN ?_ _) | (with_reducible refine Kd.C_drew ?_))); (case side4 => exact HC0.out); rintro e w' ⟨rfl, ⟨nd, rfl⟩⟩; (try first | exact ⟨rfl, _, World.drewN_drewN _ _ _⟩ | exact ⟨rfl, _, Eq.trans (World.drewN_drewN _ _ _) (congrArg (World.drewN _) (Nat.add_assoc _ _ _))⟩)) | (go_at_call 6; (with_reducible refine (parterrelaw08_lives.calls k2  t370 _ A36.out).mono ?_); rintro e w39 ⟨rfl, hb⟩; have n0_ := Aside0.mk (Kd.R_below (by (with_reducible repeat (first | apply Kd.R_alloc | apply Kd.R_drewN | apply Kd.R_drew)); exact HO_5.out) hb); have n1_ := Aside0.mk (Kd.R_below (by (with_reducible repeat (first | apply Kd.R_alloc | apply Kd.R_drewN | apply Kd.R_drew)); exact HO_6.out) hb); have n2_ := Aside0.mk (below_step bel_ hb); clear HO_5; clear HO_6; clear HB; have HO_5 := n0_; have HO_6 := n1_; have HB := n2_; clear n0_ n1_ n2_; clear hb)))
            go_ret
            exact ⟨rsl_, bel_⟩
           ·replace c35 := Bool.eq_false_iff.mpr c35
            subst c35
            rw [if_neg (show ¬ (false = true) by decide)] at H
            exact absurd H (by simp)
          ·rw [if_neg c33] at H
           exact absurd H (by simp)
         ·rw [if_neg c30] at H
          exact absurd H (by simp)
        ·rw [if_neg c27] at H
         exact absurd H (by simp)
    ·rw [if_neg c15] at H
     exact absurd H (by simp)

/-- THE ONE PURE STATEMENT of parterrelaw08_AreaTells. -/
def parterrelaw08_AreaTells.Pure : Prop := ∀ (l0 : List (List ByteArray)) (l1 : List (List ByteArray)), gSl 24 (gSl 16 gStr) l0 → gSl 24 (gSl 16 gStr) l1 → ∃ k, parterrelaw08_AreaTells.f k l0 l1 = some true

end Go.Proofs.YtofdhdafabmhmaaGreatDoor.PAr
end
section
/- Rows' cells: area.Cells and the document's Cells, of any text. Conditions: as each theorem says. -/
namespace Go.Proofs.YtofdhdafabmhmaaGreatDoor.PureAr
open Go.RowKit Go.Proofs.YtofdhdafabmhmaaGreatDoorW.PrintWords Go.Proofs.YtofdhdafabmhmaaGreatDoorW.PrintMore Go.Proofs.YtofdhdafabmhmaaGreatDoor.Evs Go.Proofs.YtofdhdafabmhmaaGreatDoor.Opn Go.Proofs.YtofdhdafabmhmaaGreatDoor.PAr Go.Proofs.YtofdhdafabmhmaaGreatDoor.Giv
open Go
theorem lives_ev : Ev (fun k => parterrelaw08_lives.f k) true := Ev.of (fun k => parterrelaw08_lives.mono k) (k := 100) (by decide +kernel)

/-! ### The 256 bytes -/
def inB (c : UInt8) : Bool := area_inner.f (c.toNat : Int) == some true
def blB (c : UInt8) : Bool := [32, 9, 10, 13, 12].contains c
def fineA (n : Nat) : Bool := (area_inner.f (n : Int)).isSome && (parterreref08_inner.f (n : Int) == area_inner.f (n : Int) && (area_inner.f (n : Int) != some true || (n != 46 && (n != 0 && !blB (UInt8.ofNat n)))))
theorem fineA_all : (List.range 256).all fineA = true := by decide +kernel
structure ToldA (c : UInt8) : Prop where
 inn : area_inner.f (c.toNat : Int) = some (inB c)
 ref : parterreref08_inner.f (c.toNat : Int) = some (inB c)
 dot : inB c = true → c ≠ 46
 zero : inB c = true → c ≠ 0
 nobl : inB c = true → blB c = false
theorem toldA (c : UInt8) : ToldA c := by
 have h := List.all_eq_true.1 fineA_all c.toNat (List.mem_range.2 c.toNat_lt)
 simp only [fineA, Bool.and_eq_true, Bool.or_eq_true, beq_iff_eq, bne_iff_ne, Bool.not_eq_true'] at h
 obtain ⟨h1, h2, h4⟩ := h
 obtain ⟨t, ht⟩ := Option.isSome_iff_exists.1 h1
 have e : inB c = t := by
  unfold inB
  rw [ht]
  cases t <;> rfl
 have ec : UInt8.ofNat c.toNat = c := UInt8.ofNat_toNat
 rw [ec] at h4
 have h5 : inB c = true → c.toNat ≠ 46 ∧ c.toNat ≠ 0 ∧ blB c = false := fun hi => h4.resolve_left (fun hn => hn (by rw [ht, ← e, hi]))
 refine ⟨by rw [ht, e], by rw [h2, ht, e], fun hi hc => (h5 hi).1 (by rw [hc]; rfl), fun hi hc => (h5 hi).2.1 (by rw [hc]; rfl), fun hi => (h5 hi).2.2⟩
/-! ### Texts and the rest from a place on -/
def T (l : List UInt8) : ByteArray := ⟨l.toArray⟩
theorem T_list (l : List UInt8) : (T l).data.toList = l := by simp [T]
theorem T_size (l : List UInt8) : (T l).size = l.length := by
 show l.toArray.size = _
 simp
def Dr (x : ByteArray) (i : Nat) (l : List UInt8) : Prop := x.data.toList.drop i = l ∧ i + l.length = x.size
section
variable {x : ByteArray} {i : Nat} {c : UInt8} {l A B : List UInt8}
theorem size_list (x : ByteArray) : x.data.toList.length = x.size := by simp
theorem Dr.all (x : ByteArray) : Dr x 0 x.data.toList := ⟨rfl, by rw [size_list]; omega⟩
theorem Dr.get (h : Dr x i (c :: l)) : i < x.size ∧ bt x (i : Int) = (c.toNat : Int) := by
 have h1 : x.data.toList[i]? = some c := by
  have := congrArg (fun z => z[0]?) h.1
  simpa using this
 obtain ⟨h2, h3⟩ := List.getElem?_eq_some_iff.1 h1
 rw [size_list] at h2
 refine ⟨h2, ?_⟩
 rw [← bt_at x (i : Int) (by simpa using h2), ← h3]
 simp
 rfl
theorem Dr.tail (h : Dr x i (c :: l)) : Dr x (i + 1) l := by
 refine ⟨?_, by have := h.2; simp only [List.length_cons] at this; omega⟩
 rw [← List.drop_drop, h.1]
 rfl
theorem Dr.nil (h : Dr x i []) : i = x.size := by simpa using h.2
end
/-! ### run -/
theorem test_in (c : UInt8) : area_run.test 27 (c.toNat : Int) = some (inB c) := by
 unfold area_run.test
 rw [if_pos rfl]
 exact (toldA c).inn
theorem run_l0 {p : Nat} {f : UInt8 → Bool} (hf : ∀ c : UInt8, area_run.test p (c.toNat : Int) = some (f c)) {s : ByteArray} (hs : s.size ≤ 1000000) : ∀ (l : List UInt8) (n : Nat), Dr s n l → Ev (fun k => area_run.l0 k s p (n : Int)) ((n + (l.takeWhile f).length : Nat) : Int)
 | [], n, h => by
  refine ev_step ?_
  simp only [area_run.l0]
  have := h.nil
  exact ev_neg (by omega) (ev_eq (by simp))
 | c :: l, n, h => by
  refine ev_step ?_
  simp only [area_run.l0]
  obtain ⟨h1, h2⟩ := h.get
  rw [h2]
  refine ev_pos (by omega) (ev_pos (by omega) (ev_bindc (hf c) ?_))
  rw [w64 (by omega) (by omega), List.takeWhile_cons]
  cases hc : f c with
  | true =>
   refine ev_pos rfl (ev_cast (run_l0 hf hs l (n + 1) h.tail) ?_)
   simp only [if_true, List.length_cons]
   omega
  | false => exact ev_neg (by decide) (ev_eq (by simp))
theorem run_in {s : ByteArray} (hs : s.size ≤ 1000000) : Ev (fun k => area_run.f k s 27) (((s.data.toList.takeWhile inB).length : Nat) : Int) := by
 simp only [area_run.f]
 refine ev_pos (by simp) (ev_cast (run_l0 test_in hs _ 0 (Dr.all s)) ?_)
 omega
/-! ### area.Cells -/
section
variable {out : List ByteArray} {r : List ByteArray × Bool} {A B l : List UInt8} {c : UInt8}
end

/-! ### The document's Cells -/
section
variable {x : ByteArray} {out : List ByteArray} {r : List ByteArray × Bool} {A B l : List UInt8} {c : UInt8} {i j : Nat}
end
theorem lat (l0 : List (List ByteArray)) {i : Nat} {row : List ByteArray} (h : l0[i]? = some row) : rd_L1 l0 (i : Int) = row := by
 unfold rd_L1
 rw [Int.toNat_natCast, List.getD_eq_getElem?_getD, h]
 rfl
theorem sat (row : List ByteArray) {i : Nat} {s : ByteArray} (h : row[i]? = some s) : rdOf ByteArray.empty row (i : Int) = s := by
 unfold rdOf
 rw [Int.toNat_natCast, List.getD_eq_getElem?_getD, h]
 rfl
section
variable {x : List (List ByteArray)}
end
end Go.Proofs.YtofdhdafabmhmaaGreatDoor.PureAr
end
section
/- area.boxes: plain laws: which rectangles it tells, and that each has just its name's cells where it says so. Conditions: rows and columns below 1000000. -/
namespace Go.Proofs.YtofdhdafabmhmaaGreatDoor.Giv
open Go.RowKit Go.Proofs.YtofdhdafabmhmaaGreatDoorW.PrintWords Go.Proofs.YtofdhdafabmhmaaGreatDoorW.PrintLast Go.Proofs.YtofdhdafabmhmaaGreatDoorW.PrintMore
open Go.Proofs.YtofdhdafabmhmaaGreatDoor.Opn Go.Proofs.YtofdhdafabmhmaaGreatDoor.PAr
open Go
/-- The cell of a row and a column. -/
def arAt (l0 : List (List ByteArray)) (r c : Nat) : Option ByteArray := (l0[r]?).bind (·[c]?)
theorem ar_row_mem (r0 : Nat) : ∀ (l : List ByteArray) (c0 : Nat) (x : ByteArray × Int × Int), x ∈ area_boxes.row r0 l c0 ↔ ∃ c : Nat, x.2.1 = r0 ∧ x.2.2 = ((c0 + c : Nat) : Int) ∧ l[c]? = some x.1 ∧ x.1.size ≠ 0
 | [], c0, x => by simp [area_boxes.row]
 | s :: l, c0, x => by
  have ih := ar_row_mem r0 l (c0 + 1) x
  have key : (∃ c : Nat, x.2.1 = r0 ∧ x.2.2 = ((c0 + c : Nat) : Int) ∧ (s :: l)[c]? = some x.1 ∧ x.1.size ≠ 0) ↔ ((x.2.1 = r0 ∧ x.2.2 = c0 ∧ s = x.1 ∧ x.1.size ≠ 0) ∨ ∃ c : Nat, x.2.1 = r0 ∧ x.2.2 = ((c0 + 1 + c : Nat) : Int) ∧ l[c]? = some x.1 ∧ x.1.size ≠ 0) := by
   constructor
   ·rintro ⟨c, h1, h2, h3, h4⟩
    cases c with
    | zero => exact .inl ⟨h1, by simpa using h2, by simpa using h3, h4⟩
    | succ c => exact .inr ⟨c, h1, by rw [h2]; omega, by simpa using h3, h4⟩
   ·rintro (⟨h1, h2, h3, h4⟩ | ⟨c, h1, h2, h3, h4⟩)
    ·exact ⟨0, h1, by simpa using h2, by simpa using h3, h4⟩
    ·exact ⟨c + 1, h1, by rw [h2]; omega, by simpa using h3, h4⟩
  rw [key, ← ih, show area_boxes.row r0 (s :: l) c0 = if s.size = 0 then area_boxes.row r0 l (c0 + 1) else (s, (r0 : Int), (c0 : Int)) :: area_boxes.row r0 l (c0 + 1) from rfl]
  split
  ·rename_i hs
   constructor
   ·exact .inr
   ·rintro (⟨_, _, rfl, h⟩ | h)
    ·exact absurd hs h
    ·exact h
  ·rename_i hs
   obtain ⟨x1, x2, x3⟩ := x
   simp only [List.mem_cons, Prod.mk.injEq]
   constructor
   ·rintro (⟨rfl, rfl, rfl⟩ | h)
    ·exact .inl ⟨rfl, rfl, rfl, hs⟩
    ·exact .inr h
   ·rintro (⟨rfl, rfl, rfl, h⟩ | h)
    ·exact .inl ⟨rfl, rfl, rfl⟩
    ·exact .inr h
theorem ar_cells_mem : ∀ (l0 : List (List ByteArray)) (r0 : Nat) (x : ByteArray × Int × Int), x ∈ area_boxes.cells l0 r0 ↔ ∃ r c : Nat, x.2.1 = ((r0 + r : Nat) : Int) ∧ x.2.2 = (c : Int) ∧ arAt l0 r c = some x.1 ∧ x.1.size ≠ 0
 | [], r0, x => by simp [area_boxes.cells, arAt]
 | l :: l0, r0, x => by
  have ih := ar_cells_mem l0 (r0 + 1) x
  have hr := ar_row_mem r0 l 0 x
  unfold area_boxes.cells
  rw [List.mem_append, ih, hr]
  constructor
  ·rintro (⟨c, h1, h2, h3, h4⟩ | ⟨r, c, h1, h2, h3, h4⟩)
   ·exact ⟨0, c, by simpa using h1, by simpa using h2, by simpa [arAt] using h3, h4⟩
   ·exact ⟨r + 1, c, by rw [h1]; omega, h2, by simpa [arAt] using h3, h4⟩
  ·rintro ⟨r, c, h1, h2, h3, h4⟩
   cases r with
   | zero => exact .inl ⟨c, by simpa using h1, by simpa using h2, by simpa [arAt] using h3, h4⟩
   | succ r => exact .inr ⟨r, c, by rw [h1]; omega, h2, by simpa [arAt] using h3, h4⟩
/-- Ahead of another one, row by row. -/
def arLt (x y : ByteArray × Int × Int) : Prop := x.2.1 < y.2.1 ∨ (x.2.1 = y.2.1 ∧ x.2.2 < y.2.2)
theorem ar_row_sorted (r0 : Nat) : ∀ (l : List ByteArray) (c0 : Nat), (area_boxes.row r0 l c0).Pairwise arLt
 | [], c0 => by simp [area_boxes.row]
 | s :: l, c0 => by
  have ih := ar_row_sorted r0 l (c0 + 1)
  rw [show area_boxes.row r0 (s :: l) c0 = if s.size = 0 then area_boxes.row r0 l (c0 + 1) else (s, (r0 : Int), (c0 : Int)) :: area_boxes.row r0 l (c0 + 1) from rfl]
  split
  ·exact ih
  ·refine List.pairwise_cons.2 ⟨fun y hy => ?_, ih⟩
   obtain ⟨c, h1, h2, _, _⟩ := (ar_row_mem r0 l (c0 + 1) y).1 hy
   exact .inr ⟨by simp [h1], by simp only [h2]; omega⟩
theorem ar_cells_sorted : ∀ (l0 : List (List ByteArray)) (r0 : Nat), (area_boxes.cells l0 r0).Pairwise arLt
 | [], r0 => by simp [area_boxes.cells]
 | l :: l0, r0 => by
  unfold area_boxes.cells
  refine List.pairwise_append.2 ⟨ar_row_sorted r0 l 0, ar_cells_sorted l0 (r0 + 1), fun x hx y hy => ?_⟩
  obtain ⟨c, h1, h2, _, _⟩ := (ar_row_mem r0 l 0 x).1 hx
  obtain ⟨r, c', h1', h2', _, _⟩ := (ar_cells_mem l0 (r0 + 1) y).1 hy
  exact .inl (by rw [h1, h1']; omega)
theorem ar_at_none (s : ByteArray) : ∀ out : List S28, area_boxes.at_ s out = none ↔ ∀ b ∈ out, b.f0 ≠ s
 | [] => by simp [area_boxes.at_]
 | x :: out => by
  have ih := ar_at_none s out
  unfold area_boxes.at_
  split
  ·rename_i h
   simp [h]
  ·rename_i h
   rw [Option.map_eq_none_iff, ih]
   simp [h]
/-- A rectangle is just as great as its name's cells need, and so many there are. -/
structure ArBox (pre : List (ByteArray × Int × Int)) (b : S28) (n : Int) : Prop where
 cnt : n = ((pre.filter (fun x => decide (x.1 = b.f0))).length : Nat)
 bd : ∀ x ∈ pre, x.1 = b.f0 → b.f1 ≤ x.2.1 ∧ x.2.1 < b.f1 + b.f3 ∧ b.f2 ≤ x.2.2 ∧ x.2.2 < b.f2 + b.f4
 top : ∃ x ∈ pre, x.1 = b.f0 ∧ x.2.1 = b.f1
 bot : ∃ x ∈ pre, x.1 = b.f0 ∧ x.2.1 = b.f1 + b.f3 - 1
 lef : ∃ x ∈ pre, x.1 = b.f0 ∧ x.2.2 = b.f2
 rig : ∃ x ∈ pre, x.1 = b.f0 ∧ x.2.2 = b.f2 + b.f4 - 1
open Classical in
/-- The first cells of all names. -/
noncomputable def arFirsts (pre : List (ByteArray × Int × Int)) : List ByteArray := pre.foldl (fun (o : List ByteArray) x => if x.1 ∈ o then o else o ++ [x.1]) []
structure ArInv (pre : List (ByteArray × Int × Int)) (out : List S28) (cnt : List Int) : Prop where
 len : out.length = cnt.length
 names : out.map (·.f0) = arFirsts pre
 box : ∀ (k : Nat) (b : S28) (n : Int), out[k]? = some b → cnt[k]? = some n → ArBox pre b n
open Classical in
theorem ar_firsts_snoc (pre) (x : ByteArray × Int × Int) : arFirsts (pre ++ [x]) = if x.1 ∈ arFirsts pre then arFirsts pre else arFirsts pre ++ [x.1] := by
 unfold arFirsts
 rw [List.foldl_append, List.foldl_cons, List.foldl_nil]
theorem ar_firsts_mem (s : ByteArray) : ∀ (n : Nat) (pre : List (ByteArray × Int × Int)), pre.length = n → (s ∈ arFirsts pre ↔ ∃ x ∈ pre, x.1 = s)
 | 0, pre, h => by
  obtain rfl := List.length_eq_zero_iff.1 h
  simp [arFirsts]
 | n + 1, pre, h => by
  obtain ⟨p, x, rfl⟩ : ∃ p x, pre = p ++ [x] := ⟨pre.dropLast, pre.getLast (by intro e; simp [e] at h), (List.dropLast_concat_getLast _).symm⟩
  have ih := ar_firsts_mem s n p (by simpa using h)
  rw [ar_firsts_snoc]
  simp only [List.mem_append, List.mem_singleton, or_and_right, exists_or, exists_eq_left]
  split
  ·rename_i hx
   rw [ih]
   constructor
   ·exact .inl
   ·rintro (h | rfl)
    ·exact h
    ·exact ih.1 hx
  ·simp only [List.mem_append, List.mem_singleton, ih, eq_comm]
theorem ar_firsts_nodup : ∀ (n : Nat) (pre : List (ByteArray × Int × Int)), pre.length = n → (arFirsts pre).Nodup
 | 0, pre, h => by
  obtain rfl := List.length_eq_zero_iff.1 h
  simp [arFirsts]
 | n + 1, pre, h => by
  obtain ⟨p, x, rfl⟩ : ∃ p x, pre = p ++ [x] := ⟨pre.dropLast, pre.getLast (by intro e; simp [e] at h), (List.dropLast_concat_getLast _).symm⟩
  have ih := ar_firsts_nodup n p (by simpa using h)
  rw [ar_firsts_snoc]
  split
  ·exact ih
  ·rename_i hx
   refine List.nodup_append.2 ⟨ih, by simp, fun a ha b hb => ?_⟩
   simp only [List.mem_singleton] at hb
   subst hb
   exact fun e => hx (e ▸ ha)
def arIn (x : ByteArray × Int × Int) : Prop := 0 ≤ x.2.1 ∧ x.2.1 < 1000000 ∧ 0 ≤ x.2.2 ∧ x.2.2 < 1000000
theorem ar_w (x : Int) (h1 : -9223372036854775808 ≤ x) (h2 : x ≤ 9223372036854775807) : wrap64 x = x := by
 unfold wrap64
 omega
theorem ar_step_inv {pre : List (ByteArray × Int × Int)} {out : List S28} {cnt : List Int} (x : ByteArray × Int × Int) (h : ArInv pre out cnt) (hp : ∀ y ∈ pre, arIn y) (hx : arIn x) (hs : ∀ y ∈ pre, arLt y x) (hl : pre.length < 2000000000000) :
  ArInv (pre ++ [x]) (area_boxes.step x (out, cnt)).1 (area_boxes.step x (out, cnt)).2 := by
 obtain ⟨s, r, c⟩ := x
 have hxr := hx.1
 have hxr2 := hx.2.1
 have hxc := hx.2.2.1
 have hxc2 := hx.2.2.2
 dsimp only at hxr hxr2 hxc hxc2
 have hmem : ∀ s', s' ∈ arFirsts pre ↔ ∃ y ∈ pre, y.1 = s' := fun s' => ar_firsts_mem s' _ pre rfl
 have hold : ∀ b n, ArBox pre b n → b.f0 ≠ s → ArBox (pre ++ [(s, r, c)]) b n := by
  intro b n hb hne
  refine ⟨?_, ?_, ?_, ?_, ?_, ?_⟩
  ·rw [hb.cnt, List.filter_append]
   simp [Ne.symm hne]
  ·intro y hy hy1
   rcases List.mem_append.1 hy with hy | hy
   ·exact hb.bd y hy hy1
   ·simp only [List.mem_singleton] at hy
    subst hy
    exact absurd hy1.symm hne
  all_goals
   first
   | (obtain ⟨y, hy, h1, h2⟩ := hb.top; exact ⟨y, List.mem_append_left _ hy, h1, h2⟩)
   | (obtain ⟨y, hy, h1, h2⟩ := hb.bot; exact ⟨y, List.mem_append_left _ hy, h1, h2⟩)
   | (obtain ⟨y, hy, h1, h2⟩ := hb.lef; exact ⟨y, List.mem_append_left _ hy, h1, h2⟩)
   | (obtain ⟨y, hy, h1, h2⟩ := hb.rig; exact ⟨y, List.mem_append_left _ hy, h1, h2⟩)
 unfold area_boxes.step
 cases hat : area_boxes.at_ s out with
 | none =>
  have hno := (ar_at_none s out).1 hat
  have hnf : s ∉ arFirsts pre := by
   rw [← h.names]
   intro hm
   obtain ⟨b, hb, e⟩ := List.mem_map.1 hm
   exact hno b hb e
  have hnp : ∀ y ∈ pre, y.1 ≠ s := fun y hy e => hnf ((hmem s).2 ⟨y, hy, e⟩)
  dsimp only
  refine ⟨by simp [h.len], by rw [ar_firsts_snoc, if_neg hnf]; simp [h.names], fun k b n hb hn => ?_⟩
  rw [List.getElem?_append] at hb hn
  by_cases hk : k < out.length
  ·rw [if_pos hk] at hb
   rw [if_pos (by rw [← h.len]; exact hk)] at hn
   exact hold b n (h.box k b n hb hn) (hno b (List.mem_of_getElem? hb))
  ·rw [if_neg hk] at hb
   rw [if_neg (by rw [← h.len]; exact hk)] at hn
   have hk0 : k - out.length = 0 := by
    by_cases h0 : k - out.length = 0
    ·exact h0
    ·rw [List.getElem?_eq_none (by simp; omega)] at hb
     cases hb
   rw [hk0] at hb
   rw [← h.len, hk0] at hn
   simp at hb hn
   subst hb hn
   refine ⟨?_, ?_, ⟨(s, r, c), by simp, rfl, rfl⟩, ⟨(s, r, c), by simp, rfl, ?_⟩, ⟨(s, r, c), by simp, rfl, rfl⟩, ⟨(s, r, c), by simp, rfl, ?_⟩⟩
   ·rw [List.filter_append, List.filter_eq_nil_iff.2 (by intro y hy; simp [hnp y hy])]
    simp
   ·intro y hy hy1
    rcases List.mem_append.1 hy with hy | hy
    ·exact absurd hy1 (hnp y hy)
    ·simp only [List.mem_singleton] at hy
     subst hy
     dsimp only
     omega
   ·dsimp only; omega
   ·dsimp only; omega
 | some k =>
  obtain ⟨b0, hb0, hbs⟩ := ar_at_some s out k hat
  have hsf : s ∈ arFirsts pre := by
   rw [← h.names]
   exact List.mem_map.2 ⟨b0, List.mem_of_getElem? hb0, hbs⟩
  dsimp only
  have hkl : k < out.length := (List.getElem?_eq_some_iff.1 hb0).1
  have hnod : (out.map (·.f0)).Nodup := by rw [h.names]; exact ar_firsts_nodup _ pre rfl
  refine ⟨by simp [h.len], ?_, fun k' b n hb hn => ?_⟩
  ·rw [ar_firsts_snoc, if_pos hsf, ← h.names]
   apply List.ext_getElem?
   intro i
   simp only [List.getElem?_map, List.getElem?_modify]
   by_cases hik : k = i
   ·subst hik
    rw [hb0]
    simp [area_boxes.wide]
   ·simp [hik]
  ·rw [List.getElem?_modify] at hb hn
   by_cases hkk : k = k'
   ·subst hkk
    obtain ⟨n0, hn0⟩ : ∃ n0, cnt[k]? = some n0 := ⟨_, List.getElem?_eq_getElem (by rw [← h.len]; exact hkl)⟩
    have hB := h.box k b0 n0 hb0 hn0
    rw [hb0] at hb
    rw [hn0] at hn
    simp at hb hn
    subst hb hn
    subst hbs
    obtain ⟨xt, hxt, ht1, ht2⟩ := hB.top
    obtain ⟨xb, hxb, hb1, hb2⟩ := hB.bot
    obtain ⟨xl, hxl, hl1, hl2⟩ := hB.lef
    obtain ⟨xr, hxr', hr1, hr2⟩ := hB.rig
    have it := hp xt hxt
    have ib := hp xb hxb
    have il := hp xl hxl
    have ir := hp xr hxr'
    unfold arIn at it ib il ir
    have hbl := hB.bd xl hxl hl1
    have hfl : (pre.filter (fun x => decide (x.1 = b0.f0))).length ≤ pre.length := List.length_filter_le _ _
    have st := hs xt hxt
    unfold arLt at st
    dsimp only at st
    have e1 : wrap64 (r + 1) = r + 1 := ar_w _ (by omega) (by omega)
    have e2 : wrap64 (r + 1 - b0.f1) = r + 1 - b0.f1 := ar_w _ (by omega) (by omega)
    have e3 : wrap64 (b0.f2 + b0.f4) = b0.f2 + b0.f4 := ar_w _ (by omega) (by omega)
    have e4 : wrap64 (c + 1) = c + 1 := ar_w _ (by omega) (by omega)
    have e5 : wrap64 (max (b0.f2 + b0.f4) (c + 1) - min b0.f2 c) = max (b0.f2 + b0.f4) (c + 1) - min b0.f2 c := ar_w _ (by omega) (by omega)
    have ew : area_boxes.wide b0 r c = ⟨b0.f0, b0.f1, min b0.f2 c, r + 1 - b0.f1, max (b0.f2 + b0.f4) (c + 1) - min b0.f2 c⟩ := by
     unfold area_boxes.wide
     rw [e1, e2, e3, e4, e5]
    rw [ew]
    refine ⟨?_, ?_, ⟨xt, List.mem_append_left _ hxt, ht1, ht2⟩, ⟨(b0.f0, r, c), by simp, rfl, ?_⟩, ?_, ?_⟩
    ·rw [hB.cnt, List.filter_append]
     dsimp only
     simp only [List.filter_cons, decide_true, List.filter_nil, if_true, List.length_append, List.length_singleton]
     exact (ar_w _ (by omega) (by omega)).trans (by omega)
    ·intro y hy hy1
     dsimp only at hy1 ⊢
     rcases List.mem_append.1 hy with hy | hy
     ·have hb := hB.bd y hy hy1
      have sy := hs y hy
      unfold arLt at sy
      dsimp only at sy
      omega
     ·simp only [List.mem_singleton] at hy
      subst hy
      dsimp only
      omega
    ·dsimp only; omega
    ·by_cases hc : b0.f2 ≤ c
     ·exact ⟨xl, List.mem_append_left _ hxl, hl1, by dsimp only; omega⟩
     ·exact ⟨(b0.f0, r, c), by simp, rfl, by dsimp only; omega⟩
    ·by_cases hc : c + 1 ≤ b0.f2 + b0.f4
     ·exact ⟨xr, List.mem_append_left _ hxr', hr1, by dsimp only; omega⟩
     ·exact ⟨(b0.f0, r, c), by simp, rfl, by dsimp only; omega⟩
   ·simp [hkk] at hb hn
    refine hold b n (h.box k' b n hb hn) (fun e => hkk ?_)
    have h1 : (out.map (·.f0))[k]? = some s := by simp [hb0, hbs]
    have h2 : (out.map (·.f0))[k']? = some s := by simp [hb, e]
    exact (List.getElem?_inj (by simpa using hkl) hnod).1 (h1.trans h2.symm)
theorem ar_run_inv : ∀ (n : Nat) (pre : List (ByteArray × Int × Int)), pre.length = n → pre.Pairwise arLt → (∀ y ∈ pre, arIn y) → pre.length < 2000000000000 → ArInv pre (area_boxes.run pre).1 (area_boxes.run pre).2
 | 0, pre, h, _, _, _ => by
  obtain rfl := List.length_eq_zero_iff.1 h
  exact ⟨rfl, rfl, fun k b n hb => by simp [area_boxes.run] at hb⟩
 | n + 1, pre, h, hs, hp, hl => by
  obtain ⟨p, x, rfl⟩ : ∃ p x, pre = p ++ [x] := ⟨pre.dropLast, pre.getLast (by intro e; simp [e] at h), (List.dropLast_concat_getLast _).symm⟩
  obtain ⟨hs1, _, hs2⟩ := List.pairwise_append.1 hs
  have ih := ar_run_inv n p (by simpa using h) hs1 (fun y hy => hp y (List.mem_append_left _ hy)) (by simp at hl; omega)
  have e : area_boxes.run (p ++ [x]) = area_boxes.step x (area_boxes.run p) := by simp [area_boxes.run]
  rw [e]
  exact ar_step_inv x ih (fun y hy => hp y (List.mem_append_left _ hy)) (hp x (by simp)) (fun y hy => hs2 y hy x (by simp)) (by simp at hl; omega)
theorem ar_nodup_le {α : Type} [DecidableEq α] : ∀ (L R : List α), L.Nodup → (∀ x ∈ L, x ∈ R) → L.length ≤ R.length
 | [], _, _, _ => by simp
 | x :: L, R, hn, hs => by
  obtain ⟨h1, h2⟩ := List.nodup_cons.1 hn
  have hx := hs x (List.mem_cons_self ..)
  have ih := ar_nodup_le L (R.erase x) h2 (fun y hy => (List.mem_erase_of_ne (fun (e : y = x) => h1 (e ▸ hy))).2 (hs y (List.mem_cons_of_mem _ hy)))
  rw [List.length_erase_of_mem hx] at ih
  have := List.length_pos_of_mem hx
  simp only [List.length_cons]
  omega
theorem ar_cover {α : Type} [DecidableEq α] {L R : List α} (hn : L.Nodup) (hs : ∀ x ∈ L, x ∈ R) (hl : R.length ≤ L.length) : ∀ x ∈ R, x ∈ L := by
 intro x hx
 apply Classical.byContradiction
 intro hno
 have := ar_nodup_le (x :: L) R (List.nodup_cons.2 ⟨hno, hn⟩) (fun y hy => by
  rcases List.mem_cons.1 hy with rfl | hy
  ·exact hx
  ·exact hs y hy)
 simp only [List.length_cons] at this
 omega
/-- All places of a rectangle. -/
def arRect (a b : Int) (h w : Nat) : List (Int × Int) := (List.range h).flatMap fun (i : Nat) => (List.range w).map fun (j : Nat) => (a + (i : Int), b + (j : Int))
theorem ar_rect_len (a b : Int) (h w : Nat) : (arRect a b h w).length = h * w := by
 unfold arRect
 induction h with
 | zero => simp
 | succ h ih => rw [List.range_succ, List.flatMap_append, List.length_append, ih]; simp [Nat.succ_mul]
theorem ar_rect_mem (a b : Int) (h w : Nat) (x : Int × Int) : x ∈ arRect a b h w ↔ a ≤ x.1 ∧ x.1 < a + h ∧ b ≤ x.2 ∧ x.2 < b + w := by
 obtain ⟨r, c⟩ := x
 unfold arRect
 simp only [List.mem_flatMap, List.mem_range, List.mem_map, Prod.mk.injEq]
 constructor
 ·rintro ⟨i, hi, j, hj, rfl, rfl⟩
  omega
 ·rintro ⟨h1, h2, h3, h4⟩
  exact ⟨(r - a).toNat, by omega, (c - b).toNat, by omega, by omega, by omega⟩
theorem ar_rect_nodup (a b : Int) (h w : Nat) : (arRect a b h w).Nodup := by
 unfold arRect
 induction h with
 | zero => simp
 | succ h ih =>
  rw [List.range_succ, List.flatMap_append]
  refine List.nodup_append.2 ⟨ih, ?_, ?_⟩
  ·simp only [List.flatMap_cons, List.flatMap_nil, List.append_nil]
   exact List.pairwise_map.2 ((List.nodup_range (n := w)).imp (fun hne e => hne (by simp only [Prod.mk.injEq] at e; omega)))
  ·intro x hx y hy e
   subst e
   simp only [List.flatMap_cons, List.flatMap_nil, List.append_nil, List.mem_map, List.mem_flatMap, List.mem_range] at hx hy
   obtain ⟨i, hi, j, hj, rfl⟩ := hx
   obtain ⟨j', hj', e⟩ := hy
   simp only [Prod.mk.injEq] at e
   omega
/-- The places of a name's cells. -/
def arPts (pre : List (ByteArray × Int × Int)) (s : ByteArray) : List (Int × Int) := (pre.filter (fun x => decide (x.1 = s))).map (·.2)
theorem ar_pts_mem (pre : List (ByteArray × Int × Int)) (s : ByteArray) (p : Int × Int) : p ∈ arPts pre s ↔ (s, p.1, p.2) ∈ pre := by
 unfold arPts
 simp only [List.mem_map, List.mem_filter, decide_eq_true_eq]
 constructor
 ·rintro ⟨⟨s', q⟩, ⟨h1, h2⟩, rfl⟩
  dsimp only at h2
  subst h2
  exact h1
 ·intro h
  exact ⟨_, ⟨h, rfl⟩, rfl⟩
theorem ar_pts_nodup {pre : List (ByteArray × Int × Int)} (h : pre.Pairwise arLt) (s : ByteArray) : (arPts pre s).Nodup := by
 unfold arPts
 refine List.pairwise_map.2 ((h.filter _).imp ?_)
 intro x y hxy e
 unfold arLt at hxy
 rw [e] at hxy
 omega
theorem ar_full_iff : ∀ (out : List S28) (cnt : List Int), area_boxes.full out cnt = true ↔ ∀ (k : Nat) (b : S28) (n : Int), out[k]? = some b → cnt[k]? = some n → wrap64 (b.f3 * b.f4) = n
 | [], cnt => by simp [area_boxes.full]
 | b :: out, [] => by simp [area_boxes.full]
 | b :: out, n :: cnt => by
  have ih := ar_full_iff out cnt
  simp only [area_boxes.full, Bool.and_eq_true, decide_eq_true_eq, ih]
  constructor
  ·rintro ⟨h1, h2⟩ k b' n' hb hn
   cases k with
   | zero =>
    simp at hb hn
    subst hb hn
    exact h1
   | succ k => exact h2 k b' n' (by simpa using hb) (by simpa using hn)
  ·intro h
   exact ⟨h 0 b n rfl rfl, fun k b' n' hb hn => h (k + 1) b' n' (by simpa using hb) (by simpa using hn)⟩
theorem ar_box_dims {pre : List (ByteArray × Int × Int)} {b : S28} {n : Int} (hB : ArBox pre b n) (hp : ∀ y ∈ pre, arIn y) : 0 ≤ b.f1 ∧ b.f1 < 1000000 ∧ 0 ≤ b.f2 ∧ b.f2 < 1000000 ∧ 1 ≤ b.f3 ∧ b.f1 + b.f3 ≤ 1000000 ∧ 1 ≤ b.f4 ∧ b.f2 + b.f4 ≤ 1000000 := by
 obtain ⟨xt, hxt, ht1, ht2⟩ := hB.top
 obtain ⟨xb, hxb, hb1, hb2⟩ := hB.bot
 obtain ⟨xl, hxl, hl1, hl2⟩ := hB.lef
 obtain ⟨xr, hxr, hr1, hr2⟩ := hB.rig
 have it := hp xt hxt
 have ib := hp xb hxb
 have il := hp xl hxl
 have ir := hp xr hxr
 have jt := hB.bd xt hxt ht1
 unfold arIn at it ib il ir
 omega
theorem ar_prod (a b : Int) (ha : 1 ≤ a) (ha2 : a ≤ 1000000) (hb : 1 ≤ b) (hb2 : b ≤ 1000000) : wrap64 (a * b) = a * b ∧ ((a.toNat * b.toNat : Nat) : Int) = a * b := by
 have h1 : 0 ≤ a * b := Int.mul_nonneg (by omega) (by omega)
 have h2 : a * b ≤ 1000000 * 1000000 := Int.mul_le_mul ha2 hb2 (by omega) (by omega)
 refine ⟨ar_w _ (by omega) (by omega), ?_⟩
 rw [Int.natCast_mul, Int.toNat_of_nonneg (by omega), Int.toNat_of_nonneg (by omega)]
theorem ar_box_full {pre : List (ByteArray × Int × Int)} {b : S28} {n : Int} (hB : ArBox pre b n) (hs : pre.Pairwise arLt) (hp : ∀ y ∈ pre, arIn y) (hf : wrap64 (b.f3 * b.f4) = n) (r c : Int) :
  (b.f0, r, c) ∈ pre ↔ b.f1 ≤ r ∧ r < b.f1 + b.f3 ∧ b.f2 ≤ c ∧ c < b.f2 + b.f4 := by
 obtain ⟨d1, d2, d3, d4, d5, d6, d7, d8⟩ := ar_box_dims hB hp
 obtain ⟨q1, q2⟩ := ar_prod b.f3 b.f4 (by omega) (by omega) (by omega) (by omega)
 constructor
 ·intro h
  have := hB.bd _ h rfl
  dsimp only at this
  omega
 ·intro h
  have hsub : ∀ p ∈ arPts pre b.f0, p ∈ arRect b.f1 b.f2 b.f3.toNat b.f4.toNat := by
   intro p hp1
   have := hB.bd _ ((ar_pts_mem _ _ _).1 hp1) rfl
   dsimp only at this
   rw [ar_rect_mem]
   omega
  have hlen : (arRect b.f1 b.f2 b.f3.toNat b.f4.toNat).length ≤ (arPts pre b.f0).length := by
   have h1 := hB.cnt
   have h2 : (arPts pre b.f0).length = (pre.filter (fun x => decide (x.1 = b.f0))).length := by simp [arPts]
   rw [ar_rect_len, h2]
   omega
  have := ar_cover (ar_pts_nodup hs b.f0) hsub hlen (r, c) (by rw [ar_rect_mem]; dsimp only; omega)
  exact (ar_pts_mem _ _ _).1 this
theorem ar_box_of_rect {pre : List (ByteArray × Int × Int)} {b : S28} {n : Int} (hB : ArBox pre b n) (hs : pre.Pairwise arLt) (hp : ∀ y ∈ pre, arIn y) (r0 c0 h w : Int) (hr : ∀ r c, (b.f0, r, c) ∈ pre ↔ r0 ≤ r ∧ r < r0 + h ∧ c0 ≤ c ∧ c < c0 + w) :
  b.f1 = r0 ∧ b.f2 = c0 ∧ b.f3 = h ∧ b.f4 = w ∧ wrap64 (b.f3 * b.f4) = n := by
 have hr' : ∀ y ∈ pre, y.1 = b.f0 → r0 ≤ y.2.1 ∧ y.2.1 < r0 + h ∧ c0 ≤ y.2.2 ∧ y.2.2 < c0 + w := by
  rintro ⟨s, r, c⟩ hy rfl
  exact (hr r c).1 hy
 obtain ⟨xt, hxt, ht1, ht2⟩ := hB.top
 obtain ⟨xb, hxb, hb1, hb2⟩ := hB.bot
 obtain ⟨xl, hxl, hl1, hl2⟩ := hB.lef
 obtain ⟨xr, hxr, hr1, hr2⟩ := hB.rig
 have jt := hr' xt hxt ht1
 have jb := hr' xb hxb hb1
 have jl := hr' xl hxl hl1
 have jr := hr' xr hxr hr1
 have k0 := hB.bd _ ((hr r0 c0).2 (by omega)) rfl
 have k1 := hB.bd _ ((hr (r0 + h - 1) (c0 + w - 1)).2 (by omega)) rfl
 dsimp only at k0 k1
 have e1 : b.f1 = r0 := by omega
 have e2 : b.f2 = c0 := by omega
 have e3 : b.f3 = h := by omega
 have e4 : b.f4 = w := by omega
 refine ⟨e1, e2, e3, e4, ?_⟩
 obtain ⟨d1, d2, d3, d4, d5, d6, d7, d8⟩ := ar_box_dims hB hp
 obtain ⟨q1, q2⟩ := ar_prod b.f3 b.f4 (by omega) (by omega) (by omega) (by omega)
 have h2 : (arPts pre b.f0).length = (pre.filter (fun x => decide (x.1 = b.f0))).length := by simp [arPts]
 have h3 : (arPts pre b.f0).length ≤ b.f3.toNat * b.f4.toNat := by
  rw [← ar_rect_len b.f1 b.f2]
  refine ar_nodup_le _ _ (ar_pts_nodup hs _) (fun p hp1 => ?_)
  have := hB.bd _ ((ar_pts_mem _ _ _).1 hp1) rfl
  dsimp only at this
  rw [ar_rect_mem]
  omega
 have h4 : b.f3.toNat * b.f4.toNat ≤ (arPts pre b.f0).length := by
  rw [← ar_rect_len b.f1 b.f2]
  refine ar_nodup_le _ _ (ar_rect_nodup _ _ _ _) (fun p hp1 => ?_)
  rw [ar_rect_mem] at hp1
  rw [ar_pts_mem, hr]
  omega
 rw [q1, hB.cnt]
 omega
end Go.Proofs.YtofdhdafabmhmaaGreatDoor.Giv
end
section
/- Which rows are areas: area.Good, area.Rects; what their rectangles are. Conditions: as each theorem says. -/
namespace Go.Proofs.YtofdhdafabmhmaaGreatDoor.PureAr
open Go.RowKit Go.Proofs.YtofdhdafabmhmaaGreatDoorW.PrintWords Go.Proofs.YtofdhdafabmhmaaGreatDoorW.PrintMore Go.Proofs.YtofdhdafabmhmaaGreatDoor.Evs Go.Proofs.YtofdhdafabmhmaaGreatDoor.Opn Go.Proofs.YtofdhdafabmhmaaGreatDoor.PAr Go.Proofs.YtofdhdafabmhmaaGreatDoor.Giv
open Go
def cellOk (s : ByteArray) : Bool := decide (s.size ≤ 64) && s.data.toList.all inB
def rowOk (h : Nat) (l : List ByteArray) : Bool := decide (1 ≤ l.length ∧ l.length ≤ 64 ∧ l.length = h) && l.all cellOk
def boxR (l0 : List (List ByteArray)) : List S28 × List Int := area_boxes.run (area_boxes.cells l0 0)
def fullB (l0 : List (List ByteArray)) : Bool := area_boxes.full (boxR l0).1 (boxR l0).2
def goodB (l0 : List (List ByteArray)) : Bool := decide (l0.length ≤ 64) && (l0.all (rowOk (l0.headD []).length) && fullB l0)
theorem tw_all {f : UInt8 → Bool} : ∀ l : List UInt8, decide ((l.takeWhile f).length < l.length) = !l.all f
 | [] => rfl
 | c :: l => by
  have ih := tw_all (f := f) l
  rw [List.takeWhile_cons, List.all_cons]
  cases f c with
  | false => simp
  | true =>
   simp only [if_true, List.length_cons, Bool.true_and]
   rw [← ih]
   congr 1
   simp
theorem row_len (r : Nat) : ∀ (l : List ByteArray) (c : Nat), (area_boxes.row r l c).length ≤ l.length
 | [], c => by simp [area_boxes.row]
 | s :: l, c => by
  have ih := row_len r l (c + 1)
  rw [show area_boxes.row r (s :: l) c = if s.size = 0 then area_boxes.row r l (c + 1) else (s, (r : Int), (c : Int)) :: area_boxes.row r l (c + 1) from rfl]
  split <;> simp only [List.length_cons] <;> omega
theorem cells_len (m : Nat) : ∀ (l0 : List (List ByteArray)) (r : Nat), (∀ l ∈ l0, l.length ≤ m) → (area_boxes.cells l0 r).length ≤ l0.length * m
 | [], r, _ => by simp [area_boxes.cells]
 | l :: l0, r, h => by
  have ih := cells_len m l0 (r + 1) (fun l hl => h l (List.mem_cons_of_mem _ hl))
  have h1 := row_len r l 0
  have h2 := h l List.mem_cons_self
  rw [area_boxes.cells, List.length_append, List.length_cons, Nat.succ_mul]
  omega
theorem rowOk_len {h : Nat} {l : List ByteArray} (hr : rowOk h l = true) : 1 ≤ l.length ∧ l.length ≤ 64 ∧ l.length = h ∧ ∀ s ∈ l, s.size ≤ 64 ∧ ∀ c ∈ s.data.toList, inB c = true := by
 simp only [rowOk, Bool.and_eq_true, decide_eq_true_eq, List.all_eq_true] at hr
 refine ⟨hr.1.1, hr.1.2.1, hr.1.2.2, fun s hs => ?_⟩
 have := hr.2 s hs
 simp only [cellOk, Bool.and_eq_true, decide_eq_true_eq, List.all_eq_true] at this
 exact this
theorem boxes_f {l0 : List (List ByteArray)} (h1 : l0.length ≤ 64) (h2 : ∀ l ∈ l0, l.length ≤ 64 ∧ ∀ s ∈ l, s.size ≤ 64) (k : Nat) : area_boxes.f k l0 = if fullB l0 = true then some ((boxR l0).1, true) else some ([], false) := by
 have h3 := cells_len 64 l0 0 (fun l hl => (h2 l hl).1)
 unfold area_boxes.f
 rw [if_pos ⟨by omega, by omega, fun l hl => ⟨by have := (h2 l hl).1; omega, fun s hs => by have := (h2 l hl).2 s hs; omega⟩⟩]
 rfl
section
variable {l0 : List (List ByteArray)} {r : Bool} {i : Nat}
theorem good_l1 (row : List ByteArray) (hl : row.length ≤ 64) : ∀ (n j : Nat), j + n = row.length → ((row.drop j).all cellOk = true → Ev (fun k => area_Good.l0 k l0 l0 (l0.length : Int) (wrap64 ((i : Int) + 1))) r) → Ev (fun k => area_Good.l1 k l0 l0 (l0.length : Int) (i : Int) row (row.length : Int) (j : Int)) ((row.drop j).all cellOk && r)
 | 0, j, hj, h => by
  refine ev_step ?_
  simp only [area_Good.l1]
  rw [List.drop_of_length_le (by omega)] at h ⊢
  exact ev_neg (by omega) (h rfl)
 | n + 1, j, hj, h => by
  refine ev_step ?_
  simp only [area_Good.l1]
  have hlt : j < row.length := by omega
  obtain ⟨s, hs⟩ : ∃ s, row[j]? = some s := ⟨_, List.getElem?_eq_getElem hlt⟩
  have e1 : rdOf ByteArray.empty row (j : Int) = s := by
   unfold rdOf
   rw [Int.toNat_natCast, List.getD_eq_getElem?_getD, hs]
   rfl
  have e2 : row.drop j = s :: row.drop (j + 1) := by
   rw [List.drop_eq_getElem_cons hlt, (List.getElem?_eq_some_iff.1 hs).2]
  rw [e1, e2, List.all_cons]
  refine ev_pos (by omega) (ev_pos (by omega) (ev_pos (by omega) (ev_ite (fun hb => ?_) (fun hb => ?_))))
  ·refine ev_eq ?_
   have : cellOk s = false := by
    unfold cellOk
    rw [decide_eq_false (by omega)]
    rfl
   rw [this]
   rfl
  ·have hc : decide ((s.data.toList.takeWhile inB).length < s.data.toList.length) = !s.data.toList.all inB := tw_all _
   rw [size_list] at hc
   refine ev_bind (run_in (by omega)) (ev_ite (fun hb2 => ?_) (fun hb2 => ?_))
   ·refine ev_eq ?_
    rw [decide_eq_true (by omega)] at hc
    have : cellOk s = false := by
     unfold cellOk
     rw [show s.data.toList.all inB = false by simpa using hc.symm, Bool.and_false]
    rw [this]
    rfl
   ·rw [decide_eq_false (by omega)] at hc
    have : cellOk s = true := by
     unfold cellOk
     rw [show s.data.toList.all inB = true by simpa using hc.symm, decide_eq_true (by omega)]
     rfl
    rw [this, Bool.true_and, w64 (by omega) (by omega)]
    exact good_l1 row hl n (j + 1) (by omega) (fun h'' => h (by rw [e2, List.all_cons, this, h'']; rfl))
theorem good_l0 (h64 : l0.length ≤ 64) : ∀ (n i : Nat), i + n = l0.length → (∀ l ∈ l0.take i, rowOk (l0.headD []).length l = true) → Ev (fun k => area_Good.l0 k l0 l0 (l0.length : Int) (i : Int)) ((l0.drop i).all (rowOk (l0.headD []).length) && fullB l0)
 | 0, i, hi, hok => by
  refine ev_step ?_
  simp only [area_Good.l0]
  have hi0 : i = l0.length := by omega
  subst hi0
  rw [List.take_length] at hok
  rw [List.drop_length]
  refine ev_neg (by omega) ?_
  have hb : ∀ k, area_boxes.f k l0 = if fullB l0 = true then some ((boxR l0).1, true) else some ([], false) := boxes_f h64 (fun l hl => by
   obtain ⟨_, a, _, b⟩ := rowOk_len (hok l hl)
   exact ⟨a, fun s hs => (b s hs).1⟩)
  refine Ev.congr (f := fun _ => some (fullB l0)) (fun k => ?_) (ev_eq (by rw [List.all_nil, Bool.true_and]))
  rw [hb]
  cases fullB l0 <;> rfl
 | n + 1, i, hi, hok => by
  refine ev_step ?_
  simp only [area_Good.l0]
  have hlt : i < l0.length := by omega
  obtain ⟨row, hs⟩ : ∃ s, l0[i]? = some s := ⟨_, List.getElem?_eq_getElem hlt⟩
  have e1 : rd_L1 l0 (i : Int) = row := by
   unfold rd_L1
   rw [Int.toNat_natCast, List.getD_eq_getElem?_getD, hs]
   rfl
  have e2 : l0.drop i = row :: l0.drop (i + 1) := by
   rw [List.drop_eq_getElem_cons hlt, (List.getElem?_eq_some_iff.1 hs).2]
  have e3 : rd_L1 l0 0 = l0.headD [] := by
   unfold rd_L1
   cases l0 <;> rfl
  rw [e1, e2, e3, List.all_cons]
  have bad : rowOk (l0.headD []).length row = false → Ev (fun k => area_Good.j1 k l0 row l0 (l0.length : Int) (i : Int) true) ((rowOk (l0.headD []).length row && (l0.drop (i + 1)).all (rowOk (l0.headD []).length)) && fullB l0) := fun hb => by
   rw [hb]
   refine ev_step ?_
   simp only [area_Good.j1]
   exact ev_pos (by trivial) (ev_eq rfl)
  refine ev_pos (by omega) (ev_pos (by omega) (ev_pos (by omega) (ev_ite (fun h1 => bad ?_) (fun h1 => ev_ite (fun h2 => bad ?_) (fun h2 => ev_pos (by omega) ?_)))))
  ·unfold rowOk
   rw [decide_eq_false (by omega)]
   rfl
  ·unfold rowOk
   rw [decide_eq_false (by omega)]
   rfl
  ·by_cases h3 : row.length = (l0.headD []).length
   ·rw [show ((row.length : Int) != ((l0.headD []).length : Int)) = false by rw [h3]; simp]
    refine ev_step ?_
    simp only [area_Good.j1]
    refine ev_neg (by decide) ?_
    have hr : rowOk (l0.headD []).length row = row.all cellOk := by
     unfold rowOk
     rw [decide_eq_true ⟨by omega, by omega, h3⟩, Bool.true_and]
    have := good_l1 (i := i) (r := (l0.drop (i + 1)).all (rowOk (l0.headD []).length) && fullB l0) row (by omega) row.length 0 (by omega) (fun hc => by
     rw [w64 (by omega) (by omega)]
     exact good_l0 h64 n (i + 1) (by omega) (fun l hl => by
      rw [List.take_add_one, hs] at hl
      rcases List.mem_append.1 hl with hl | hl
      ·exact hok l hl
      ·simp at hl
       subst hl
       rw [hr]
       exact hc))
    rw [List.drop_zero, ← hr] at this
    rw [Bool.and_assoc]
    exact this
   ·rw [show ((row.length : Int) != ((l0.headD []).length : Int)) = true by simp only [bne_iff_ne, ne_eq]; omega]
    refine bad ?_
    unfold rowOk
    rw [decide_eq_false (by omega)]
    rfl
end
theorem good_ev (l0 : List (List ByteArray)) : Ev (fun k => area_Good.f k l0) (goodB l0) := by
 simp only [area_Good.f]
 refine ev_ite (fun h => ev_eq ?_) (fun h => ?_)
 ·unfold goodB
  rw [decide_eq_false (by omega)]
  rfl
 ·have := good_l0 (l0 := l0) (by omega) l0.length 0 (by omega) (fun l hl => by simp at hl)
  rw [List.drop_zero] at this
  unfold goodB
  rw [decide_eq_true (by omega), Bool.true_and]
  exact this
structure GoodA (l0 : List (List ByteArray)) : Prop where
 n : l0.length ≤ 64
 row : ∀ l ∈ l0, 1 ≤ l.length ∧ l.length ≤ 64 ∧ l.length = (l0.headD []).length ∧ ∀ s ∈ l, s.size ≤ 64 ∧ ∀ c ∈ s.data.toList, inB c = true
 full : fullB l0 = true
theorem good_of {l0 : List (List ByteArray)} (h : goodB l0 = true) : GoodA l0 := by
 simp only [goodB, Bool.and_eq_true, decide_eq_true_eq, List.all_eq_true] at h
 exact ⟨h.1, fun l hl => rowOk_len (h.2.1 l hl), h.2.2⟩
theorem good_boxes {l0 : List (List ByteArray)} (h : GoodA l0) (k : Nat) : area_boxes.f k l0 = some ((boxR l0).1, true) := by
 rw [boxes_f h.n (fun l hl => ⟨(h.row l hl).2.1, fun s hs => ((h.row l hl).2.2.2 s hs).1⟩), h.full]
 rfl
theorem rects_ev {l0 : List (List ByteArray)} (h : goodB l0 = true) : Ev (fun k => area_Rects.f k l0) (boxR l0).1 := by
 simp only [area_Rects.f]
 have hg := good_ev l0
 rw [h] at hg
 refine ev_bind hg (ev_pos rfl (Ev.congr (f := fun _ => some (boxR l0).1) (fun k => ?_) ev_some))
 rw [good_boxes (good_of h)]
 rfl
theorem rects_none {l0 : List (List ByteArray)} (h : goodB l0 = false) : Ev (fun k => area_Rects.f k l0) [] := by
 simp only [area_Rects.f]
 have hg := good_ev l0
 rw [h] at hg
 exact ev_bind hg (ev_neg (by decide) ev_some)
/-- What a rectangle has. -/
def inRect (b : S28) (r c : Int) : Prop := b.f1 ≤ r ∧ r < b.f1 + b.f3 ∧ b.f2 ≤ c ∧ c < b.f2 + b.f4
instance (b : S28) (r c : Int) : Decidable (inRect b r c) := by unfold inRect; exact inferInstance
/-- The laws of rows that are areas. -/
structure AreasA (l0 : List (List ByteArray)) (out : List S28) : Prop where
 dims : ∀ b ∈ out, 0 ≤ b.f1 ∧ b.f1 < 1000000 ∧ 0 ≤ b.f2 ∧ b.f2 < 1000000 ∧ 1 ≤ b.f3 ∧ b.f1 + b.f3 ≤ 1000000 ∧ 1 ≤ b.f4 ∧ b.f2 + b.f4 ≤ 1000000
 has : ∀ b ∈ out, ∀ r c : Nat, inRect b r c ↔ (arAt l0 r c = some b.f0 ∧ b.f0.size ≠ 0)
 nodup : (out.map (·.f0)).Nodup
 all : ∀ (r c : Nat) (s : ByteArray), arAt l0 r c = some s → s.size ≠ 0 → ∃ b ∈ out, b.f0 = s
 names : out.map (·.f0) = arFirsts (area_boxes.cells l0 0)
theorem firsts_len : ∀ pre : List (ByteArray × Int × Int), (arFirsts pre).length ≤ pre.length := by
 intro pre
 have : ∀ (n : Nat) (pre : List (ByteArray × Int × Int)), pre.length = n → (arFirsts pre).length ≤ pre.length := by
  intro n
  induction n with
  | zero =>
   intro pre h
   obtain rfl := List.length_eq_zero_iff.1 h
   simp [arFirsts]
  | succ n ih =>
   intro pre h
   obtain ⟨p, x, rfl⟩ : ∃ p x, pre = p ++ [x] := ⟨pre.dropLast, pre.getLast (by intro e; simp [e] at h), (List.dropLast_concat_getLast _).symm⟩
   have := ih p (by simpa using h)
   rw [ar_firsts_snoc]
   split <;> simp only [List.length_append, List.length_singleton] <;> omega
 exact this _ pre rfl
theorem cells_in {l0 : List (List ByteArray)} (h1 : l0.length ≤ 64) (h2 : ∀ l ∈ l0, l.length ≤ 64) : ∀ y ∈ area_boxes.cells l0 0, arIn y := by
 intro y hy
 obtain ⟨r, c, e1, e2, e3, _⟩ := (ar_cells_mem l0 0 y).1 hy
 unfold arAt at e3
 obtain ⟨l, hl, hc⟩ := Option.bind_eq_some_iff.1 e3
 have h3 := (List.getElem?_eq_some_iff.1 hl).1
 have h4 := (List.getElem?_eq_some_iff.1 hc).1
 have h5 := h2 l (List.mem_of_getElem? hl)
 unfold arIn
 omega
theorem box_inv {l0 : List (List ByteArray)} (h1 : l0.length ≤ 64) (h2 : ∀ l ∈ l0, l.length ≤ 64) : ArInv (area_boxes.cells l0 0) (boxR l0).1 (boxR l0).2 := by
 have h3 := cells_len 64 l0 0 h2
 exact ar_run_inv _ _ rfl (ar_cells_sorted l0 0) (cells_in h1 h2) (by omega)
theorem areas_of {l0 : List (List ByteArray)} (h : GoodA l0) : AreasA l0 (boxR l0).1 := by
 have hl2 : ∀ l ∈ l0, l.length ≤ 64 := fun l hl => (h.row l hl).2.1
 have hv := box_inv h.n hl2
 have hin := cells_in h.n hl2
 have hso := ar_cells_sorted l0 0
 have hf := (ar_full_iff _ _).1 h.full
 have key : ∀ b ∈ (boxR l0).1, ∃ n, ArBox (area_boxes.cells l0 0) b n ∧ wrap64 (b.f3 * b.f4) = n := by
  intro b hb
  obtain ⟨k, hk⟩ := List.mem_iff_getElem?.1 hb
  have hlt := (List.getElem?_eq_some_iff.1 hk).1
  obtain ⟨n, hn⟩ : ∃ n, (boxR l0).2[k]? = some n := ⟨_, List.getElem?_eq_getElem (by rw [← hv.len]; exact hlt)⟩
  exact ⟨n, hv.box k b n hk hn, hf k b n hk hn⟩
 refine ⟨fun b hb => ?_, fun b hb r c => ?_, ?_, fun r c s hs hz => ?_, hv.names⟩
 ·obtain ⟨n, hB, _⟩ := key b hb
  exact ar_box_dims hB hin
 ·obtain ⟨n, hB, hn⟩ := key b hb
  unfold inRect
  rw [← ar_box_full hB hso hin hn (r : Int) (c : Int), ar_cells_mem]
  constructor
  ·rintro ⟨r', c', e1, e2, e3, e4⟩
   dsimp only at e1 e2 e3 e4
   have e5 : r' = r := by omega
   have e6 : c' = c := by omega
   subst e5 e6
   exact ⟨e3, e4⟩
  ·rintro ⟨e3, e4⟩
   exact ⟨r, c, by dsimp only; omega, rfl, e3, e4⟩
 ·rw [hv.names]
  exact ar_firsts_nodup _ _ rfl
 ·have hm : s ∈ (boxR l0).1.map (·.f0) := by
   rw [hv.names, ar_firsts_mem s _ _ rfl]
   exact ⟨(s, (r : Int), (c : Int)), (ar_cells_mem _ _ _).2 ⟨r, c, by dsimp only; omega, rfl, hs, hz⟩, rfl⟩
  obtain ⟨b, hb, e⟩ := List.mem_map.1 hm
  exact ⟨b, hb, e⟩
end Go.Proofs.YtofdhdafabmhmaaGreatDoor.PureAr
end
