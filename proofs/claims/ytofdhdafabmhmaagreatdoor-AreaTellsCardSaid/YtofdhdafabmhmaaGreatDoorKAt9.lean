/- AreaTellsCardSaid, part 10 of 15: contracts of the program's functions, the words that they use, and the plain laws on what they compute. Conditions: none beyond what the statements say. -/
import Derived.Test.YtofdhdafabmhmaaGreatDoorKAt1
import Derived.Test.YtofdhdafabmhmaaGreatDoorKAt2
import Derived.Test.YtofdhdafabmhmaaGreatDoorKAt8
set_option linter.unusedVariables false
set_option linter.unusedSimpArgs false
section
namespace Go.Proofs.YtofdhdafabmhmaaGreatDoor.PAr
open Go.RowKit Go.Proofs.YtofdhdafabmhmaaGreatDoorW.PrintWords Go.Proofs.YtofdhdafabmhmaaGreatDoorW.PrintLast Go.Proofs.YtofdhdafabmhmaaGreatDoorW.PrintMore
attribute [local go_sem] max2_int min2_int max_two min_two max_three min_three max_four min_four
open Go.Proofs.YtofdhdafabmhmaaGreatDoor.Opn Go.Proofs.YtofdhdafabmhmaaGreatDoor.Giv

/-! ### parterreref08_filled: function 29 -/
mutual
def parterreref08_filled.l0 : Nat → List (List ByteArray) → Int → Option (Bool)
 | 0, _, _ => none
 | k + 1, x0, x3 => if x3 < (x0.length : Int) then (parterreref08_filled.l1 k x0 x3 0) else (some true)
def parterreref08_filled.l1 : Nat → List (List ByteArray) → Int → Int → Option (Bool)
 | 0, _, _, _ => none
 | k + 1, x0, x3, x4 => if 0 ≤ x3 then (if x3 < (x0.length : Int) then (if x4 < ((rd_L1 x0 x3).length : Int) then (if 0 ≤ x4 then (if (rdOf ByteArray.empty (rd_L1 x0 x3) x4).toList = ([] : List UInt8) then (parterreref08_filled.l1 k x0 x3 (wrap64 (x4 + 1))) else ((parterreref08_first.f k x0 x3 x4).bind fun t273 => (if t273 = true then ((parterreref08_fills.f k x0 x3 x4).bind fun t274 => (if t274 = true then (parterreref08_filled.l1 k x0 x3 (wrap64 (x4 + 1))) else (some false))) else (parterreref08_filled.l1 k x0 x3 (wrap64 (x4 + 1)))))) else (none)) else (parterreref08_filled.l0 k x0 (wrap64 (x3 + 1)))) else (none)) else (none)
end
def parterreref08_filled.f (k : Nat) (l0 : List (List ByteArray)) : Option (Bool) := parterreref08_filled.l0 k l0 0
theorem parterreref08_filled.mono_l : ∀ k, (∀ y0 y1, LeO (parterreref08_filled.l0 k y0 y1) (parterreref08_filled.l0 (k + 1) y0 y1)) ∧ (∀ y0 y1 y2, LeO (parterreref08_filled.l1 k y0 y1 y2) (parterreref08_filled.l1 (k + 1) y0 y1 y2))
 | 0 => ⟨fun _ _ r h => by simp [parterreref08_filled.l0] at h, fun _ _ _ r h => by simp [parterreref08_filled.l1] at h⟩
 | k + 1 => by
  obtain ⟨ih0, ih1⟩ := parterreref08_filled.mono_l k
  refine ⟨?_, ?_⟩
  ·intro y0 y1
   unfold parterreref08_filled.l0
   repeat' first
   | (with_reducible exact ih0 _ _)
   | (with_reducible exact ih1 _ _ _)
   | (with_reducible exact parterreref08_fills.mono _ _ _ _)
   | (with_reducible exact parterreref08_first.mono _ _ _ _)
   | (with_reducible exact LeO.refl _)
   | (with_reducible exact LeO.none _)
   | (with_reducible refine LeO.ite ?_ ?_)
   | (with_reducible refine LeO.bind ?_ (fun _ => ?_))
  ·intro y0 y1 y2
   unfold parterreref08_filled.l1
   repeat' first
   | (with_reducible exact ih0 _ _)
   | (with_reducible exact ih1 _ _ _)
   | (with_reducible exact parterreref08_fills.mono _ _ _ _)
   | (with_reducible exact parterreref08_first.mono _ _ _ _)
   | (with_reducible exact LeO.refl _)
   | (with_reducible exact LeO.none _)
   | (with_reducible refine LeO.ite ?_ ?_)
   | (with_reducible refine LeO.bind ?_ (fun _ => ?_))
theorem parterreref08_filled.mono : ∀ a0 k, LeO (parterreref08_filled.f k a0) (parterreref08_filled.f (k + 1) a0) := by
 intro a0 k
 obtain ⟨ih0, ih1⟩ := parterreref08_filled.mono_l k
 unfold parterreref08_filled.f
 repeat' first
   | (with_reducible exact ih0 _ _)
   | (with_reducible exact ih1 _ _ _)
   | (with_reducible exact parterreref08_fills.mono _ _ _ _)
   | (with_reducible exact parterreref08_first.mono _ _ _ _)
   | (with_reducible exact LeO.refl _)
   | (with_reducible exact LeO.none _)
   | (with_reducible refine LeO.ite ?_ ?_)
   | (with_reducible refine LeO.bind ?_ (fun _ => ?_))
set_option maxHeartbeats 8000000 in
set_option maxRecDepth 100000 in
theorem parterreref08_filled.calls (k : Nat) (A0 : Option Addr) (c0 : Nat) (l0 : List (List ByteArray)) (r : Bool) (w : World) (hr0 : Kd.C (Kd.slice 9 Kd.string) w A0 l0.length l0) (hc0 : l0.length ≤ c0) (h : parterreref08_filled.f k l0 = some r) :
  Calls Tryz.prog 29 #[.slice A0 l0.length c0] w fun e w' => e = .returned (.bool r) ∧ Drawn0 w w' := by
 have HR0 := Aside0.mk hr0
 have HC0 := Aside0.mk hc0
 clear hr0 hc0
 have H : (parterreref08_filled.l0 k l0 0) = some r := h
 clear h
 have H' := Aside0.mk H
 clear H
 go_enter Tryz.func29, Tryz.ntmps29
 go_wp2
 go_loopg [3] k (fun kq v3 w' => ∃ (x3_1 : Int), v3 = .int .i64 x3_1 ∧ Aside0 (parterreref08_filled.l0 kq l0 x3_1 = some r) ∧ Aside0 (kq ≤ k) ∧ Drawn0 w w')
 case atStart => exact ⟨(0), rfs_, H', ⟨Nat.le_refl _⟩, drs_⟩
 case round =>
  clear H'
  obtain ⟨x3_1, rfl, HA, HK1, ⟨m1, rfl⟩⟩ := hrel
  cases gk with
  | zero => exact absurd HA.out (by simp [parterreref08_filled.l0])
  | succ k1 =>
   have H := HA.out
   clear HA
   simp only [parterreref08_filled.l0] at H
   by_cases c2 : x3_1 < (l0.length : Int)
   ·rw [if_pos c2] at H
    have c2b0 : decide (x3_1 < (l0.length : Int)) = true := decide_eq_true c2
    clear c2
    have H' := Aside0.mk H
    clear H
    go_wp2
    go_loopg [4] k1 (fun kq v4 w' => ∃ (x4_2 : Int), v4 = .int .i64 x4_2 ∧ Aside0 (parterreref08_filled.l1 kq l0 x3_1 x4_2 = some r) ∧ Aside0 (kq ≤ k1) ∧ Drawn0 w w')
    case atStart => exact ⟨(0), rfs_, H', ⟨Nat.le_refl _⟩, drs_⟩
    case round =>
     clear H'
     try clear c2b0
     obtain ⟨x4_2, rfl, HA, HK2, ⟨m2, rfl⟩⟩ := hrel
     cases gk with
     | zero => exact absurd HA.out (by simp [parterreref08_filled.l1])
     | succ k2 =>
      have H := HA.out
      clear HA
      simp only [parterreref08_filled.l1] at H
      by_cases c3 : 0 ≤ x3_1
      ·rw [if_pos c3] at H
       have c3b0 : decide (0 ≤ x3_1) = true := decide_eq_true c3
       clear c3
       by_cases c4 : x3_1 < (l0.length : Int)
       ·rw [if_pos c4] at H
        have c4b0 : decide (x3_1 < (l0.length : Int)) = true := decide_eq_true c4
        clear c4
        by_cases c5 : x4_2 < ((rd_L1 l0 x3_1).length : Int)
        ·rw [if_pos c5] at H
         have c5b0 : decide (x4_2 < ((rd_L1 l0 x3_1).length : Int)) = true := decide_eq_true c5
         clear c5
         by_cases c6 : 0 ≤ x4_2
         ·rw [if_pos c6] at H
          have c6b0 : decide (0 ≤ x4_2) = true := decide_eq_true c6
          clear c6
          by_cases c7 : (rdOf ByteArray.empty (rd_L1 l0 x3_1) x4_2).toList = ([] : List UInt8)
          ·rw [if_pos c7] at H
           have c7b0 : ((rdOf ByteArray.empty (rd_L1 l0 x3_1) x4_2).toList == ([] : List UInt8)) = true := beq_iff_eq.mpr c7
           have c7b1 : ((rdOf ByteArray.empty (rd_L1 l0 x3_1) x4_2).toList != ([] : List UInt8)) = false := bne_eq_false_iff_eq.mpr c7
           clear c7
           have H' := Aside0.mk H
           clear H
           have p270 : 0 ≤ (x3_1 : Int) := of_decide_eq_true (by first | (with_reducible assumption) | assumption)
           have q270 : x3_1 < (l0.length : Int) := of_decide_eq_true (by first | (with_reducible assumption) | assumption)
           obtain ⟨ad270, A270_0, c270_0, e270, hx270_0, hl270_0, hi270_0⟩ := at_L1 HR0.out x3_1 p270 q270
           cases e270
           have HR270_0 := Aside0.mk hi270_0
           have HC270_0 := Aside0.mk hl270_0
           clear hi270_0 hl270_0
           replace p270 := eq_true p270
           replace q270 := eq_true q270
           have p271 : 0 ≤ (x3_1 : Int) := of_decide_eq_true (by first | (with_reducible assumption) | assumption)
           have q271 : x3_1 < (l0.length : Int) := of_decide_eq_true (by first | (with_reducible assumption) | assumption)
           obtain ⟨ad271, A271_0, c271_0, e271, hx271_0, hl271_0, hi271_0⟩ := at_L1 HR0.out x3_1 p271 q271
           obtain rfl : ad270 = ad271 := (by injection e271)
           have HR271_0 := Aside0.mk hi271_0
           have HC271_0 := Aside0.mk hl271_0
           clear hi271_0 hl271_0
           replace p271 := eq_true p271
           replace q271 := eq_true q271
           have ea_ := Option.some.inj (hx270_0.symm.trans hx271_0)
           injection ea_ with ea_ en_ ec_
           subst ea_
           subst ec_
           clear en_
           have p272 : 0 ≤ (x4_2 : Int) := of_decide_eq_true (by first | (with_reducible assumption) | assumption)
           have q272 : x4_2 < ((rd_L1 l0 x3_1).length : Int) := of_decide_eq_true (by first | (with_reducible assumption) | assumption)
           obtain ⟨ad272, e272, hx272_0⟩ := Kd.at_string HR271_0.out x4_2 p272 q272
           cases e272
           replace p272 := eq_true p272
           replace q272 := eq_true q272
           go_wp2
           go_roundg k2
           case measure => have := HK1.out; have := HK2.out; omega
           case rel => exact ⟨(wrap64 (x4_2 + 1)), rfs_, H', ⟨by have := HK1.out; have := HK2.out; omega⟩, drs_⟩
          ·rw [if_neg c7] at H
           have c7b0 : ((rdOf ByteArray.empty (rd_L1 l0 x3_1) x4_2).toList == ([] : List UInt8)) = false := beq_eq_false_iff_ne.mpr c7
           have c7b1 : ((rdOf ByteArray.empty (rd_L1 l0 x3_1) x4_2).toList != ([] : List UInt8)) = true := bne_iff_ne.mpr c7
           replace H := Option.bind_eq_some_iff.mp H
           obtain ⟨t273, A80, H⟩ := H
           try dsimp only at H
           have A8 := Aside0.mk A80
           clear A80
           by_cases c9 : t273 = true
           ·subst c9
            rw [if_pos rfl] at H
            replace H := Option.bind_eq_some_iff.mp H
            obtain ⟨t274, A100, H⟩ := H
            try dsimp only at H
            have A10 := Aside0.mk A100
            clear A100
            by_cases c11 : t274 = true
            ·subst c11
             rw [if_pos rfl] at H
             have H' := Aside0.mk H
             clear H
             have p270 : 0 ≤ (x3_1 : Int) := of_decide_eq_true (by first | (with_reducible assumption) | assumption)
             have q270 : x3_1 < (l0.length : Int) := of_decide_eq_true (by first | (with_reducible assumption) | assumption)
             obtain ⟨ad270, A270_0, c270_0, e270, hx270_0, hl270_0, hi270_0⟩ := at_L1 HR0.out x3_1 p270 q270
             cases e270
             have HR270_0 := Aside0.mk hi270_0
             have HC270_0 := Aside0.mk hl270_0
             clear hi270_0 hl270_0
             replace p270 := eq_true p270
             replace q270 := eq_true q270
             have p271 : 0 ≤ (x3_1 : Int) := of_decide_eq_true (by first | (with_reducible assumption) | assumption)
             have q271 : x3_1 < (l0.length : Int) := of_decide_eq_true (by first | (with_reducible assumption) | assumption)
             obtain ⟨ad271, A271_0, c271_0, e271, hx271_0, hl271_0, hi271_0⟩ := at_L1 HR0.out x3_1 p271 q271
             obtain rfl : ad270 = ad271 := (by injection e271)
             have HR271_0 := Aside0.mk hi271_0
             have HC271_0 := Aside0.mk hl271_0
             clear hi271_0 hl271_0
             replace p271 := eq_true p271
             replace q271 := eq_true q271
             have ea_ := Option.some.inj (hx270_0.symm.trans hx271_0)
             injection ea_ with ea_ en_ ec_
             subst ea_
             subst ec_
             clear en_
             have p272 : 0 ≤ (x4_2 : Int) := of_decide_eq_true (by first | (with_reducible assumption) | assumption)
             have q272 : x4_2 < ((rd_L1 l0 x3_1).length : Int) := of_decide_eq_true (by first | (with_reducible assumption) | assumption)
             obtain ⟨ad272, e272, hx272_0⟩ := Kd.at_string HR271_0.out x4_2 p272 q272
             cases e272
             replace p272 := eq_true p272
             replace q272 := eq_true q272
             go_wp2_with (first | (go_at_call 25; (with_reducible refine (parterreref08_first.calls k2 _ _ l0 x3_1 x4_2 true _ ?side1 ?side2 A8.out).mono ?_); (case side1 => repeat (first | exact HR0.out | (with_reducible refine Kd.C_alloc ?_ _) | (with_reducible refine Kd.C_drewN ?_ _) | (with_reducible refine Kd.C_drew ?_))); (case side2 => exact HC0.out); rintro e w' ⟨rfl, ⟨nd, rfl⟩⟩) | (go_at_call 52; (with_reducible refine (parterreref08_fills.calls k2 _ _ l0 x3_1 x4_2 true _ ?side1 ?side2 A10.out).mono ?_); (case side1 => repeat (first | exact HR0.out | (with_reducible refine Kd.C_alloc ?_ _) | (with_reducible refine Kd.C_drewN ?_ _) | (with_reducible refine Kd.C_drew ?_))); (case side2 => exact HC0.out); rintro e w' ⟨rfl, ⟨nd, rfl⟩⟩))
             go_roundg k2
             case measure => have := HK1.out; have := HK2.out; omega
             case rel => exact ⟨(wrap64 (x4_2 + 1)), rfs_, H', ⟨by have := HK1.out; have := HK2.out; omega⟩, drs_⟩
            ·replace c11 := Bool.eq_false_iff.mpr c11
             subst c11
             rw [if_neg (show ¬ (false = true) by decide)] at H
             obtain rfl := Option.some.inj H
             have p270 : 0 ≤ (x3_1 : Int) := of_decide_eq_true (by first | (with_reducible assumption) | assumption)
             have q270 : x3_1 < (l0.length : Int) := of_decide_eq_true (by first | (with_reducible assumption) | assumption)
             obtain ⟨ad270, A270_0, c270_0, e270, hx270_0, hl270_0, hi270_0⟩ := at_L1 HR0.out x3_1 p270 q270
             cases e270
             have HR270_0 := Aside0.mk hi270_0
             have HC270_0 := Aside0.mk hl270_0
             clear hi270_0 hl270_0
             replace p270 := eq_true p270
             replace q270 := eq_true q270
             have p271 : 0 ≤ (x3_1 : Int) := of_decide_eq_true (by first | (with_reducible assumption) | assumption)
             have q271 : x3_1 < (l0.length : Int) := of_decide_eq_true (by first | (with_reducible assumption) | assumption)
             obtain ⟨ad271, A271_0, c271_0, e271, hx271_0, hl271_0, hi271_0⟩ := at_L1 HR0.out x3_1 p271 q271
             obtain rfl : ad270 = ad271 := (by injection e271)
             have HR271_0 := Aside0.mk hi271_0
             have HC271_0 := Aside0.mk hl271_0
             clear hi271_0 hl271_0
             replace p271 := eq_true p271
             replace q271 := eq_true q271
             have ea_ := Option.some.inj (hx270_0.symm.trans hx271_0)
             injection ea_ with ea_ en_ ec_
             subst ea_
             subst ec_
             clear en_
             have p272 : 0 ≤ (x4_2 : Int) := of_decide_eq_true (by first | (with_reducible assumption) | assumption)
             have q272 : x4_2 < ((rd_L1 l0 x3_1).length : Int) := of_decide_eq_true (by first | (with_reducible assumption) | assumption)
             obtain ⟨ad272, e272, hx272_0⟩ := Kd.at_string HR271_0.out x4_2 p272 q272
             cases e272
             replace p272 := eq_true p272
             replace q272 := eq_true q272
             go_wp2_with (first | (go_at_call 25; (with_reducible refine (parterreref08_first.calls k2 _ _ l0 x3_1 x4_2 true _ ?side1 ?side2 A8.out).mono ?_); (case side1 => repeat (first | exact HR0.out | (with_reducible refine Kd.C_alloc ?_ _) | (with_reducible refine Kd.C_drewN ?_ _) | (with_reducible refine Kd.C_drew ?_))); (case side2 => exact HC0.out); rintro e w' ⟨rfl, ⟨nd, rfl⟩⟩) | (go_at_call 52; (with_reducible refine (parterreref08_fills.calls k2 _ _ l0 x3_1 x4_2 false _ ?side1 ?side2 A10.out).mono ?_); (case side1 => repeat (first | exact HR0.out | (with_reducible refine Kd.C_alloc ?_ _) | (with_reducible refine Kd.C_drewN ?_ _) | (with_reducible refine Kd.C_drew ?_))); (case side2 => exact HC0.out); rintro e w' ⟨rfl, ⟨nd, rfl⟩⟩))
             go_ret
             exact ⟨by first | rfl | (simp; done) | (simp [*]; done), drs_⟩
           ·replace c9 := Bool.eq_false_iff.mpr c9
            subst c9
            rw [if_neg (show ¬ (false = true) by decide)] at H
            have H' := Aside0.mk H
            clear H
            have p270 : 0 ≤ (x3_1 : Int) := of_decide_eq_true (by first | (with_reducible assumption) | assumption)
            have q270 : x3_1 < (l0.length : Int) := of_decide_eq_true (by first | (with_reducible assumption) | assumption)
            obtain ⟨ad270, A270_0, c270_0, e270, hx270_0, hl270_0, hi270_0⟩ := at_L1 HR0.out x3_1 p270 q270
            cases e270
            have HR270_0 := Aside0.mk hi270_0
            have HC270_0 := Aside0.mk hl270_0
            clear hi270_0 hl270_0
            replace p270 := eq_true p270
            replace q270 := eq_true q270
            have p271 : 0 ≤ (x3_1 : Int) := of_decide_eq_true (by first | (with_reducible assumption) | assumption)
            have q271 : x3_1 < (l0.length : Int) := of_decide_eq_true (by first | (with_reducible assumption) | assumption)
            obtain ⟨ad271, A271_0, c271_0, e271, hx271_0, hl271_0, hi271_0⟩ := at_L1 HR0.out x3_1 p271 q271
            obtain rfl : ad270 = ad271 := (by injection e271)
            have HR271_0 := Aside0.mk hi271_0
            have HC271_0 := Aside0.mk hl271_0
            clear hi271_0 hl271_0
            replace p271 := eq_true p271
            replace q271 := eq_true q271
            have ea_ := Option.some.inj (hx270_0.symm.trans hx271_0)
            injection ea_ with ea_ en_ ec_
            subst ea_
            subst ec_
            clear en_
            have p272 : 0 ≤ (x4_2 : Int) := of_decide_eq_true (by first | (with_reducible assumption) | assumption)
            have q272 : x4_2 < ((rd_L1 l0 x3_1).length : Int) := of_decide_eq_true (by first | (with_reducible assumption) | assumption)
            obtain ⟨ad272, e272, hx272_0⟩ := Kd.at_string HR271_0.out x4_2 p272 q272
            cases e272
            replace p272 := eq_true p272
            replace q272 := eq_true q272
            go_wp2_with (first | (go_at_call 25; (with_reducible refine (parterreref08_first.calls k2 _ _ l0 x3_1 x4_2 false _ ?side1 ?side2 A8.out).mono ?_); (case side1 => repeat (first | exact HR0.out | (with_reducible refine Kd.C_alloc ?_ _) | (with_reducible refine Kd.C_drewN ?_ _) | (with_reducible refine Kd.C_drew ?_))); (case side2 => exact HC0.out); rintro e w' ⟨rfl, ⟨nd, rfl⟩⟩))
            go_roundg k2
            case measure => have := HK1.out; have := HK2.out; omega
            case rel => exact ⟨(wrap64 (x4_2 + 1)), rfs_, H', ⟨by have := HK1.out; have := HK2.out; omega⟩, drs_⟩
         ·rw [if_neg c6] at H
          exact absurd H (by simp)
        ·rw [if_neg c5] at H
         have c5b0 : decide (x4_2 < ((rd_L1 l0 x3_1).length : Int)) = false := decide_eq_false c5
         clear c5
         have H' := Aside0.mk H
         clear H
         have p270 : 0 ≤ (x3_1 : Int) := of_decide_eq_true (by first | (with_reducible assumption) | assumption)
         have q270 : x3_1 < (l0.length : Int) := of_decide_eq_true (by first | (with_reducible assumption) | assumption)
         obtain ⟨ad270, A270_0, c270_0, e270, hx270_0, hl270_0, hi270_0⟩ := at_L1 HR0.out x3_1 p270 q270
         cases e270
         have HR270_0 := Aside0.mk hi270_0
         have HC270_0 := Aside0.mk hl270_0
         clear hi270_0 hl270_0
         replace p270 := eq_true p270
         replace q270 := eq_true q270
         go_wp2
         go_roundg k2
         case measure => have := HK1.out; have := HK2.out; omega
         case rel => exact ⟨(wrap64 (x3_1 + 1)), rfs_, H', ⟨by have := HK1.out; have := HK2.out; omega⟩, drs_⟩
       ·rw [if_neg c4] at H
        exact absurd H (by simp)
      ·rw [if_neg c3] at H
       exact absurd H (by simp)
   ·rw [if_neg c2] at H
    have c2b0 : decide (x3_1 < (l0.length : Int)) = false := decide_eq_false c2
    clear c2
    obtain rfl := Option.some.inj H
    go_wp2
    go_ret
    exact ⟨by first | rfl | (simp; done) | (simp [*]; done), drs_⟩

/-! ### parterreref08_Good: function 10 -/
mutual
def parterreref08_Good.l0 : Nat → List (List ByteArray) → Int → Option (Bool)
 | 0, _, _ => none
 | k + 1, x0, x3 => if x3 < (x0.length : Int) then (if 0 ≤ x3 then (if ((rd_L1 x0 x3).length : Int) < 1 then (parterreref08_Good.j1 k x0 x3 true) else (if ((rd_L1 x0 x3).length : Int) > 64 then (parterreref08_Good.j1 k x0 x3 true) else (if 0 < (x0.length : Int) then (parterreref08_Good.j1 k x0 x3 (((rd_L1 x0 x3).length : Int) != ((rd_L1 x0 0).length : Int))) else (none)))) else (none)) else ((parterreref08_filled.f k x0).bind fun t275 => (some t275))
def parterreref08_Good.j1 : Nat → List (List ByteArray) → Int → Bool → Option (Bool)
 | 0, _, _, _ => none
 | k + 1, x0, x3, x39 => if x39 = true then (some false) else (parterreref08_Good.l1 k x0 x3 0)
def parterreref08_Good.l1 : Nat → List (List ByteArray) → Int → Int → Option (Bool)
 | 0, _, _, _ => none
 | k + 1, x0, x3, x4 => if 0 ≤ x3 then (if x3 < (x0.length : Int) then (if x4 < ((rd_L1 x0 x3).length : Int) then (if 0 ≤ x4 then ((parterreref08_name.f k (rdOf ByteArray.empty (rd_L1 x0 x3) x4)).bind fun t283 => (if t283 = true then (parterreref08_Good.l1 k x0 x3 (wrap64 (x4 + 1))) else (some false))) else (none)) else (parterreref08_Good.l0 k x0 (wrap64 (x3 + 1)))) else (none)) else (none)
end
def parterreref08_Good.f (k : Nat) (l0 : List (List ByteArray)) : Option (Bool) := if (l0.length : Int) > 64 then (some false) else (parterreref08_Good.l0 k l0 0)
theorem parterreref08_Good.mono_l : ∀ k, (∀ y0 y1, LeO (parterreref08_Good.l0 k y0 y1) (parterreref08_Good.l0 (k + 1) y0 y1)) ∧ (∀ y0 y1 y2, LeO (parterreref08_Good.j1 k y0 y1 y2) (parterreref08_Good.j1 (k + 1) y0 y1 y2)) ∧ (∀ y0 y1 y2, LeO (parterreref08_Good.l1 k y0 y1 y2) (parterreref08_Good.l1 (k + 1) y0 y1 y2))
 | 0 => ⟨fun _ _ r h => by simp [parterreref08_Good.l0] at h, fun _ _ _ r h => by simp [parterreref08_Good.j1] at h, fun _ _ _ r h => by simp [parterreref08_Good.l1] at h⟩
 | k + 1 => by
  obtain ⟨ih0, ih1, ih2⟩ := parterreref08_Good.mono_l k
  refine ⟨?_, ?_, ?_⟩
  ·intro y0 y1
   unfold parterreref08_Good.l0
   repeat' first
   | (with_reducible exact ih0 _ _)
   | (with_reducible exact ih1 _ _ _)
   | (with_reducible exact ih2 _ _ _)
   | (with_reducible exact parterreref08_filled.mono _ _)
   | (with_reducible exact parterreref08_name.mono _ _)
   | (with_reducible exact LeO.refl _)
   | (with_reducible exact LeO.none _)
   | (with_reducible refine LeO.ite ?_ ?_)
   | (with_reducible refine LeO.bind ?_ (fun _ => ?_))
  ·intro y0 y1 y2
   unfold parterreref08_Good.j1
   repeat' first
   | (with_reducible exact ih0 _ _)
   | (with_reducible exact ih1 _ _ _)
   | (with_reducible exact ih2 _ _ _)
   | (with_reducible exact parterreref08_filled.mono _ _)
   | (with_reducible exact parterreref08_name.mono _ _)
   | (with_reducible exact LeO.refl _)
   | (with_reducible exact LeO.none _)
   | (with_reducible refine LeO.ite ?_ ?_)
   | (with_reducible refine LeO.bind ?_ (fun _ => ?_))
  ·intro y0 y1 y2
   unfold parterreref08_Good.l1
   repeat' first
   | (with_reducible exact ih0 _ _)
   | (with_reducible exact ih1 _ _ _)
   | (with_reducible exact ih2 _ _ _)
   | (with_reducible exact parterreref08_filled.mono _ _)
   | (with_reducible exact parterreref08_name.mono _ _)
   | (with_reducible exact LeO.refl _)
   | (with_reducible exact LeO.none _)
   | (with_reducible refine LeO.ite ?_ ?_)
   | (with_reducible refine LeO.bind ?_ (fun _ => ?_))
theorem parterreref08_Good.mono : ∀ a0 k, LeO (parterreref08_Good.f k a0) (parterreref08_Good.f (k + 1) a0) := by
 intro a0 k
 obtain ⟨ih0, ih1, ih2⟩ := parterreref08_Good.mono_l k
 unfold parterreref08_Good.f
 repeat' first
   | (with_reducible exact ih0 _ _)
   | (with_reducible exact ih1 _ _ _)
   | (with_reducible exact ih2 _ _ _)
   | (with_reducible exact parterreref08_filled.mono _ _)
   | (with_reducible exact parterreref08_name.mono _ _)
   | (with_reducible exact LeO.refl _)
   | (with_reducible exact LeO.none _)
   | (with_reducible refine LeO.ite ?_ ?_)
   | (with_reducible refine LeO.bind ?_ (fun _ => ?_))
set_option maxHeartbeats 8000000 in
set_option maxRecDepth 100000 in
theorem parterreref08_Good.calls (k : Nat) (A0 : Option Addr) (c0 : Nat) (l0 : List (List ByteArray)) (r : Bool) (w : World) (hr0 : Kd.C (Kd.slice 9 Kd.string) w A0 l0.length l0) (hc0 : l0.length ≤ c0) (h : parterreref08_Good.f k l0 = some r) :
  Calls Tryz.prog 10 #[.slice A0 l0.length c0] w fun e w' => e = .returned (.bool r) ∧ Drawn0 w w' := by
 have HR0 := Aside0.mk hr0
 have HC0 := Aside0.mk hc0
 clear hr0 hc0
 have H : (if (l0.length : Int) > 64 then (some false) else (parterreref08_Good.l0 k l0 0)) = some r := h
 clear h
 by_cases c2 : (l0.length : Int) > 64
 ·rw [if_pos c2] at H
  have c2b0 : decide (64 < (l0.length : Int)) = true := decide_eq_true c2
  have c2b1 : decide (64 < l0.length) = true := decide_eq_true (by omega)
  clear c2
  obtain rfl := Option.some.inj H
  go_enter Tryz.func10, Tryz.ntmps10
  go_wp2
  repeat (go_quiet (fail); try go_wp2)
  go_ret
  exact ⟨by first | rfl | (simp; done) | (simp [*]; done), drs_⟩
 ·rw [if_neg c2] at H
  have c2b0 : decide (64 < (l0.length : Int)) = false := decide_eq_false c2
  have c2b1 : decide (64 < l0.length) = false := decide_eq_false (by omega)
  clear c2
  have H' := Aside0.mk H
  clear H
  go_enter Tryz.func10, Tryz.ntmps10
  go_wp2
  repeat (go_quiet (fail); try go_wp2)
  go_loopg [3] k (fun kq v3 w' => ∃ (x3_1 : Int), v3 = .int .i64 x3_1 ∧ Aside0 (parterreref08_Good.l0 kq l0 x3_1 = some r) ∧ Aside0 (kq ≤ k) ∧ Drawn0 w w')
  case atStart => exact ⟨(0), rfs_, H', ⟨Nat.le_refl _⟩, drs_⟩
  case round =>
   clear H'
   try clear c2b0
   try clear c2b1
   obtain ⟨x3_1, rfl, HA, HK1, ⟨m1, rfl⟩⟩ := hrel
   cases gk with
   | zero => exact absurd HA.out (by simp [parterreref08_Good.l0])
   | succ k1 =>
    have H := HA.out
    clear HA
    simp only [parterreref08_Good.l0] at H
    by_cases c3 : x3_1 < (l0.length : Int)
    ·rw [if_pos c3] at H
     have c3b0 : decide (x3_1 < (l0.length : Int)) = true := decide_eq_true c3
     clear c3
     have HC4 := Aside0.mk H
     clear H
     go_upto_region 6 with (fail)
     repeat (go_quiet (fail); go_upto_region 6 with (fail))
     go_cut [39] (fun v39 wc => ∃ (kq : Nat) (x39_3 : Bool), v39 = .bool x39_3 ∧ Aside0 (parterreref08_Good.j1 kq l0 x3_1 x39_3 = some r) ∧ Aside0 (kq ≤ k1) ∧ Drawn0 w wc)
     case first =>
      have H := HC4.out
      clear HC4
      by_cases c5 : 0 ≤ x3_1
      ·rw [if_pos c5] at H
       have c5b0 : decide (0 ≤ x3_1) = true := decide_eq_true c5
       clear c5
       (first | rw [c5b0] | (simp only [i64_w, i32_w]; rw [c5b0]) | skip)
       by_cases c6 : ((rd_L1 l0 x3_1).length : Int) < 1
       ·rw [if_pos c6] at H
        have c6b0 : decide (((rd_L1 l0 x3_1).length : Int) < 1) = true := decide_eq_true c6
        have c6b1 : decide ((rd_L1 l0 x3_1).length < 1) = true := decide_eq_true (by omega)
        clear c6
        have H' := Aside0.mk H
        clear H
        have p276 : 0 ≤ (x3_1 : Int) := of_decide_eq_true (by first | (with_reducible assumption) | assumption)
        have q276 : x3_1 < (l0.length : Int) := of_decide_eq_true (by first | (with_reducible assumption) | assumption)
        obtain ⟨ad276, A276_0, c276_0, e276, hx276_0, hl276_0, hi276_0⟩ := at_L1 HR0.out x3_1 p276 q276
        cases e276
        have HR276_0 := Aside0.mk hi276_0
        have HC276_0 := Aside0.mk hl276_0
        clear hi276_0 hl276_0
        replace p276 := eq_true p276
        replace q276 := eq_true q276
        go_wp2
        repeat (go_quiet (fail); try go_wp2)
        go_meet
        case rel => exact ⟨_, (true), rfs_, H', ⟨by have := HK1.out; first | omega | exact Nat.le_refl _⟩, drs_⟩
       ·rw [if_neg c6] at H
        have c6b0 : decide (((rd_L1 l0 x3_1).length : Int) < 1) = false := decide_eq_false c6
        have c6b1 : decide ((rd_L1 l0 x3_1).length < 1) = false := decide_eq_false (by omega)
        clear c6
        by_cases c7 : ((rd_L1 l0 x3_1).length : Int) > 64
        ·rw [if_pos c7] at H
         have c7b0 : decide (64 < ((rd_L1 l0 x3_1).length : Int)) = true := decide_eq_true c7
         have c7b1 : decide (64 < (rd_L1 l0 x3_1).length) = true := decide_eq_true (by omega)
         clear c7
         have H' := Aside0.mk H
         clear H
         have p276 : 0 ≤ (x3_1 : Int) := of_decide_eq_true (by first | (with_reducible assumption) | assumption)
         have q276 : x3_1 < (l0.length : Int) := of_decide_eq_true (by first | (with_reducible assumption) | assumption)
         obtain ⟨ad276, A276_0, c276_0, e276, hx276_0, hl276_0, hi276_0⟩ := at_L1 HR0.out x3_1 p276 q276
         cases e276
         have HR276_0 := Aside0.mk hi276_0
         have HC276_0 := Aside0.mk hl276_0
         clear hi276_0 hl276_0
         replace p276 := eq_true p276
         replace q276 := eq_true q276
         have p277 : 0 ≤ (x3_1 : Int) := of_decide_eq_true (by first | (with_reducible assumption) | assumption)
         have q277 : x3_1 < (l0.length : Int) := of_decide_eq_true (by first | (with_reducible assumption) | assumption)
         obtain ⟨ad277, A277_0, c277_0, e277, hx277_0, hl277_0, hi277_0⟩ := at_L1 HR0.out x3_1 p277 q277
         obtain rfl : ad276 = ad277 := (by injection e277)
         have HR277_0 := Aside0.mk hi277_0
         have HC277_0 := Aside0.mk hl277_0
         clear hi277_0 hl277_0
         replace p277 := eq_true p277
         replace q277 := eq_true q277
         have ea_ := Option.some.inj (hx276_0.symm.trans hx277_0)
         injection ea_ with ea_ en_ ec_
         subst ea_
         subst ec_
         clear en_
         go_wp2
         repeat (go_quiet (fail); try go_wp2)
         go_meet
         case rel => exact ⟨_, (true), rfs_, H', ⟨by have := HK1.out; first | omega | exact Nat.le_refl _⟩, drs_⟩
        ·rw [if_neg c7] at H
         have c7b0 : decide (64 < ((rd_L1 l0 x3_1).length : Int)) = false := decide_eq_false c7
         have c7b1 : decide (64 < (rd_L1 l0 x3_1).length) = false := decide_eq_false (by omega)
         clear c7
         by_cases c8 : 0 < (l0.length : Int)
         ·rw [if_pos c8] at H
          have c8b0 : decide (0 < (l0.length : Int)) = true := decide_eq_true c8
          have c8b1 : decide (0 < l0.length) = true := decide_eq_true (by omega)
          clear c8
          have H' := Aside0.mk H
          clear H
          have p276 : 0 ≤ (x3_1 : Int) := of_decide_eq_true (by first | (with_reducible assumption) | assumption)
          have q276 : x3_1 < (l0.length : Int) := of_decide_eq_true (by first | (with_reducible assumption) | assumption)
          obtain ⟨ad276, A276_0, c276_0, e276, hx276_0, hl276_0, hi276_0⟩ := at_L1 HR0.out x3_1 p276 q276
          cases e276
          have HR276_0 := Aside0.mk hi276_0
          have HC276_0 := Aside0.mk hl276_0
          clear hi276_0 hl276_0
          replace p276 := eq_true p276
          replace q276 := eq_true q276
          have p277 : 0 ≤ (x3_1 : Int) := of_decide_eq_true (by first | (with_reducible assumption) | assumption)
          have q277 : x3_1 < (l0.length : Int) := of_decide_eq_true (by first | (with_reducible assumption) | assumption)
          obtain ⟨ad277, A277_0, c277_0, e277, hx277_0, hl277_0, hi277_0⟩ := at_L1 HR0.out x3_1 p277 q277
          obtain rfl : ad276 = ad277 := (by injection e277)
          have HR277_0 := Aside0.mk hi277_0
          have HC277_0 := Aside0.mk hl277_0
          clear hi277_0 hl277_0
          replace p277 := eq_true p277
          replace q277 := eq_true q277
          have ea_ := Option.some.inj (hx276_0.symm.trans hx277_0)
          injection ea_ with ea_ en_ ec_
          subst ea_
          subst ec_
          clear en_
          have p278 : 0 ≤ (x3_1 : Int) := of_decide_eq_true (by first | (with_reducible assumption) | assumption)
          have q278 : x3_1 < (l0.length : Int) := of_decide_eq_true (by first | (with_reducible assumption) | assumption)
          obtain ⟨ad278, A278_0, c278_0, e278, hx278_0, hl278_0, hi278_0⟩ := at_L1 HR0.out x3_1 p278 q278
          obtain rfl : ad276 = ad278 := (by injection e278)
          have HR278_0 := Aside0.mk hi278_0
          have HC278_0 := Aside0.mk hl278_0
          clear hi278_0 hl278_0
          replace p278 := eq_true p278
          replace q278 := eq_true q278
          have ea_ := Option.some.inj (hx276_0.symm.trans hx278_0)
          injection ea_ with ea_ en_ ec_
          subst ea_
          subst ec_
          clear en_
          have p279 : 0 ≤ (0 : Int) := (by omega)
          have q279 : 0 < (l0.length : Int) := of_decide_eq_true (by first | (with_reducible assumption) | assumption)
          obtain ⟨ad279, A279_0, c279_0, e279, hx279_0, hl279_0, hi279_0⟩ := at_L1 HR0.out 0 p279 q279
          obtain rfl : ad276 = ad279 := (by injection e279)
          have qi279 : (0 < l0.length) = True := eq_true (by omega)
          (try rw [show ((0 : Int)).toNat = 0 from rfl] at hx279_0)
          (try rw [Addr.add_zero'] at hx279_0)
          have HR279_0 := Aside0.mk hi279_0
          have HC279_0 := Aside0.mk hl279_0
          clear hi279_0 hl279_0
          replace p279 := eq_true p279
          replace q279 := eq_true q279
          go_wp2
          repeat (go_quiet (fail); try go_wp2)
          go_meet
          case rel => exact ⟨_, ((((rd_L1 l0 x3_1).length : Int) != ((rd_L1 l0 0).length : Int))), rfs_, H', ⟨by have := HK1.out; first | omega | exact Nat.le_refl _⟩, drs_⟩
         ·rw [if_neg c8] at H
          exact absurd H (by simp)
      ·rw [if_neg c5] at H
       exact absurd H (by simp)
     case rest =>
      clear HC4
      try clear c3b0
      obtain ⟨kq, x39_3, rfl, HA, HJ3, ⟨mc3, rfl⟩⟩ := hcut
      cases kq with
      | zero => exact absurd HA.out (by simp [parterreref08_Good.j1])
      | succ kj3 =>
       have H := HA.out
       clear HA
       simp only [parterreref08_Good.j1] at H
       by_cases c9 : x39_3 = true
       ·subst c9
        rw [if_pos rfl] at H
        obtain rfl := Option.some.inj H
        go_wp2
        repeat (go_quiet (fail); try go_wp2)
        go_ret
        exact ⟨by first | rfl | (simp; done) | (simp [*]; done), drs_⟩
       ·replace c9 := Bool.eq_false_iff.mpr c9
        subst c9
        rw [if_neg (show ¬ (false = true) by decide)] at H
        have H' := Aside0.mk H
        clear H
        go_wp2
        repeat (go_quiet (fail); try go_wp2)
        go_loopg [4] kj3 (fun kq v4 w' => ∃ (x4_3 : Int), v4 = .int .i64 x4_3 ∧ Aside0 (parterreref08_Good.l1 kq l0 x3_1 x4_3 = some r) ∧ Aside0 (kq ≤ kj3) ∧ Drawn0 w w')
        case atStart => exact ⟨(0), rfs_, H', ⟨Nat.le_refl _⟩, drs_⟩
        case round =>
         clear H'
         try clear c9
         obtain ⟨x4_3, rfl, HA, HK3, ⟨m3, rfl⟩⟩ := hrel
         cases gk with
         | zero => exact absurd HA.out (by simp [parterreref08_Good.l1])
         | succ k3 =>
          have H := HA.out
          clear HA
          simp only [parterreref08_Good.l1] at H
          by_cases c10 : 0 ≤ x3_1
          ·rw [if_pos c10] at H
           have c10b0 : decide (0 ≤ x3_1) = true := decide_eq_true c10
           clear c10
           by_cases c11 : x3_1 < (l0.length : Int)
           ·rw [if_pos c11] at H
            have c11b0 : decide (x3_1 < (l0.length : Int)) = true := decide_eq_true c11
            clear c11
            by_cases c12 : x4_3 < ((rd_L1 l0 x3_1).length : Int)
            ·rw [if_pos c12] at H
             have c12b0 : decide (x4_3 < ((rd_L1 l0 x3_1).length : Int)) = true := decide_eq_true c12
             clear c12
             by_cases c13 : 0 ≤ x4_3
             ·rw [if_pos c13] at H
              have c13b0 : decide (0 ≤ x4_3) = true := decide_eq_true c13
              clear c13
              replace H := Option.bind_eq_some_iff.mp H
              obtain ⟨t283, A140, H⟩ := H
              try dsimp only at H
              have A14 := Aside0.mk A140
              clear A140
              by_cases c15 : t283 = true
              ·subst c15
               rw [if_pos rfl] at H
               have H' := Aside0.mk H
               clear H
               have p280 : 0 ≤ (x3_1 : Int) := of_decide_eq_true (by first | (with_reducible assumption) | assumption)
               have q280 : x3_1 < (l0.length : Int) := of_decide_eq_true (by first | (with_reducible assumption) | assumption)
               obtain ⟨ad280, A280_0, c280_0, e280, hx280_0, hl280_0, hi280_0⟩ := at_L1 HR0.out x3_1 p280 q280
               cases e280
               have HR280_0 := Aside0.mk hi280_0
               have HC280_0 := Aside0.mk hl280_0
               clear hi280_0 hl280_0
               replace p280 := eq_true p280
               replace q280 := eq_true q280
               have p281 : 0 ≤ (x3_1 : Int) := of_decide_eq_true (by first | (with_reducible assumption) | assumption)
               have q281 : x3_1 < (l0.length : Int) := of_decide_eq_true (by first | (with_reducible assumption) | assumption)
               obtain ⟨ad281, A281_0, c281_0, e281, hx281_0, hl281_0, hi281_0⟩ := at_L1 HR0.out x3_1 p281 q281
               obtain rfl : ad280 = ad281 := (by injection e281)
               have HR281_0 := Aside0.mk hi281_0
               have HC281_0 := Aside0.mk hl281_0
               clear hi281_0 hl281_0
               replace p281 := eq_true p281
               replace q281 := eq_true q281
               have ea_ := Option.some.inj (hx280_0.symm.trans hx281_0)
               injection ea_ with ea_ en_ ec_
               subst ea_
               subst ec_
               clear en_
               have p282 : 0 ≤ (x4_3 : Int) := of_decide_eq_true (by first | (with_reducible assumption) | assumption)
               have q282 : x4_3 < ((rd_L1 l0 x3_1).length : Int) := of_decide_eq_true (by first | (with_reducible assumption) | assumption)
               obtain ⟨ad282, e282, hx282_0⟩ := Kd.at_string HR281_0.out x4_3 p282 q282
               cases e282
               replace p282 := eq_true p282
               replace q282 := eq_true q282
               go_wp2_with (first | (go_at_call 28; (with_reducible refine (parterreref08_name.calls k3 (rdOf ByteArray.empty (rd_L1 l0 x3_1) x4_3) true _ A14.out).mono ?_); rintro e w' ⟨rfl, ⟨nd, rfl⟩⟩; (try first | exact ⟨rfl, _, World.drewN_drewN _ _ _⟩ | exact ⟨rfl, _, Eq.trans (World.drewN_drewN _ _ _) (congrArg (World.drewN _) (Nat.add_assoc _ _ _))⟩)))
               repeat (go_quiet (first | (go_at_call 28; (with_reducible refine (parterreref08_name.calls k3 (rdOf ByteArray.empty (rd_L1 l0 x3_1) x4_3) true _ A14.out).mono ?_); rintro e w' ⟨rfl, ⟨nd, rfl⟩⟩; (try first | exact ⟨rfl, _, World.drewN_drewN _ _ _⟩ | exact ⟨rfl, _, Eq.trans (World.drewN_drewN _ _ _) (congrArg (World.drewN _) (Nat.add_assoc _ _ _))⟩))); try go_wp2_with (first | (go_at_call 28; (with_reducible refine (parterreref08_name.calls k3 (rdOf ByteArray.empty (rd_L1 l0 x3_1) x4_3) true _ A14.out).mono ?_); rintro e w' ⟨rfl, ⟨nd, rfl⟩⟩; (try first | exact ⟨rfl, _, World.drewN_drewN _ _ _⟩ | exact ⟨rfl, _, Eq.trans (World.drewN_drewN _ _ _) (congrArg (World.drewN _) (Nat.add_assoc _ _ _))⟩))))
               go_roundg k3
               case measure => have := HK1.out; have := HJ3.out; have := HK3.out; omega
               case rel => exact ⟨(wrap64 (x4_3 + 1)), rfs_, H', ⟨by have := HK1.out; have := HJ3.out; have := HK3.out; omega⟩, drs_⟩
              ·replace c15 := Bool.eq_false_iff.mpr c15
               subst c15
               rw [if_neg (show ¬ (false = true) by decide)] at H
               obtain rfl := Option.some.inj H
               have p280 : 0 ≤ (x3_1 : Int) := of_decide_eq_true (by first | (with_reducible assumption) | assumption)
               have q280 : x3_1 < (l0.length : Int) := of_decide_eq_true (by first | (with_reducible assumption) | assumption)
               obtain ⟨ad280, A280_0, c280_0, e280, hx280_0, hl280_0, hi280_0⟩ := at_L1 HR0.out x3_1 p280 q280
               cases e280
               have HR280_0 := Aside0.mk hi280_0
               have HC280_0 := Aside0.mk hl280_0
               clear hi280_0 hl280_0
               replace p280 := eq_true p280
               replace q280 := eq_true q280
               have p281 : 0 ≤ (x3_1 : Int) := of_decide_eq_true (by first | (with_reducible assumption) | assumption)
               have q281 : x3_1 < (l0.length : Int) := of_decide_eq_true (by first | (with_reducible assumption) | assumption)
               obtain ⟨ad281, A281_0, c281_0, e281, hx281_0, hl281_0, hi281_0⟩ := at_L1 HR0.out x3_1 p281 q281
               obtain rfl : ad280 = ad281 := (by injection e281)
               have HR281_0 := Aside0.mk hi281_0
               have HC281_0 := Aside0.mk hl281_0
               clear hi281_0 hl281_0
               replace p281 := eq_true p281
               replace q281 := eq_true q281
               have ea_ := Option.some.inj (hx280_0.symm.trans hx281_0)
               injection ea_ with ea_ en_ ec_
               subst ea_
               subst ec_
               clear en_
               have p282 : 0 ≤ (x4_3 : Int) := of_decide_eq_true (by first | (with_reducible assumption) | assumption)
               have q282 : x4_3 < ((rd_L1 l0 x3_1).length : Int) := of_decide_eq_true (by first | (with_reducible assumption) | assumption)
               obtain ⟨ad282, e282, hx282_0⟩ := Kd.at_string HR281_0.out x4_3 p282 q282
               cases e282
               replace p282 := eq_true p282
               replace q282 := eq_true q282
               go_wp2_with (first | (go_at_call 28; (with_reducible refine (parterreref08_name.calls k3 (rdOf ByteArray.empty (rd_L1 l0 x3_1) x4_3) false _ A14.out).mono ?_); rintro e w' ⟨rfl, ⟨nd, rfl⟩⟩; (try first | exact ⟨rfl, _, World.drewN_drewN _ _ _⟩ | exact ⟨rfl, _, Eq.trans (World.drewN_drewN _ _ _) (congrArg (World.drewN _) (Nat.add_assoc _ _ _))⟩)))
               repeat (go_quiet (first | (go_at_call 28; (with_reducible refine (parterreref08_name.calls k3 (rdOf ByteArray.empty (rd_L1 l0 x3_1) x4_3) false _ A14.out).mono ?_); rintro e w' ⟨rfl, ⟨nd, rfl⟩⟩; (try first | exact ⟨rfl, _, World.drewN_drewN _ _ _⟩ | exact ⟨rfl, _, Eq.trans (World.drewN_drewN _ _ _) (congrArg (World.drewN _) (Nat.add_assoc _ _ _))⟩))); try go_wp2_with (first | (go_at_call 28; (with_reducible refine (parterreref08_name.calls k3 (rdOf ByteArray.empty (rd_L1 l0 x3_1) x4_3) false _ A14.out).mono ?_); rintro e w' ⟨rfl, ⟨nd, rfl⟩⟩; (try first | exact ⟨rfl, _, World.drewN_drewN _ _ _⟩ | exact ⟨rfl, _, Eq.trans (World.drewN_drewN _ _ _) (congrArg (World.drewN _) (Nat.add_assoc _ _ _))⟩))))
               go_ret
               exact ⟨by first | rfl | (simp; done) | (simp [*]; done), drs_⟩
             ·rw [if_neg c13] at H
              exact absurd H (by simp)
            ·rw [if_neg c12] at H
             have c12b0 : decide (x4_3 < ((rd_L1 l0 x3_1).length : Int)) = false := decide_eq_false c12
             clear c12
             have H' := Aside0.mk H
             clear H
             have p280 : 0 ≤ (x3_1 : Int) := of_decide_eq_true (by first | (with_reducible assumption) | assumption)
             have q280 : x3_1 < (l0.length : Int) := of_decide_eq_true (by first | (with_reducible assumption) | assumption)
             obtain ⟨ad280, A280_0, c280_0, e280, hx280_0, hl280_0, hi280_0⟩ := at_L1 HR0.out x3_1 p280 q280
             cases e280
             have HR280_0 := Aside0.mk hi280_0
             have HC280_0 := Aside0.mk hl280_0
             clear hi280_0 hl280_0
             replace p280 := eq_true p280
             replace q280 := eq_true q280
             go_wp2
             repeat (go_quiet (fail); try go_wp2)
             go_roundg k3
             case measure => have := HK1.out; have := HJ3.out; have := HK3.out; omega
             case rel => exact ⟨(wrap64 (x3_1 + 1)), rfs_, H', ⟨by have := HK1.out; have := HJ3.out; have := HK3.out; omega⟩, drs_⟩
           ·rw [if_neg c11] at H
            exact absurd H (by simp)
          ·rw [if_neg c10] at H
           exact absurd H (by simp)
    ·rw [if_neg c3] at H
     have c3b0 : decide (x3_1 < (l0.length : Int)) = false := decide_eq_false c3
     clear c3
     replace H := Option.bind_eq_some_iff.mp H
     obtain ⟨t275, A160, H⟩ := H
     try dsimp only at H
     have A16 := Aside0.mk A160
     clear A160
     obtain rfl := Option.some.inj H
     go_wp2_with (first | (go_at_call 29; (with_reducible refine (parterreref08_filled.calls k1 _ _ l0 t275 _ ?side1 ?side2 A16.out).mono ?_); (case side1 => repeat (first | exact HR0.out | (with_reducible refine Kd.C_alloc ?_ _) | (with_reducible refine Kd.C_drewN ?_ _) | (with_reducible refine Kd.C_drew ?_))); (case side2 => exact HC0.out); rintro e w' ⟨rfl, ⟨nd, rfl⟩⟩; (try first | exact ⟨rfl, _, World.drewN_drewN _ _ _⟩ | exact ⟨rfl, _, Eq.trans (World.drewN_drewN _ _ _) (congrArg (World.drewN _) (Nat.add_assoc _ _ _))⟩)))
     repeat (go_quiet (first | (go_at_call 29; (with_reducible refine (parterreref08_filled.calls k1 _ _ l0 t275 _ ?side1 ?side2 A16.out).mono ?_); (case side1 => repeat (first | exact HR0.out | (with_reducible refine Kd.C_alloc ?_ _) | (with_reducible refine Kd.C_drewN ?_ _) | (with_reducible refine Kd.C_drew ?_))); (case side2 => exact HC0.out); rintro e w' ⟨rfl, ⟨nd, rfl⟩⟩; (try first | exact ⟨rfl, _, World.drewN_drewN _ _ _⟩ | exact ⟨rfl, _, Eq.trans (World.drewN_drewN _ _ _) (congrArg (World.drewN _) (Nat.add_assoc _ _ _))⟩))); try go_wp2_with (first | (go_at_call 29; (with_reducible refine (parterreref08_filled.calls k1 _ _ l0 t275 _ ?side1 ?side2 A16.out).mono ?_); (case side1 => repeat (first | exact HR0.out | (with_reducible refine Kd.C_alloc ?_ _) | (with_reducible refine Kd.C_drewN ?_ _) | (with_reducible refine Kd.C_drew ?_))); (case side2 => exact HC0.out); rintro e w' ⟨rfl, ⟨nd, rfl⟩⟩; (try first | exact ⟨rfl, _, World.drewN_drewN _ _ _⟩ | exact ⟨rfl, _, Eq.trans (World.drewN_drewN _ _ _) (congrArg (World.drewN _) (Nat.add_assoc _ _ _))⟩))))
     go_ret
     exact ⟨by first | rfl | (simp; done) | (simp [*]; done), drs_⟩

end Go.Proofs.YtofdhdafabmhmaaGreatDoor.PAr
end
section
namespace Go.Proofs.YtofdhdafabmhmaaGreatDoor.PAr
open Go.RowKit Go.Proofs.YtofdhdafabmhmaaGreatDoorW.PrintWords Go.Proofs.YtofdhdafabmhmaaGreatDoorW.PrintLast Go.Proofs.YtofdhdafabmhmaaGreatDoorW.PrintMore
attribute [local go_sem] max2_int min2_int max_two min_two max_three min_three max_four min_four
open Go.Proofs.YtofdhdafabmhmaaGreatDoor.Opn Go.Proofs.YtofdhdafabmhmaaGreatDoor.Giv

/-! ### parterreref08_Rects: function 8 -/
mutual
def parterreref08_Rects.l0 : Nat → List (List ByteArray) → List (S28) → Int → Option ((List (S28)))
 | 0, _, _, _ => none
 | k + 1, x0, x3, x4 => if x4 < (x0.length : Int) then (parterreref08_Rects.l1 k x0 x3 x4 0) else (some x3)
def parterreref08_Rects.l1 : Nat → List (List ByteArray) → List (S28) → Int → Int → Option ((List (S28)))
 | 0, _, _, _, _ => none
 | k + 1, x0, x3, x4, x5 => if 0 ≤ x4 then (if x4 < (x0.length : Int) then (if x5 < ((rd_L1 x0 x4).length : Int) then (if 0 ≤ x5 then (if (rdOf ByteArray.empty (rd_L1 x0 x4) x5).toList = ([] : List UInt8) then (parterreref08_Rects.j2 k x0 x3 x4 x5 true) else ((parterreref08_first.f k x0 x4 x5).bind fun t288 => (parterreref08_Rects.j2 k x0 x3 x4 x5 (!t288)))) else (none)) else (parterreref08_Rects.l0 k x0 x3 (wrap64 (x4 + 1)))) else (none)) else (none)
def parterreref08_Rects.j2 : Nat → List (List ByteArray) → List (S28) → Int → Int → Bool → Option ((List (S28)))
 | 0, _, _, _, _, _ => none
 | k + 1, x0, x3, x4, x5, x39 => if x39 = true then (parterreref08_Rects.l1 k x0 x3 x4 (wrap64 (x5 + 1))) else (if 0 ≤ x4 then (if x4 < (x0.length : Int) then (if 0 ≤ x5 then (if x5 < ((rd_L1 x0 x4).length : Int) then (parterreref08_Rects.l2 k x0 x3 x4 x5 (rdOf ByteArray.empty (rd_L1 x0 x4) x5) x4 x5 0 0) else (none)) else (none)) else (none)) else (none))
def parterreref08_Rects.j4 : Nat → List (List ByteArray) → List (S28) → Int → Int → ByteArray → Int → Int → Int → Int → Option ((List (S28)))
 | 0, _, _, _, _, _, _, _, _, _ => none
 | k + 1, x0, x3, x4, x5, x292000, x292001, x292002, x292003, x292004 => parterreref08_Rects.l3 k x0 x3 x4 x5 x292000 x292001 x292002 x292003 x292004
def parterreref08_Rects.l3 : Nat → List (List ByteArray) → List (S28) → Int → Int → ByteArray → Int → Int → Int → Int → Option ((List (S28)))
 | 0, _, _, _, _, _, _, _, _, _ => none
 | k + 1, x0, x3, x4, x5, x292000, x292001, x292002, x292003, x292004 => if (wrap64 (x4 + x292003)) < (x0.length : Int) then (if 0 ≤ (wrap64 (x4 + x292003)) then (if 0 ≤ x5 then (if x5 < ((rd_L1 x0 (wrap64 (x4 + x292003))).length : Int) then (if (rdOf ByteArray.empty (rd_L1 x0 (wrap64 (x4 + x292003))) x5).toList = x292000.toList then (parterreref08_Rects.l3 k x0 x3 x4 x5 x292000 x292001 x292002 (wrap64 (x292003 + 1)) x292004) else (if x3.length < 2932031007402 then (parterreref08_Rects.l1 k x0 (x3 ++ [(⟨x292000, x292001, x292002, x292003, x292004⟩ : S28)]) x4 (wrap64 (x5 + 1))) else (none))) else (none)) else (none)) else (none)) else (if x3.length < 2932031007402 then (parterreref08_Rects.l1 k x0 (x3 ++ [(⟨x292000, x292001, x292002, x292003, x292004⟩ : S28)]) x4 (wrap64 (x5 + 1))) else (none))
def parterreref08_Rects.l2 : Nat → List (List ByteArray) → List (S28) → Int → Int → ByteArray → Int → Int → Int → Int → Option ((List (S28)))
 | 0, _, _, _, _, _, _, _, _, _ => none
 | k + 1, x0, x3, x4, x5, x292000, x292001, x292002, x292003, x292004 => if 0 ≤ x4 then (if x4 < (x0.length : Int) then (if (wrap64 (x5 + x292004)) < ((rd_L1 x0 x4).length : Int) then (if 0 ≤ (wrap64 (x5 + x292004)) then (if (rdOf ByteArray.empty (rd_L1 x0 x4) (wrap64 (x5 + x292004))).toList = x292000.toList then (parterreref08_Rects.l2 k x0 x3 x4 x5 x292000 x292001 x292002 x292003 (wrap64 (x292004 + 1))) else (parterreref08_Rects.j4 k x0 x3 x4 x5 x292000 x292001 x292002 x292003 x292004)) else (none)) else (parterreref08_Rects.j4 k x0 x3 x4 x5 x292000 x292001 x292002 x292003 x292004)) else (none)) else (none)
end
def parterreref08_Rects.f (k : Nat) (l0 : List (List ByteArray)) : Option ((List (S28))) := (parterreref08_Good.f k l0).bind fun t284 => (if t284 = true then (parterreref08_Rects.l0 k l0 ([] : List (S28)) 0) else (some ([] : List (S28))))
theorem parterreref08_Rects.mono_l : ∀ k, (∀ y0 y1 y2, LeO (parterreref08_Rects.l0 k y0 y1 y2) (parterreref08_Rects.l0 (k + 1) y0 y1 y2)) ∧ (∀ y0 y1 y2 y3, LeO (parterreref08_Rects.l1 k y0 y1 y2 y3) (parterreref08_Rects.l1 (k + 1) y0 y1 y2 y3)) ∧ (∀ y0 y1 y2 y3 y4, LeO (parterreref08_Rects.j2 k y0 y1 y2 y3 y4) (parterreref08_Rects.j2 (k + 1) y0 y1 y2 y3 y4)) ∧ (∀ y0 y1 y2 y3 y4 y5 y6 y7 y8, LeO (parterreref08_Rects.j4 k y0 y1 y2 y3 y4 y5 y6 y7 y8) (parterreref08_Rects.j4 (k + 1) y0 y1 y2 y3 y4 y5 y6 y7 y8)) ∧ (∀ y0 y1 y2 y3 y4 y5 y6 y7 y8, LeO (parterreref08_Rects.l3 k y0 y1 y2 y3 y4 y5 y6 y7 y8) (parterreref08_Rects.l3 (k + 1) y0 y1 y2 y3 y4 y5 y6 y7 y8)) ∧ (∀ y0 y1 y2 y3 y4 y5 y6 y7 y8, LeO (parterreref08_Rects.l2 k y0 y1 y2 y3 y4 y5 y6 y7 y8) (parterreref08_Rects.l2 (k + 1) y0 y1 y2 y3 y4 y5 y6 y7 y8))
 | 0 => ⟨fun _ _ _ r h => by simp [parterreref08_Rects.l0] at h, fun _ _ _ _ r h => by simp [parterreref08_Rects.l1] at h, fun _ _ _ _ _ r h => by simp [parterreref08_Rects.j2] at h, fun _ _ _ _ _ _ _ _ _ r h => by simp [parterreref08_Rects.j4] at h, fun _ _ _ _ _ _ _ _ _ r h => by simp [parterreref08_Rects.l3] at h, fun _ _ _ _ _ _ _ _ _ r h => by simp [parterreref08_Rects.l2] at h⟩
 | k + 1 => by
  obtain ⟨ih0, ih1, ih2, ih3, ih4, ih5⟩ := parterreref08_Rects.mono_l k
  refine ⟨?_, ?_, ?_, ?_, ?_, ?_⟩
  ·intro y0 y1 y2
   unfold parterreref08_Rects.l0
   repeat' first
   | (with_reducible exact ih0 _ _ _)
   | (with_reducible exact ih1 _ _ _ _)
   | (with_reducible exact ih2 _ _ _ _ _)
   | (with_reducible exact ih3 _ _ _ _ _ _ _ _ _)
   | (with_reducible exact ih4 _ _ _ _ _ _ _ _ _)
   | (with_reducible exact ih5 _ _ _ _ _ _ _ _ _)
   | (with_reducible exact parterreref08_Good.mono _ _)
   | (with_reducible exact parterreref08_first.mono _ _ _ _)
   | (with_reducible exact LeO.refl _)
   | (with_reducible exact LeO.none _)
   | (with_reducible refine LeO.ite ?_ ?_)
   | (with_reducible refine LeO.bind ?_ (fun _ => ?_))
  ·intro y0 y1 y2 y3
   unfold parterreref08_Rects.l1
   repeat' first
   | (with_reducible exact ih0 _ _ _)
   | (with_reducible exact ih1 _ _ _ _)
   | (with_reducible exact ih2 _ _ _ _ _)
   | (with_reducible exact ih3 _ _ _ _ _ _ _ _ _)
   | (with_reducible exact ih4 _ _ _ _ _ _ _ _ _)
   | (with_reducible exact ih5 _ _ _ _ _ _ _ _ _)
   | (with_reducible exact parterreref08_Good.mono _ _)
   | (with_reducible exact parterreref08_first.mono _ _ _ _)
   | (with_reducible exact LeO.refl _)
   | (with_reducible exact LeO.none _)
   | (with_reducible refine LeO.ite ?_ ?_)
   | (with_reducible refine LeO.bind ?_ (fun _ => ?_))
  ·intro y0 y1 y2 y3 y4
   unfold parterreref08_Rects.j2
   repeat' first
   | (with_reducible exact ih0 _ _ _)
   | (with_reducible exact ih1 _ _ _ _)
   | (with_reducible exact ih2 _ _ _ _ _)
   | (with_reducible exact ih3 _ _ _ _ _ _ _ _ _)
   | (with_reducible exact ih4 _ _ _ _ _ _ _ _ _)
   | (with_reducible exact ih5 _ _ _ _ _ _ _ _ _)
   | (with_reducible exact parterreref08_Good.mono _ _)
   | (with_reducible exact parterreref08_first.mono _ _ _ _)
   | (with_reducible exact LeO.refl _)
   | (with_reducible exact LeO.none _)
   | (with_reducible refine LeO.ite ?_ ?_)
   | (with_reducible refine LeO.bind ?_ (fun _ => ?_))
  ·intro y0 y1 y2 y3 y4 y5 y6 y7 y8
   unfold parterreref08_Rects.j4
   repeat' first
   | (with_reducible exact ih0 _ _ _)
   | (with_reducible exact ih1 _ _ _ _)
   | (with_reducible exact ih2 _ _ _ _ _)
   | (with_reducible exact ih3 _ _ _ _ _ _ _ _ _)
   | (with_reducible exact ih4 _ _ _ _ _ _ _ _ _)
   | (with_reducible exact ih5 _ _ _ _ _ _ _ _ _)
   | (with_reducible exact parterreref08_Good.mono _ _)
   | (with_reducible exact parterreref08_first.mono _ _ _ _)
   | (with_reducible exact LeO.refl _)
   | (with_reducible exact LeO.none _)
   | (with_reducible refine LeO.ite ?_ ?_)
   | (with_reducible refine LeO.bind ?_ (fun _ => ?_))
  ·intro y0 y1 y2 y3 y4 y5 y6 y7 y8
   unfold parterreref08_Rects.l3
   repeat' first
   | (with_reducible exact ih0 _ _ _)
   | (with_reducible exact ih1 _ _ _ _)
   | (with_reducible exact ih2 _ _ _ _ _)
   | (with_reducible exact ih3 _ _ _ _ _ _ _ _ _)
   | (with_reducible exact ih4 _ _ _ _ _ _ _ _ _)
   | (with_reducible exact ih5 _ _ _ _ _ _ _ _ _)
   | (with_reducible exact parterreref08_Good.mono _ _)
   | (with_reducible exact parterreref08_first.mono _ _ _ _)
   | (with_reducible exact LeO.refl _)
   | (with_reducible exact LeO.none _)
   | (with_reducible refine LeO.ite ?_ ?_)
   | (with_reducible refine LeO.bind ?_ (fun _ => ?_))
  ·intro y0 y1 y2 y3 y4 y5 y6 y7 y8
   unfold parterreref08_Rects.l2
   repeat' first
   | (with_reducible exact ih0 _ _ _)
   | (with_reducible exact ih1 _ _ _ _)
   | (with_reducible exact ih2 _ _ _ _ _)
   | (with_reducible exact ih3 _ _ _ _ _ _ _ _ _)
   | (with_reducible exact ih4 _ _ _ _ _ _ _ _ _)
   | (with_reducible exact ih5 _ _ _ _ _ _ _ _ _)
   | (with_reducible exact parterreref08_Good.mono _ _)
   | (with_reducible exact parterreref08_first.mono _ _ _ _)
   | (with_reducible exact LeO.refl _)
   | (with_reducible exact LeO.none _)
   | (with_reducible refine LeO.ite ?_ ?_)
   | (with_reducible refine LeO.bind ?_ (fun _ => ?_))
theorem parterreref08_Rects.mono : ∀ a0 k, LeO (parterreref08_Rects.f k a0) (parterreref08_Rects.f (k + 1) a0) := by
 intro a0 k
 obtain ⟨ih0, ih1, ih2, ih3, ih4, ih5⟩ := parterreref08_Rects.mono_l k
 unfold parterreref08_Rects.f
 repeat' first
   | (with_reducible exact ih0 _ _ _)
   | (with_reducible exact ih1 _ _ _ _)
   | (with_reducible exact ih2 _ _ _ _ _)
   | (with_reducible exact ih3 _ _ _ _ _ _ _ _ _)
   | (with_reducible exact ih4 _ _ _ _ _ _ _ _ _)
   | (with_reducible exact ih5 _ _ _ _ _ _ _ _ _)
   | (with_reducible exact parterreref08_Good.mono _ _)
   | (with_reducible exact parterreref08_first.mono _ _ _ _)
   | (with_reducible exact LeO.refl _)
   | (with_reducible exact LeO.none _)
   | (with_reducible refine LeO.ite ?_ ?_)
   | (with_reducible refine LeO.bind ?_ (fun _ => ?_))
set_option maxHeartbeats 8000000 in
set_option maxRecDepth 100000 in
theorem parterreref08_Rects.calls (k : Nat) (A0 : Option Addr) (c0 : Nat) (l0 : List (List ByteArray)) (r : List (S28)) (w : World) (hr0 : Kd.C (Kd.slice 9 Kd.string) w A0 l0.length l0) (hc0 : l0.length ≤ c0) (h : parterreref08_Rects.f k l0 = some r) :
  Calls Tryz.prog 8 #[.slice A0 l0.length c0] w fun e w' => ∃ v0_ : Value, e = .returned (v0_) ∧ Kd.R k28 28 w' w.heap.size (fun _ => True) v0_ r ∧ Below w.heap.size w w' := by
 have hu28 := Tryz.underlying28
 have HR0 := Aside0.mk hr0
 have HC0 := Aside0.mk hc0
 clear hr0 hc0
 have HB := Aside0.mk (Below.refl w.heap.size w)
 have H : ((parterreref08_Good.f k l0).bind fun t284 => (if t284 = true then (parterreref08_Rects.l0 k l0 ([] : List (S28)) 0) else (some ([] : List (S28))))) = some r := h
 clear h
 replace H := Option.bind_eq_some_iff.mp H
 obtain ⟨t284, A20, H⟩ := H
 try dsimp only at H
 have A2 := Aside0.mk A20
 clear A20
 by_cases c3 : t284 = true
 ·subst c3
  rw [if_pos rfl] at H
  have H' := Aside0.mk H
  clear H
  go_enter Tryz.func8, Tryz.ntmps8
  go_wp2_with (first | (go_at_call 10; (with_reducible refine (parterreref08_Good.calls k _ _ l0 true _ ?side1 ?side2 A2.out).mono ?_); (case side1 => repeat (first | exact HR0.out | (with_reducible refine Kd.C_alloc ?_ _) | (with_reducible refine Kd.C_drewN ?_ _) | (with_reducible refine Kd.C_drew ?_))); (case side2 => exact HC0.out); rintro e w' ⟨rfl, ⟨nd, rfl⟩⟩; (try first | exact ⟨rfl, _, World.drewN_drewN _ _ _⟩ | exact ⟨rfl, _, Eq.trans (World.drewN_drewN _ _ _) (congrArg (World.drewN _) (Nat.add_assoc _ _ _))⟩)))
  repeat (go_quiet (first | (go_at_call 10; (with_reducible refine (parterreref08_Good.calls k _ _ l0 true _ ?side1 ?side2 A2.out).mono ?_); (case side1 => repeat (first | exact HR0.out | (with_reducible refine Kd.C_alloc ?_ _) | (with_reducible refine Kd.C_drewN ?_ _) | (with_reducible refine Kd.C_drew ?_))); (case side2 => exact HC0.out); rintro e w' ⟨rfl, ⟨nd, rfl⟩⟩; (try first | exact ⟨rfl, _, World.drewN_drewN _ _ _⟩ | exact ⟨rfl, _, Eq.trans (World.drewN_drewN _ _ _) (congrArg (World.drewN _) (Nat.add_assoc _ _ _))⟩))); try go_wp2_with (first | (go_at_call 10; (with_reducible refine (parterreref08_Good.calls k _ _ l0 true _ ?side1 ?side2 A2.out).mono ?_); (case side1 => repeat (first | exact HR0.out | (with_reducible refine Kd.C_alloc ?_ _) | (with_reducible refine Kd.C_drewN ?_ _) | (with_reducible refine Kd.C_drew ?_))); (case side2 => exact HC0.out); rintro e w' ⟨rfl, ⟨nd, rfl⟩⟩; (try first | exact ⟨rfl, _, World.drewN_drewN _ _ _⟩ | exact ⟨rfl, _, Eq.trans (World.drewN_drewN _ _ _) (congrArg (World.drewN _) (Nat.add_assoc _ _ _))⟩))))
  go_loopg [3, 4] k (fun kq v3 v4 w' => ∃ (x3_1 : List (S28)) (x4_1 : Int), v4 = .int .i64 x4_1 ∧ Aside0 (parterreref08_Rects.l0 kq l0 x3_1 x4_1 = some r) ∧ Aside0 (kq ≤ k) ∧ Aside0 (Kd.R k28 28 w' w.heap.size (fun _ => True) v3 x3_1) ∧ Aside0 (Below w.heap.size w w'))
  case atStart => exact ⟨(([] : List (S28))), (0), rfs_, H', ⟨Nat.le_refl _⟩, ⟨by first | exact Kd.R_nil _ _ _ _ _ | exact Kd.N_nil _ _ _ _ _ | exact Kd.V_nil _ _ _ _ _ | exact Kd.Q_nil _ _ _ _ _ | exact Kd.S_nil _ _ _ _ _⟩, ⟨bel_⟩⟩
  case round =>
   clear H'
   try clear c3
   obtain ⟨x3_1, x4_1, rfl, HA, HK1, HO_3, HB⟩ := hrel
   cases gk with
   | zero => exact absurd HA.out (by simp [parterreref08_Rects.l0])
   | succ k1 =>
    have H := HA.out
    clear HA
    simp only [parterreref08_Rects.l0] at H
    by_cases c4 : x4_1 < (l0.length : Int)
    ·rw [if_pos c4] at H
     have c4b0 : decide (x4_1 < (l0.length : Int)) = true := decide_eq_true c4
     clear c4
     have H' := Aside0.mk H
     clear H
     go_wp2
     repeat (go_quiet (fail); try go_wp2)
     go_loopg [3, 5] k1 (fun kq v3 v5 w' => ∃ (x3_2 : List (S28)) (x5_2 : Int), v5 = .int .i64 x5_2 ∧ Aside0 (parterreref08_Rects.l1 kq l0 x3_2 x4_1 x5_2 = some r) ∧ Aside0 (kq ≤ k1) ∧ Aside0 (Kd.R k28 28 w' w.heap.size (fun _ => True) v3 x3_2) ∧ Aside0 (Below w.heap.size w w'))
     case atStart => exact ⟨(x3_1), (0), rfs_, H', ⟨Nat.le_refl _⟩, ⟨by (with_reducible repeat (first | apply Kd.R_alloc | apply Kd.R_drewN | apply Kd.R_drew)); exact HO_3.out⟩, ⟨bel_⟩⟩
     case round =>
      clear H'
      try clear c4b0
      obtain ⟨x3_2, x5_2, rfl, HA, HK2, HO_3, HB⟩ := hrel
      cases gk with
      | zero => exact absurd HA.out (by simp [parterreref08_Rects.l1])
      | succ k2 =>
       have H := HA.out
       clear HA
       simp only [parterreref08_Rects.l1] at H
       by_cases c5 : 0 ≤ x4_1
       ·rw [if_pos c5] at H
        have c5b0 : decide (0 ≤ x4_1) = true := decide_eq_true c5
        clear c5
        by_cases c6 : x4_1 < (l0.length : Int)
        ·rw [if_pos c6] at H
         have c6b0 : decide (x4_1 < (l0.length : Int)) = true := decide_eq_true c6
         clear c6
         by_cases c7 : x5_2 < ((rd_L1 l0 x4_1).length : Int)
         ·rw [if_pos c7] at H
          have c7b0 : decide (x5_2 < ((rd_L1 l0 x4_1).length : Int)) = true := decide_eq_true c7
          clear c7
          have HC8 := Aside0.mk H
          clear H
          have p285 : 0 ≤ (x4_1 : Int) := of_decide_eq_true (by first | (with_reducible assumption) | assumption)
          have q285 : x4_1 < (l0.length : Int) := of_decide_eq_true (by first | (with_reducible assumption) | assumption)
          obtain ⟨ad285, A285_0, c285_0, e285, hx285_0, hl285_0, hi285_0⟩ := at_L1 HR0.out x4_1 p285 q285
          cases e285
          replace hx285_0 := (HB.out.cell (World.block_lt_of_cell? w _ hx285_0)).trans hx285_0
          have HR285_0 := Aside0.mk hi285_0
          have HC285_0 := Aside0.mk hl285_0
          clear hi285_0 hl285_0
          replace p285 := eq_true p285
          replace q285 := eq_true q285
          go_upto_region 10 with (fail)
          repeat (go_quiet (fail); go_upto_region 10 with (fail))
          go_cut [39] (fun v39 wc => ∃ (kq : Nat) (x39_7 : Bool), v39 = .bool x39_7 ∧ Aside0 (parterreref08_Rects.j2 kq l0 x3_2 x4_1 x5_2 x39_7 = some r) ∧ Aside0 (kq ≤ k2) ∧ Aside0 (Kd.R k28 28 wc w.heap.size (fun _ => True) u3 x3_2) ∧ Aside0 (Below w.heap.size w wc))
          case first =>
           have H := HC8.out
           clear HC8
           by_cases c9 : 0 ≤ x5_2
           ·rw [if_pos c9] at H
            have c9b0 : decide (0 ≤ x5_2) = true := decide_eq_true c9
            clear c9
            (first | rw [c9b0] | (simp only [i64_w, i32_w]; rw [c9b0]) | skip)
            by_cases c10 : (rdOf ByteArray.empty (rd_L1 l0 x4_1) x5_2).toList = ([] : List UInt8)
            ·rw [if_pos c10] at H
             have c10b0 : ((rdOf ByteArray.empty (rd_L1 l0 x4_1) x5_2).toList == ([] : List UInt8)) = true := beq_iff_eq.mpr c10
             have c10b1 : ((rdOf ByteArray.empty (rd_L1 l0 x4_1) x5_2).toList != ([] : List UInt8)) = false := bne_eq_false_iff_eq.mpr c10
             clear c10
             have H' := Aside0.mk H
             clear H
             have p286 : 0 ≤ (x4_1 : Int) := of_decide_eq_true (by first | (with_reducible assumption) | assumption)
             have q286 : x4_1 < (l0.length : Int) := of_decide_eq_true (by first | (with_reducible assumption) | assumption)
             obtain ⟨ad286, A286_0, c286_0, e286, hx286_0, hl286_0, hi286_0⟩ := at_L1 HR0.out x4_1 p286 q286
             obtain rfl : ad285 = ad286 := (by injection e286)
             replace hx286_0 := (HB.out.cell (World.block_lt_of_cell? w _ hx286_0)).trans hx286_0
             have e286x := hx285_0.symm.trans hx286_0
             simp only [Option.some.injEq, Value.slice.injEq, true_and] at e286x
             obtain ⟨rfl, rfl⟩ := e286x
             have HR286_0 := Aside0.mk hi286_0
             have HC286_0 := Aside0.mk hl286_0
             clear hi286_0 hl286_0
             replace p286 := eq_true p286
             replace q286 := eq_true q286
             have p287 : 0 ≤ (x5_2 : Int) := of_decide_eq_true (by first | (with_reducible assumption) | assumption)
             have q287 : x5_2 < ((rd_L1 l0 x4_1).length : Int) := of_decide_eq_true (by first | (with_reducible assumption) | assumption)
             obtain ⟨ad287, e287, hx287_0⟩ := Kd.at_string HR286_0.out x5_2 p287 q287
             cases e287
             replace hx287_0 := (HB.out.cell (World.block_lt_of_cell? w _ hx287_0)).trans hx287_0
             replace p287 := eq_true p287
             replace q287 := eq_true q287
             go_wp2
             repeat (go_quiet (fail); try go_wp2)
             go_meet
             case rel => exact ⟨_, (true), rfs_, H', ⟨by have := HK1.out; have := HK2.out; first | omega | exact Nat.le_refl _⟩, ⟨by (with_reducible repeat (first | apply Kd.R_alloc | apply Kd.R_drewN | apply Kd.R_drew)); exact HO_3.out⟩, ⟨bel_⟩⟩
            ·rw [if_neg c10] at H
             have c10b0 : ((rdOf ByteArray.empty (rd_L1 l0 x4_1) x5_2).toList == ([] : List UInt8)) = false := beq_eq_false_iff_ne.mpr c10
             have c10b1 : ((rdOf ByteArray.empty (rd_L1 l0 x4_1) x5_2).toList != ([] : List UInt8)) = true := bne_iff_ne.mpr c10
             replace H := Option.bind_eq_some_iff.mp H
             obtain ⟨t288, A110, H⟩ := H
             try dsimp only at H
             have A11 := Aside0.mk A110
             clear A110
             have H' := Aside0.mk H
             clear H
             have p286 : 0 ≤ (x4_1 : Int) := of_decide_eq_true (by first | (with_reducible assumption) | assumption)
             have q286 : x4_1 < (l0.length : Int) := of_decide_eq_true (by first | (with_reducible assumption) | assumption)
             obtain ⟨ad286, A286_0, c286_0, e286, hx286_0, hl286_0, hi286_0⟩ := at_L1 HR0.out x4_1 p286 q286
             obtain rfl : ad285 = ad286 := (by injection e286)
             replace hx286_0 := (HB.out.cell (World.block_lt_of_cell? w _ hx286_0)).trans hx286_0
             have e286x := hx285_0.symm.trans hx286_0
             simp only [Option.some.injEq, Value.slice.injEq, true_and] at e286x
             obtain ⟨rfl, rfl⟩ := e286x
             have HR286_0 := Aside0.mk hi286_0
             have HC286_0 := Aside0.mk hl286_0
             clear hi286_0 hl286_0
             replace p286 := eq_true p286
             replace q286 := eq_true q286
             have p287 : 0 ≤ (x5_2 : Int) := of_decide_eq_true (by first | (with_reducible assumption) | assumption)
             have q287 : x5_2 < ((rd_L1 l0 x4_1).length : Int) := of_decide_eq_true (by first | (with_reducible assumption) | assumption)
             obtain ⟨ad287, e287, hx287_0⟩ := Kd.at_string HR286_0.out x5_2 p287 q287
             cases e287
             replace hx287_0 := (HB.out.cell (World.block_lt_of_cell? w _ hx287_0)).trans hx287_0
             replace p287 := eq_true p287
             replace q287 := eq_true q287
             go_wp2_with (first | (go_at_call 25; (with_reducible refine (parterreref08_first.calls k2 _ _ l0 x4_1 x5_2 t288 _ ?side1 ?side2 A11.out).mono ?_); (case side1 => repeat (first | exact (Kd.C_below HR0.out HB.out) | (with_reducible refine Kd.C_alloc ?_ _) | (with_reducible refine Kd.C_drewN ?_ _) | (with_reducible refine Kd.C_drew ?_))); (case side2 => exact HC0.out); rintro e w' ⟨rfl, ⟨nd, rfl⟩⟩; (try first | exact ⟨rfl, _, World.drewN_drewN _ _ _⟩ | exact ⟨rfl, _, Eq.trans (World.drewN_drewN _ _ _) (congrArg (World.drewN _) (Nat.add_assoc _ _ _))⟩)))
             repeat (go_quiet (first | (go_at_call 25; (with_reducible refine (parterreref08_first.calls k2 _ _ l0 x4_1 x5_2 t288 _ ?side1 ?side2 A11.out).mono ?_); (case side1 => repeat (first | exact (Kd.C_below HR0.out HB.out) | (with_reducible refine Kd.C_alloc ?_ _) | (with_reducible refine Kd.C_drewN ?_ _) | (with_reducible refine Kd.C_drew ?_))); (case side2 => exact HC0.out); rintro e w' ⟨rfl, ⟨nd, rfl⟩⟩; (try first | exact ⟨rfl, _, World.drewN_drewN _ _ _⟩ | exact ⟨rfl, _, Eq.trans (World.drewN_drewN _ _ _) (congrArg (World.drewN _) (Nat.add_assoc _ _ _))⟩))); try go_wp2_with (first | (go_at_call 25; (with_reducible refine (parterreref08_first.calls k2 _ _ l0 x4_1 x5_2 t288 _ ?side1 ?side2 A11.out).mono ?_); (case side1 => repeat (first | exact (Kd.C_below HR0.out HB.out) | (with_reducible refine Kd.C_alloc ?_ _) | (with_reducible refine Kd.C_drewN ?_ _) | (with_reducible refine Kd.C_drew ?_))); (case side2 => exact HC0.out); rintro e w' ⟨rfl, ⟨nd, rfl⟩⟩; (try first | exact ⟨rfl, _, World.drewN_drewN _ _ _⟩ | exact ⟨rfl, _, Eq.trans (World.drewN_drewN _ _ _) (congrArg (World.drewN _) (Nat.add_assoc _ _ _))⟩))))
             go_meet
             case rel => exact ⟨_, (!t288), rfs_, H', ⟨by have := HK1.out; have := HK2.out; first | omega | exact Nat.le_refl _⟩, ⟨by (with_reducible repeat (first | apply Kd.R_alloc | apply Kd.R_drewN | apply Kd.R_drew)); exact HO_3.out⟩, ⟨bel_⟩⟩
           ·rw [if_neg c9] at H
            exact absurd H (by simp)
          case rest =>
           clear HC8
           try clear c5b0
           try clear c6b0
           try clear c7b0
           try clear hx285_0
           try clear p285
           try clear q285
           obtain ⟨kq, x39_7, rfl, HA, HJ7, HO_3, HB⟩ := hcut
           cases kq with
           | zero => exact absurd HA.out (by simp [parterreref08_Rects.j2])
           | succ kj7 =>
            have H := HA.out
            clear HA
            simp only [parterreref08_Rects.j2] at H
            by_cases c12 : x39_7 = true
            ·subst c12
             rw [if_pos rfl] at H
             have H' := Aside0.mk H
             clear H
             go_wp2
             repeat (go_quiet (fail); try go_wp2)
             go_roundg kj7
             case measure => have := HK1.out; have := HK2.out; have := HJ7.out; omega
             case rel => exact ⟨(x3_2), (wrap64 (x5_2 + 1)), rfs_, H', ⟨by have := HK1.out; have := HK2.out; have := HJ7.out; omega⟩, ⟨by (with_reducible repeat (first | apply Kd.R_alloc | apply Kd.R_drewN | apply Kd.R_drew)); exact HO_3.out⟩, ⟨bel_⟩⟩
            ·replace c12 := Bool.eq_false_iff.mpr c12
             subst c12
             rw [if_neg (show ¬ (false = true) by decide)] at H
             by_cases c13 : 0 ≤ x4_1
             ·rw [if_pos c13] at H
              have c13b0 : decide (0 ≤ x4_1) = true := decide_eq_true c13
              clear c13
              by_cases c14 : x4_1 < (l0.length : Int)
              ·rw [if_pos c14] at H
               have c14b0 : decide (x4_1 < (l0.length : Int)) = true := decide_eq_true c14
               clear c14
               by_cases c15 : 0 ≤ x5_2
               ·rw [if_pos c15] at H
                have c15b0 : decide (0 ≤ x5_2) = true := decide_eq_true c15
                clear c15
                by_cases c16 : x5_2 < ((rd_L1 l0 x4_1).length : Int)
                ·rw [if_pos c16] at H
                 have c16b0 : decide (x5_2 < ((rd_L1 l0 x4_1).length : Int)) = true := decide_eq_true c16
                 clear c16
                 have HC17 := Aside0.mk H
                 clear H
                 have p289 : 0 ≤ (x4_1 : Int) := of_decide_eq_true (by first | (with_reducible assumption) | assumption)
                 have q289 : x4_1 < (l0.length : Int) := of_decide_eq_true (by first | (with_reducible assumption) | assumption)
                 obtain ⟨ad289, A289_0, c289_0, e289, hx289_0, hl289_0, hi289_0⟩ := at_L1 HR0.out x4_1 p289 q289
                 obtain rfl : ad285 = ad289 := (by injection e289)
                 replace hx289_0 := (HB.out.cell (World.block_lt_of_cell? w _ hx289_0)).trans hx289_0
                 have HR289_0 := Aside0.mk hi289_0
                 have HC289_0 := Aside0.mk hl289_0
                 clear hi289_0 hl289_0
                 replace p289 := eq_true p289
                 replace q289 := eq_true q289
                 have p290 : 0 ≤ (x5_2 : Int) := of_decide_eq_true (by first | (with_reducible assumption) | assumption)
                 have q290 : x5_2 < ((rd_L1 l0 x4_1).length : Int) := of_decide_eq_true (by first | (with_reducible assumption) | assumption)
                 obtain ⟨ad290, e290, hx290_0⟩ := Kd.at_string HR289_0.out x5_2 p290 q290
                 cases e290
                 replace hx290_0 := (HB.out.cell (World.block_lt_of_cell? w _ hx290_0)).trans hx290_0
                 replace p290 := eq_true p290
                 replace q290 := eq_true q290
                 go_upto_block 4 with (first | ((with_reducible refine gate_dst (N := 6) rfl ?_); refine box_event ?hg (N := 6) ?hd (cs := #[.string (⟨#[]⟩ : ByteArray), .int .i64 0, .int .i64 0, .int .i64 0, .int .i64 0]) (t := 28) ?hr ?_; (case hd => rfl); (case hg => rfl); (case hr => first | (go_simp; done) | (go_simp; rfl)); intro gb291 hg w18 hbox hb; have n0_ := Aside0.mk (Kd.R_below (Kd.R_elderB (by (with_reducible repeat (first | apply Kd.R_alloc | apply Kd.R_drewN | apply Kd.R_drew)); exact HO_3.out) gb291 (Nat.le_of_eq hg.symm)) hb); have n1_ := Aside0.mk (below_step bel_ hb); have n2_ := Aside0.mk (hbox); have n3_ := Aside0.mk ((bsz_ hg : w.heap.size ≤ gb291)); have n4_ := Aside0.mk ((bsz_ hg : w.heap.size ≤ gb291)); clear HO_3; clear HB; have HO_3 := n0_; have HB := n1_; have BK291 := n2_; have GW291 := n3_; have GE291 := n4_; clear n0_ n1_ n2_ n3_ n4_; clear hb hbox hg; have hcz19_0 : w18.cell? ⟨gb291, 0, none⟩ = some (.string (⟨#[]⟩ : ByteArray)) := (blk_cell BK291.out 0).trans rfl; have hcz19_1 : w18.cell? ⟨gb291, 1, none⟩ = some (.int .i64 0) := (blk_cell BK291.out 1).trans rfl; have hcz19_2 : w18.cell? ⟨gb291, 2, none⟩ = some (.int .i64 0) := (blk_cell BK291.out 2).trans rfl; have hcz19_3 : w18.cell? ⟨gb291, 3, none⟩ = some (.int .i64 0) := (blk_cell BK291.out 3).trans rfl; have hcz19_4 : w18.cell? ⟨gb291, 4, none⟩ = some (.int .i64 0) := (blk_cell BK291.out 4).trans rfl; have hfz19_0 := blk_frozen BK291.out 0; have hfz19_1 := blk_frozen BK291.out 1; have hfz19_2 := blk_frozen BK291.out 2; have hfz19_3 := blk_frozen BK291.out 3; have hfz19_4 := blk_frozen BK291.out 4))
                 repeat (go_quiet (first | ((with_reducible refine gate_dst (N := 6) rfl ?_); refine box_event ?hg (N := 6) ?hd (cs := #[.string (⟨#[]⟩ : ByteArray), .int .i64 0, .int .i64 0, .int .i64 0, .int .i64 0]) (t := 28) ?hr ?_; (case hd => rfl); (case hg => rfl); (case hr => first | (go_simp; done) | (go_simp; rfl)); intro gb291 hg w18 hbox hb; have n0_ := Aside0.mk (Kd.R_below (Kd.R_elderB (by (with_reducible repeat (first | apply Kd.R_alloc | apply Kd.R_drewN | apply Kd.R_drew)); exact HO_3.out) gb291 (Nat.le_of_eq hg.symm)) hb); have n1_ := Aside0.mk (below_step bel_ hb); have n2_ := Aside0.mk (hbox); have n3_ := Aside0.mk ((bsz_ hg : w.heap.size ≤ gb291)); have n4_ := Aside0.mk ((bsz_ hg : w.heap.size ≤ gb291)); clear HO_3; clear HB; have HO_3 := n0_; have HB := n1_; have BK291 := n2_; have GW291 := n3_; have GE291 := n4_; clear n0_ n1_ n2_ n3_ n4_; clear hb hbox hg; have hcz19_0 : w18.cell? ⟨gb291, 0, none⟩ = some (.string (⟨#[]⟩ : ByteArray)) := (blk_cell BK291.out 0).trans rfl; have hcz19_1 : w18.cell? ⟨gb291, 1, none⟩ = some (.int .i64 0) := (blk_cell BK291.out 1).trans rfl; have hcz19_2 : w18.cell? ⟨gb291, 2, none⟩ = some (.int .i64 0) := (blk_cell BK291.out 2).trans rfl; have hcz19_3 : w18.cell? ⟨gb291, 3, none⟩ = some (.int .i64 0) := (blk_cell BK291.out 3).trans rfl; have hcz19_4 : w18.cell? ⟨gb291, 4, none⟩ = some (.int .i64 0) := (blk_cell BK291.out 4).trans rfl; have hfz19_0 := blk_frozen BK291.out 0; have hfz19_1 := blk_frozen BK291.out 1; have hfz19_2 := blk_frozen BK291.out 2; have hfz19_3 := blk_frozen BK291.out 3; have hfz19_4 := blk_frozen BK291.out 4)); go_upto_block 4 with (first | ((with_reducible refine gate_dst (N := 6) rfl ?_); refine box_event ?hg (N := 6) ?hd (cs := #[.string (⟨#[]⟩ : ByteArray), .int .i64 0, .int .i64 0, .int .i64 0, .int .i64 0]) (t := 28) ?hr ?_; (case hd => rfl); (case hg => rfl); (case hr => first | (go_simp; done) | (go_simp; rfl)); intro gb291 hg w18 hbox hb; have n0_ := Aside0.mk (Kd.R_below (Kd.R_elderB (by (with_reducible repeat (first | apply Kd.R_alloc | apply Kd.R_drewN | apply Kd.R_drew)); exact HO_3.out) gb291 (Nat.le_of_eq hg.symm)) hb); have n1_ := Aside0.mk (below_step bel_ hb); have n2_ := Aside0.mk (hbox); have n3_ := Aside0.mk ((bsz_ hg : w.heap.size ≤ gb291)); have n4_ := Aside0.mk ((bsz_ hg : w.heap.size ≤ gb291)); clear HO_3; clear HB; have HO_3 := n0_; have HB := n1_; have BK291 := n2_; have GW291 := n3_; have GE291 := n4_; clear n0_ n1_ n2_ n3_ n4_; clear hb hbox hg; have hcz19_0 : w18.cell? ⟨gb291, 0, none⟩ = some (.string (⟨#[]⟩ : ByteArray)) := (blk_cell BK291.out 0).trans rfl; have hcz19_1 : w18.cell? ⟨gb291, 1, none⟩ = some (.int .i64 0) := (blk_cell BK291.out 1).trans rfl; have hcz19_2 : w18.cell? ⟨gb291, 2, none⟩ = some (.int .i64 0) := (blk_cell BK291.out 2).trans rfl; have hcz19_3 : w18.cell? ⟨gb291, 3, none⟩ = some (.int .i64 0) := (blk_cell BK291.out 3).trans rfl; have hcz19_4 : w18.cell? ⟨gb291, 4, none⟩ = some (.int .i64 0) := (blk_cell BK291.out 4).trans rfl; have hfz19_0 := blk_frozen BK291.out 0; have hfz19_1 := blk_frozen BK291.out 1; have hfz19_2 := blk_frozen BK291.out 2; have hfz19_3 := blk_frozen BK291.out 3; have hfz19_4 := blk_frozen BK291.out 4)))
                 (try simp only [Act.put, List.setIfInBounds_toArray, List.set_cons_zero, List.set_cons_succ])
                 go_cut [] (fun wc => ∃ (kq : Nat) (x292004_16 : Int), Aside0 (parterreref08_Rects.j4 kq l0 x3_2 x4_1 x5_2 (rdOf ByteArray.empty (rd_L1 l0 x4_1) x5_2) x4_1 x5_2 0 x292004_16 = some r) ∧ Aside0 (kq ≤ kj7) ∧ Aside0 (Kd.R k28 28 wc w.heap.size (fun k_ => k_ ≠ gb291) u3 x3_2) ∧ Aside0 (wc.heap[gb291]? = some (.cells #[.string (rdOf ByteArray.empty (rd_L1 l0 x4_1) x5_2), .int .i64 x4_1, .int .i64 x5_2, .int .i64 0, .int .i64 x292004_16] 28 (0, 0))) ∧ Aside0 (Below w.heap.size w wc))
                 case first =>
                  have H := HC17.out
                  clear HC17
                  have H' := Aside0.mk H
                  clear H
                  go_wp2
                  repeat (go_quiet (fail); try go_wp2)
                  go_loopg [] kj7 (fun kq w' => ∃ (x292004_4 : Int), Aside0 (parterreref08_Rects.l2 kq l0 x3_2 x4_1 x5_2 (rdOf ByteArray.empty (rd_L1 l0 x4_1) x5_2) x4_1 x5_2 0 x292004_4 = some r) ∧ Aside0 (kq ≤ kj7) ∧ Aside0 (Kd.R k28 28 w' w.heap.size (fun k_ => k_ ≠ gb291) u3 x3_2) ∧ Aside0 (w'.heap[gb291]? = some (.cells #[.string (rdOf ByteArray.empty (rd_L1 l0 x4_1) x5_2), .int .i64 x4_1, .int .i64 x5_2, .int .i64 0, .int .i64 x292004_4] 28 (0, 0))) ∧ Aside0 (Below w.heap.size w w'))
                  case atStart => exact ⟨(0), H', ⟨Nat.le_refl _⟩, ⟨by (with_reducible repeat (first | apply Kd.R_alloc | apply Kd.R_drewN | apply Kd.R_drew)); exact Kd.R_mono (Kd.R_far (p := ⟨gb291, 4, none⟩) (Kd.R_far (p := ⟨gb291, 3, none⟩) (Kd.R_far (p := ⟨gb291, 2, none⟩) (Kd.R_far (p := ⟨gb291, 1, none⟩) (Kd.R_far (p := ⟨gb291, 0, none⟩) (Kd.R_mono HO_3.out (fun k_ hk => (⟨hk, hk.2⟩ : _ ∧ k_ ≠ gb291))) (fun _ hk => hk.2) (.string (rdOf ByteArray.empty (rd_L1 l0 x4_1) x5_2))) (fun _ hk => hk.2) (.int .i64 x4_1)) (fun _ hk => hk.2) (.int .i64 x5_2)) (fun _ hk => hk.2) (.int .i64 0)) (fun _ hk => hk.2) (.int .i64 0)) (fun _ hk => hk.1.2)⟩, ⟨by (with_reducible repeat (first | refine blk_drewN ?_ _ | refine blk_drew ?_ | refine blk_alloc ?_ _)); refine blk_put (cs := #[.string (rdOf ByteArray.empty (rd_L1 l0 x4_1) x5_2), .int .i64 x4_1, .int .i64 x5_2, .int .i64 0, .int .i64 0]) ?_ 4 _ rfl; (with_reducible repeat (first | refine blk_drewN ?_ _ | refine blk_drew ?_ | refine blk_alloc ?_ _)); refine blk_put (cs := #[.string (rdOf ByteArray.empty (rd_L1 l0 x4_1) x5_2), .int .i64 x4_1, .int .i64 x5_2, .int .i64 0, .int .i64 0]) ?_ 3 _ rfl; (with_reducible repeat (first | refine blk_drewN ?_ _ | refine blk_drew ?_ | refine blk_alloc ?_ _)); refine blk_put (cs := #[.string (rdOf ByteArray.empty (rd_L1 l0 x4_1) x5_2), .int .i64 x4_1, .int .i64 0, .int .i64 0, .int .i64 0]) ?_ 2 _ rfl; (with_reducible repeat (first | refine blk_drewN ?_ _ | refine blk_drew ?_ | refine blk_alloc ?_ _)); refine blk_put (cs := #[.string (rdOf ByteArray.empty (rd_L1 l0 x4_1) x5_2), .int .i64 0, .int .i64 0, .int .i64 0, .int .i64 0]) ?_ 1 _ rfl; (with_reducible repeat (first | refine blk_drewN ?_ _ | refine blk_drew ?_ | refine blk_alloc ?_ _)); refine blk_put (cs := #[.string (⟨#[]⟩ : ByteArray), .int .i64 0, .int .i64 0, .int .i64 0, .int .i64 0]) ?_ 0 _ rfl; (with_reducible repeat (first | refine blk_drewN ?_ _ | refine blk_drew ?_ | refine blk_alloc ?_ _)); exact BK291.out⟩, ⟨bel_⟩⟩
                  case round =>
                   clear H'
                   try clear c12
                   try clear c13b0
                   try clear c14b0
                   try clear c15b0
                   try clear c16b0
                   try clear hcz19_0
                   try clear hcz19_1
                   try clear hcz19_2
                   try clear hcz19_3
                   try clear hcz19_4
                   try clear hfz19_0
                   try clear hfz19_1
                   try clear hfz19_2
                   try clear hfz19_3
                   try clear hfz19_4
                   try clear hx289_0
                   try clear hx290_0
                   try clear p289
                   try clear p290
                   try clear q289
                   try clear q290
                   obtain ⟨x292004_4, HA, HK4, HO_3, BK291, HB⟩ := hrel
                   cases gk with
                   | zero => exact absurd HA.out (by simp [parterreref08_Rects.l2])
                   | succ k4 =>
                    have H := HA.out
                    clear HA
                    simp only [parterreref08_Rects.l2] at H
                    by_cases c20 : 0 ≤ x4_1
                    ·rw [if_pos c20] at H
                     have c20b0 : decide (0 ≤ x4_1) = true := decide_eq_true c20
                     clear c20
                     (first | rw [c20b0] | (simp only [i64_w, i32_w]; rw [c20b0]) | skip)
                     by_cases c21 : x4_1 < (l0.length : Int)
                     ·rw [if_pos c21] at H
                      have c21b0 : decide (x4_1 < (l0.length : Int)) = true := decide_eq_true c21
                      clear c21
                      by_cases c22 : (wrap64 (x5_2 + x292004_4)) < ((rd_L1 l0 x4_1).length : Int)
                      ·rw [if_pos c22] at H
                       have c22b0 : decide ((wrap64 (x5_2 + x292004_4)) < ((rd_L1 l0 x4_1).length : Int)) = true := decide_eq_true c22
                       clear c22
                       obtain ⟨ji23, hji23⟩ : ∃ j_ : Int, (wrap64 (x5_2 + x292004_4)) = j_ := ⟨_, rfl⟩
                       replace H : (if 0 ≤ (ji23) then (if (rdOf ByteArray.empty (rd_L1 l0 x4_1) (ji23)).toList = (rdOf ByteArray.empty (rd_L1 l0 x4_1) x5_2).toList then (parterreref08_Rects.l2 k4 l0 x3_2 x4_1 x5_2 (rdOf ByteArray.empty (rd_L1 l0 x4_1) x5_2) x4_1 x5_2 0 (wrap64 (x292004_4 + 1))) else (parterreref08_Rects.j4 k4 l0 x3_2 x4_1 x5_2 (rdOf ByteArray.empty (rd_L1 l0 x4_1) x5_2) x4_1 x5_2 0 x292004_4)) else (none)) = some r := by first | (rw [hji23] at H; exact H) | (simp only [hji23] at H ⊢; exact H)
                       (try rw [hji23] at c22b0)
                       have hji23w : (IntKind.i64.wrap (x5_2 + x292004_4)) = ji23 := (i64_w _).trans hji23
                       by_cases c24 : 0 ≤ (ji23)
                       ·rw [if_pos c24] at H
                        have c24b0 : decide (0 ≤ (ji23)) = true := decide_eq_true c24
                        clear c24
                        by_cases c25 : (rdOf ByteArray.empty (rd_L1 l0 x4_1) (ji23)).toList = (rdOf ByteArray.empty (rd_L1 l0 x4_1) x5_2).toList
                        ·rw [if_pos c25] at H
                         have c25b0 : ((rdOf ByteArray.empty (rd_L1 l0 x4_1) (ji23)).toList == (rdOf ByteArray.empty (rd_L1 l0 x4_1) x5_2).toList) = true := beq_iff_eq.mpr c25
                         have c25b1 : ((rdOf ByteArray.empty (rd_L1 l0 x4_1) (ji23)).toList != (rdOf ByteArray.empty (rd_L1 l0 x4_1) x5_2).toList) = false := bne_eq_false_iff_eq.mpr c25
                         clear c25
                         have H' := Aside0.mk H
                         clear H
                         have hcz26_0 : wr.cell? ⟨gb291, 0, none⟩ = some (.string (rdOf ByteArray.empty (rd_L1 l0 x4_1) x5_2)) := (blk_cell BK291.out 0).trans rfl
                         have hcz26_1 : wr.cell? ⟨gb291, 1, none⟩ = some (.int .i64 x4_1) := (blk_cell BK291.out 1).trans rfl
                         have hcz26_2 : wr.cell? ⟨gb291, 2, none⟩ = some (.int .i64 x5_2) := (blk_cell BK291.out 2).trans rfl
                         have hcz26_3 : wr.cell? ⟨gb291, 3, none⟩ = some (.int .i64 0) := (blk_cell BK291.out 3).trans rfl
                         have hcz26_4 : wr.cell? ⟨gb291, 4, none⟩ = some (.int .i64 x292004_4) := (blk_cell BK291.out 4).trans rfl
                         have hfz26_0 := blk_frozen BK291.out 0
                         have hfz26_1 := blk_frozen BK291.out 1
                         have hfz26_2 := blk_frozen BK291.out 2
                         have hfz26_3 := blk_frozen BK291.out 3
                         have hfz26_4 := blk_frozen BK291.out 4
                         have p292 : 0 ≤ (x4_1 : Int) := of_decide_eq_true (by first | (with_reducible assumption) | assumption)
                         have q292 : x4_1 < (l0.length : Int) := of_decide_eq_true (by first | (with_reducible assumption) | assumption)
                         obtain ⟨ad292, A292_0, c292_0, e292, hx292_0, hl292_0, hi292_0⟩ := at_L1 HR0.out x4_1 p292 q292
                         obtain rfl : ad285 = ad292 := (by injection e292)
                         replace hx292_0 := (HB.out.cell (World.block_lt_of_cell? w _ hx292_0)).trans hx292_0
                         have HR292_0 := Aside0.mk hi292_0
                         have HC292_0 := Aside0.mk hl292_0
                         clear hi292_0 hl292_0
                         replace p292 := eq_true p292
                         replace q292 := eq_true q292
                         have p293 : 0 ≤ (x4_1 : Int) := of_decide_eq_true (by first | (with_reducible assumption) | assumption)
                         have q293 : x4_1 < (l0.length : Int) := of_decide_eq_true (by first | (with_reducible assumption) | assumption)
                         obtain ⟨ad293, A293_0, c293_0, e293, hx293_0, hl293_0, hi293_0⟩ := at_L1 HR0.out x4_1 p293 q293
                         obtain rfl : ad285 = ad293 := (by injection e293)
                         replace hx293_0 := (HB.out.cell (World.block_lt_of_cell? w _ hx293_0)).trans hx293_0
                         have HR293_0 := Aside0.mk hi293_0
                         have HC293_0 := Aside0.mk hl293_0
                         clear hi293_0 hl293_0
                         replace p293 := eq_true p293
                         replace q293 := eq_true q293
                         have ea_ := Option.some.inj (hx292_0.symm.trans hx293_0)
                         injection ea_ with ea_ en_ ec_
                         subst ea_
                         subst ec_
                         clear en_
                         have p294 : 0 ≤ ((ji23) : Int) := of_decide_eq_true (by first | (with_reducible assumption) | assumption)
                         have q294 : (ji23) < ((rd_L1 l0 x4_1).length : Int) := of_decide_eq_true (by first | (with_reducible assumption) | assumption)
                         obtain ⟨ad294, e294, hx294_0⟩ := Kd.at_string HR293_0.out (ji23) p294 q294
                         cases e294
                         replace hx294_0 := (HB.out.cell (World.block_lt_of_cell? w _ hx294_0)).trans hx294_0
                         replace p294 := eq_true p294
                         replace q294 := eq_true q294
                         go_wp2
                         repeat (go_quiet (fail); try go_wp2)
                         go_roundg k4
                         case measure => have := HK1.out; have := HK2.out; have := HJ7.out; have := HK4.out; omega
                         case rel => exact ⟨(wrap64 (x292004_4 + 1)), H', ⟨by have := HK1.out; have := HK2.out; have := HJ7.out; have := HK4.out; omega⟩, ⟨by (with_reducible repeat (first | apply Kd.R_alloc | apply Kd.R_drewN | apply Kd.R_drew)); exact Kd.R_mono (Kd.R_far (p := ⟨gb291, 4, none⟩) (Kd.R_mono HO_3.out (fun k_ hk => (⟨hk, hk⟩ : _ ∧ k_ ≠ gb291))) (fun _ hk => hk.2) (.int .i64 (wrap64 (x292004_4 + 1)))) (fun _ hk => hk.1)⟩, ⟨by (with_reducible repeat (first | refine blk_drewN ?_ _ | refine blk_drew ?_ | refine blk_alloc ?_ _)); refine blk_put (cs := #[.string (rdOf ByteArray.empty (rd_L1 l0 x4_1) x5_2), .int .i64 x4_1, .int .i64 x5_2, .int .i64 0, .int .i64 x292004_4]) ?_ 4 _ rfl; (with_reducible repeat (first | refine blk_drewN ?_ _ | refine blk_drew ?_ | refine blk_alloc ?_ _)); exact BK291.out⟩, ⟨bel_⟩⟩
                        ·rw [if_neg c25] at H
                         have c25b0 : ((rdOf ByteArray.empty (rd_L1 l0 x4_1) (ji23)).toList == (rdOf ByteArray.empty (rd_L1 l0 x4_1) x5_2).toList) = false := beq_eq_false_iff_ne.mpr c25
                         have c25b1 : ((rdOf ByteArray.empty (rd_L1 l0 x4_1) (ji23)).toList != (rdOf ByteArray.empty (rd_L1 l0 x4_1) x5_2).toList) = true := bne_iff_ne.mpr c25
                         have H' := Aside0.mk H
                         clear H
                         have hcz27_0 : wr.cell? ⟨gb291, 0, none⟩ = some (.string (rdOf ByteArray.empty (rd_L1 l0 x4_1) x5_2)) := (blk_cell BK291.out 0).trans rfl
                         have hcz27_1 : wr.cell? ⟨gb291, 1, none⟩ = some (.int .i64 x4_1) := (blk_cell BK291.out 1).trans rfl
                         have hcz27_2 : wr.cell? ⟨gb291, 2, none⟩ = some (.int .i64 x5_2) := (blk_cell BK291.out 2).trans rfl
                         have hcz27_3 : wr.cell? ⟨gb291, 3, none⟩ = some (.int .i64 0) := (blk_cell BK291.out 3).trans rfl
                         have hcz27_4 : wr.cell? ⟨gb291, 4, none⟩ = some (.int .i64 x292004_4) := (blk_cell BK291.out 4).trans rfl
                         have hfz27_0 := blk_frozen BK291.out 0
                         have hfz27_1 := blk_frozen BK291.out 1
                         have hfz27_2 := blk_frozen BK291.out 2
                         have hfz27_3 := blk_frozen BK291.out 3
                         have hfz27_4 := blk_frozen BK291.out 4
                         have p292 : 0 ≤ (x4_1 : Int) := of_decide_eq_true (by first | (with_reducible assumption) | assumption)
                         have q292 : x4_1 < (l0.length : Int) := of_decide_eq_true (by first | (with_reducible assumption) | assumption)
                         obtain ⟨ad292, A292_0, c292_0, e292, hx292_0, hl292_0, hi292_0⟩ := at_L1 HR0.out x4_1 p292 q292
                         obtain rfl : ad285 = ad292 := (by injection e292)
                         replace hx292_0 := (HB.out.cell (World.block_lt_of_cell? w _ hx292_0)).trans hx292_0
                         have HR292_0 := Aside0.mk hi292_0
                         have HC292_0 := Aside0.mk hl292_0
                         clear hi292_0 hl292_0
                         replace p292 := eq_true p292
                         replace q292 := eq_true q292
                         have p293 : 0 ≤ (x4_1 : Int) := of_decide_eq_true (by first | (with_reducible assumption) | assumption)
                         have q293 : x4_1 < (l0.length : Int) := of_decide_eq_true (by first | (with_reducible assumption) | assumption)
                         obtain ⟨ad293, A293_0, c293_0, e293, hx293_0, hl293_0, hi293_0⟩ := at_L1 HR0.out x4_1 p293 q293
                         obtain rfl : ad285 = ad293 := (by injection e293)
                         replace hx293_0 := (HB.out.cell (World.block_lt_of_cell? w _ hx293_0)).trans hx293_0
                         have HR293_0 := Aside0.mk hi293_0
                         have HC293_0 := Aside0.mk hl293_0
                         clear hi293_0 hl293_0
                         replace p293 := eq_true p293
                         replace q293 := eq_true q293
                         have ea_ := Option.some.inj (hx292_0.symm.trans hx293_0)
                         injection ea_ with ea_ en_ ec_
                         subst ea_
                         subst ec_
                         clear en_
                         have p294 : 0 ≤ ((ji23) : Int) := of_decide_eq_true (by first | (with_reducible assumption) | assumption)
                         have q294 : (ji23) < ((rd_L1 l0 x4_1).length : Int) := of_decide_eq_true (by first | (with_reducible assumption) | assumption)
                         obtain ⟨ad294, e294, hx294_0⟩ := Kd.at_string HR293_0.out (ji23) p294 q294
                         cases e294
                         replace hx294_0 := (HB.out.cell (World.block_lt_of_cell? w _ hx294_0)).trans hx294_0
                         replace p294 := eq_true p294
                         replace q294 := eq_true q294
                         go_wp2
                         repeat (go_quiet (fail); try go_wp2)
                         go_meet
                         case rel => exact ⟨_, (x292004_4), H', ⟨by have := HK1.out; have := HK2.out; have := HJ7.out; have := HK4.out; first | omega | exact Nat.le_refl _⟩, ⟨by (with_reducible repeat (first | apply Kd.R_alloc | apply Kd.R_drewN | apply Kd.R_drew)); exact HO_3.out⟩, ⟨blk_⟩, ⟨bel_⟩⟩
                       ·rw [if_neg c24] at H
                        exact absurd H (by simp)
                      ·rw [if_neg c22] at H
                       have c22b0 : decide ((wrap64 (x5_2 + x292004_4)) < ((rd_L1 l0 x4_1).length : Int)) = false := decide_eq_false c22
                       clear c22
                       have H' := Aside0.mk H
                       clear H
                       have hcz28_0 : wr.cell? ⟨gb291, 0, none⟩ = some (.string (rdOf ByteArray.empty (rd_L1 l0 x4_1) x5_2)) := (blk_cell BK291.out 0).trans rfl
                       have hcz28_1 : wr.cell? ⟨gb291, 1, none⟩ = some (.int .i64 x4_1) := (blk_cell BK291.out 1).trans rfl
                       have hcz28_2 : wr.cell? ⟨gb291, 2, none⟩ = some (.int .i64 x5_2) := (blk_cell BK291.out 2).trans rfl
                       have hcz28_3 : wr.cell? ⟨gb291, 3, none⟩ = some (.int .i64 0) := (blk_cell BK291.out 3).trans rfl
                       have hcz28_4 : wr.cell? ⟨gb291, 4, none⟩ = some (.int .i64 x292004_4) := (blk_cell BK291.out 4).trans rfl
                       have hfz28_0 := blk_frozen BK291.out 0
                       have hfz28_1 := blk_frozen BK291.out 1
                       have hfz28_2 := blk_frozen BK291.out 2
                       have hfz28_3 := blk_frozen BK291.out 3
                       have hfz28_4 := blk_frozen BK291.out 4
                       have p292 : 0 ≤ (x4_1 : Int) := of_decide_eq_true (by first | (with_reducible assumption) | assumption)
                       have q292 : x4_1 < (l0.length : Int) := of_decide_eq_true (by first | (with_reducible assumption) | assumption)
                       obtain ⟨ad292, A292_0, c292_0, e292, hx292_0, hl292_0, hi292_0⟩ := at_L1 HR0.out x4_1 p292 q292
                       obtain rfl : ad285 = ad292 := (by injection e292)
                       replace hx292_0 := (HB.out.cell (World.block_lt_of_cell? w _ hx292_0)).trans hx292_0
                       have HR292_0 := Aside0.mk hi292_0
                       have HC292_0 := Aside0.mk hl292_0
                       clear hi292_0 hl292_0
                       replace p292 := eq_true p292
                       replace q292 := eq_true q292
                       go_wp2
                       repeat (go_quiet (fail); try go_wp2)
                       go_meet
                       case rel => exact ⟨_, (x292004_4), H', ⟨by have := HK1.out; have := HK2.out; have := HJ7.out; have := HK4.out; first | omega | exact Nat.le_refl _⟩, ⟨by (with_reducible repeat (first | apply Kd.R_alloc | apply Kd.R_drewN | apply Kd.R_drew)); exact HO_3.out⟩, ⟨blk_⟩, ⟨bel_⟩⟩
                     ·rw [if_neg c21] at H
                      exact absurd H (by simp)
                    ·rw [if_neg c20] at H
                     exact absurd H (by simp)
                 case rest =>
                  clear HC17
                  try clear c12
                  try clear c13b0
                  try clear c14b0
                  try clear c15b0
                  try clear c16b0
                  try clear hcz19_0
                  try clear hcz19_1
                  try clear hcz19_2
                  try clear hcz19_3
                  try clear hcz19_4
                  try clear hfz19_0
                  try clear hfz19_1
                  try clear hfz19_2
                  try clear hfz19_3
                  try clear hfz19_4
                  try clear hx289_0
                  try clear hx290_0
                  try clear p289
                  try clear p290
                  try clear q289
                  try clear q290
                  obtain ⟨kq, x292004_16, HA, HJ16, HO_3, BK291, HB⟩ := hcut
                  cases kq with
                  | zero => exact absurd HA.out (by simp [parterreref08_Rects.j4])
                  | succ kj16 =>
                   have H := HA.out
                   clear HA
                   simp only [parterreref08_Rects.j4] at H
                   have H' := Aside0.mk H
                   clear H
                   go_wp2
                   repeat (go_quiet (fail); try go_wp2)
                   go_loopg [] kj16 (fun kq w' => ∃ (x292003_5 : Int), Aside0 (parterreref08_Rects.l3 kq l0 x3_2 x4_1 x5_2 (rdOf ByteArray.empty (rd_L1 l0 x4_1) x5_2) x4_1 x5_2 x292003_5 x292004_16 = some r) ∧ Aside0 (kq ≤ kj16) ∧ Aside0 (Kd.R k28 28 w' w.heap.size (fun k_ => k_ ≠ gb291) u3 x3_2) ∧ Aside0 (w'.heap[gb291]? = some (.cells #[.string (rdOf ByteArray.empty (rd_L1 l0 x4_1) x5_2), .int .i64 x4_1, .int .i64 x5_2, .int .i64 x292003_5, .int .i64 x292004_16] 28 (0, 0))) ∧ Aside0 (Below w.heap.size w w'))
                   case atStart => exact ⟨(0), H', ⟨Nat.le_refl _⟩, ⟨by (with_reducible repeat (first | apply Kd.R_alloc | apply Kd.R_drewN | apply Kd.R_drew)); exact HO_3.out⟩, ⟨blk_⟩, ⟨bel_⟩⟩
                   case round =>
                    clear H'
                    obtain ⟨x292003_5, HA, HK5, HO_3, BK291, HB⟩ := hrel
                    cases gk with
                    | zero => exact absurd HA.out (by simp [parterreref08_Rects.l3])
                    | succ k5 =>
                     have H := HA.out
                     clear HA
                     simp only [parterreref08_Rects.l3] at H
                     by_cases c29 : (wrap64 (x4_1 + x292003_5)) < (l0.length : Int)
                     ·rw [if_pos c29] at H
                      have c29b0 : decide ((wrap64 (x4_1 + x292003_5)) < (l0.length : Int)) = true := decide_eq_true c29
                      clear c29
                      obtain ⟨ji30, hji30⟩ : ∃ j_ : Int, (wrap64 (x4_1 + x292003_5)) = j_ := ⟨_, rfl⟩
                      replace H : (if 0 ≤ (ji30) then (if 0 ≤ x5_2 then (if x5_2 < ((rd_L1 l0 (ji30)).length : Int) then (if (rdOf ByteArray.empty (rd_L1 l0 (ji30)) x5_2).toList = (rdOf ByteArray.empty (rd_L1 l0 x4_1) x5_2).toList then (parterreref08_Rects.l3 k5 l0 x3_2 x4_1 x5_2 (rdOf ByteArray.empty (rd_L1 l0 x4_1) x5_2) x4_1 x5_2 (wrap64 (x292003_5 + 1)) x292004_16) else (if x3_2.length < 2932031007402 then (parterreref08_Rects.l1 k5 l0 (x3_2 ++ [(⟨(rdOf ByteArray.empty (rd_L1 l0 x4_1) x5_2), x4_1, x5_2, x292003_5, x292004_16⟩ : S28)]) x4_1 (wrap64 (x5_2 + 1))) else (none))) else (none)) else (none)) else (none)) = some r := by first | (rw [hji30] at H; exact H) | (simp only [hji30] at H ⊢; exact H)
                      (try rw [hji30] at c29b0)
                      have hji30w : (IntKind.i64.wrap (x4_1 + x292003_5)) = ji30 := (i64_w _).trans hji30
                      by_cases c31 : 0 ≤ (ji30)
                      ·rw [if_pos c31] at H
                       have c31b0 : decide (0 ≤ (ji30)) = true := decide_eq_true c31
                       clear c31
                       by_cases c32 : 0 ≤ x5_2
                       ·rw [if_pos c32] at H
                        have c32b0 : decide (0 ≤ x5_2) = true := decide_eq_true c32
                        clear c32
                        by_cases c33 : x5_2 < ((rd_L1 l0 (ji30)).length : Int)
                        ·rw [if_pos c33] at H
                         have c33b0 : decide (x5_2 < ((rd_L1 l0 (ji30)).length : Int)) = true := decide_eq_true c33
                         clear c33
                         by_cases c34 : (rdOf ByteArray.empty (rd_L1 l0 (ji30)) x5_2).toList = (rdOf ByteArray.empty (rd_L1 l0 x4_1) x5_2).toList
                         ·rw [if_pos c34] at H
                          have c34b0 : ((rdOf ByteArray.empty (rd_L1 l0 (ji30)) x5_2).toList == (rdOf ByteArray.empty (rd_L1 l0 x4_1) x5_2).toList) = true := beq_iff_eq.mpr c34
                          have c34b1 : ((rdOf ByteArray.empty (rd_L1 l0 (ji30)) x5_2).toList != (rdOf ByteArray.empty (rd_L1 l0 x4_1) x5_2).toList) = false := bne_eq_false_iff_eq.mpr c34
                          clear c34
                          have H' := Aside0.mk H
                          clear H
                          have hcz35_0 : wr.cell? ⟨gb291, 0, none⟩ = some (.string (rdOf ByteArray.empty (rd_L1 l0 x4_1) x5_2)) := (blk_cell BK291.out 0).trans rfl
                          have hcz35_1 : wr.cell? ⟨gb291, 1, none⟩ = some (.int .i64 x4_1) := (blk_cell BK291.out 1).trans rfl
                          have hcz35_2 : wr.cell? ⟨gb291, 2, none⟩ = some (.int .i64 x5_2) := (blk_cell BK291.out 2).trans rfl
                          have hcz35_3 : wr.cell? ⟨gb291, 3, none⟩ = some (.int .i64 x292003_5) := (blk_cell BK291.out 3).trans rfl
                          have hcz35_4 : wr.cell? ⟨gb291, 4, none⟩ = some (.int .i64 x292004_16) := (blk_cell BK291.out 4).trans rfl
                          have hfz35_0 := blk_frozen BK291.out 0
                          have hfz35_1 := blk_frozen BK291.out 1
                          have hfz35_2 := blk_frozen BK291.out 2
                          have hfz35_3 := blk_frozen BK291.out 3
                          have hfz35_4 := blk_frozen BK291.out 4
                          have p295 : 0 ≤ ((ji30) : Int) := of_decide_eq_true (by first | (with_reducible assumption) | assumption)
                          have q295 : (ji30) < (l0.length : Int) := of_decide_eq_true (by first | (with_reducible assumption) | assumption)
                          obtain ⟨ad295, A295_0, c295_0, e295, hx295_0, hl295_0, hi295_0⟩ := at_L1 HR0.out (ji30) p295 q295
                          obtain rfl : ad285 = ad295 := (by injection e295)
                          replace hx295_0 := (HB.out.cell (World.block_lt_of_cell? w _ hx295_0)).trans hx295_0
                          have HR295_0 := Aside0.mk hi295_0
                          have HC295_0 := Aside0.mk hl295_0
                          clear hi295_0 hl295_0
                          replace p295 := eq_true p295
                          replace q295 := eq_true q295
                          have p296 : 0 ≤ (x5_2 : Int) := of_decide_eq_true (by first | (with_reducible assumption) | assumption)
                          have q296 : x5_2 < ((rd_L1 l0 (ji30)).length : Int) := of_decide_eq_true (by first | (with_reducible assumption) | assumption)
                          obtain ⟨ad296, e296, hx296_0⟩ := Kd.at_string HR295_0.out x5_2 p296 q296
                          cases e296
                          replace hx296_0 := (HB.out.cell (World.block_lt_of_cell? w _ hx296_0)).trans hx296_0
                          replace p296 := eq_true p296
                          replace q296 := eq_true q296
                          go_wp2
                          repeat (go_quiet (fail); try go_wp2)
                          go_roundg k5
                          case measure => have := HK1.out; have := HK2.out; have := HJ7.out; have := HJ16.out; have := HK5.out; omega
                          case rel => exact ⟨(wrap64 (x292003_5 + 1)), H', ⟨by have := HK1.out; have := HK2.out; have := HJ7.out; have := HJ16.out; have := HK5.out; omega⟩, ⟨by (with_reducible repeat (first | apply Kd.R_alloc | apply Kd.R_drewN | apply Kd.R_drew)); exact Kd.R_mono (Kd.R_far (p := ⟨gb291, 3, none⟩) (Kd.R_mono HO_3.out (fun k_ hk => (⟨hk, hk⟩ : _ ∧ k_ ≠ gb291))) (fun _ hk => hk.2) (.int .i64 (wrap64 (x292003_5 + 1)))) (fun _ hk => hk.1)⟩, ⟨by (with_reducible repeat (first | refine blk_drewN ?_ _ | refine blk_drew ?_ | refine blk_alloc ?_ _)); refine blk_put (cs := #[.string (rdOf ByteArray.empty (rd_L1 l0 x4_1) x5_2), .int .i64 x4_1, .int .i64 x5_2, .int .i64 x292003_5, .int .i64 x292004_16]) ?_ 3 _ rfl; (with_reducible repeat (first | refine blk_drewN ?_ _ | refine blk_drew ?_ | refine blk_alloc ?_ _)); exact BK291.out⟩, ⟨bel_⟩⟩
                         ·rw [if_neg c34] at H
                          have c34b0 : ((rdOf ByteArray.empty (rd_L1 l0 (ji30)) x5_2).toList == (rdOf ByteArray.empty (rd_L1 l0 x4_1) x5_2).toList) = false := beq_eq_false_iff_ne.mpr c34
                          have c34b1 : ((rdOf ByteArray.empty (rd_L1 l0 (ji30)) x5_2).toList != (rdOf ByteArray.empty (rd_L1 l0 x4_1) x5_2).toList) = true := bne_iff_ne.mpr c34
                          by_cases c36 : x3_2.length < 2932031007402
                          ·rw [if_pos c36] at H
                           have LMc36 := Aside0.mk c36
                           clear c36
                           obtain ⟨y297, hy297⟩ : ∃ y_ : List (S28), y_ = (x3_2 ++ [(⟨(rdOf ByteArray.empty (rd_L1 l0 x4_1) x5_2), x4_1, x5_2, x292003_5, x292004_16⟩ : S28)]) := ⟨_, rfl⟩
                           replace H : (parterreref08_Rects.l1 k5 l0 y297 x4_1 (wrap64 (x5_2 + 1))) = some r := by first | (rw [hy297]; with_reducible exact H) | (have H2_ := (Option.bind_some _ _).symm.trans H; rw [hy297]; with_reducible exact H2_) | (have H2_ := (Option.bind_some _ _).symm.trans H; with_reducible exact H2_) | with_reducible exact H | (rw [hy297]; exact H) | exact H
                           have Ny297 := Aside0.mk hy297
                           clear hy297
                           have H' := Aside0.mk H
                           clear H
                           have hcz37_0 : wr.cell? ⟨gb291, 0, none⟩ = some (.string (rdOf ByteArray.empty (rd_L1 l0 x4_1) x5_2)) := (blk_cell BK291.out 0).trans rfl
                           have hcz37_1 : wr.cell? ⟨gb291, 1, none⟩ = some (.int .i64 x4_1) := (blk_cell BK291.out 1).trans rfl
                           have hcz37_2 : wr.cell? ⟨gb291, 2, none⟩ = some (.int .i64 x5_2) := (blk_cell BK291.out 2).trans rfl
                           have hcz37_3 : wr.cell? ⟨gb291, 3, none⟩ = some (.int .i64 x292003_5) := (blk_cell BK291.out 3).trans rfl
                           have hcz37_4 : wr.cell? ⟨gb291, 4, none⟩ = some (.int .i64 x292004_16) := (blk_cell BK291.out 4).trans rfl
                           have hfz37_0 := blk_frozen BK291.out 0
                           have hfz37_1 := blk_frozen BK291.out 1
                           have hfz37_2 := blk_frozen BK291.out 2
                           have hfz37_3 := blk_frozen BK291.out 3
                           have hfz37_4 := blk_frozen BK291.out 4
                           have p295 : 0 ≤ ((ji30) : Int) := of_decide_eq_true (by first | (with_reducible assumption) | assumption)
                           have q295 : (ji30) < (l0.length : Int) := of_decide_eq_true (by first | (with_reducible assumption) | assumption)
                           obtain ⟨ad295, A295_0, c295_0, e295, hx295_0, hl295_0, hi295_0⟩ := at_L1 HR0.out (ji30) p295 q295
                           obtain rfl : ad285 = ad295 := (by injection e295)
                           replace hx295_0 := (HB.out.cell (World.block_lt_of_cell? w _ hx295_0)).trans hx295_0
                           have HR295_0 := Aside0.mk hi295_0
                           have HC295_0 := Aside0.mk hl295_0
                           clear hi295_0 hl295_0
                           replace p295 := eq_true p295
                           replace q295 := eq_true q295
                           have p296 : 0 ≤ (x5_2 : Int) := of_decide_eq_true (by first | (with_reducible assumption) | assumption)
                           have q296 : x5_2 < ((rd_L1 l0 (ji30)).length : Int) := of_decide_eq_true (by first | (with_reducible assumption) | assumption)
                           obtain ⟨ad296, e296, hx296_0⟩ := Kd.at_string HR295_0.out x5_2 p296 q296
                           cases e296
                           replace hx296_0 := (HB.out.cell (World.block_lt_of_cell? w _ hx296_0)).trans hx296_0
                           replace p296 := eq_true p296
                           replace q296 := eq_true q296
                           go_wp2_with (first | ((with_reducible refine gate_builtin (b := .append) (xs := #[.tmp 105, .tmp 107]) rfl ?_); at_builtin; refine Kd.R_append k28 (w0 := w) w.heap.size rfl (.tmp 105) (.tmp 107) 25 28 (.agg #[(.string ⟨#[]⟩), (.int .i64 0), (.int .i64 0), (.int .i64 0), (.int .i64 0)]) 48 rfl Tryz.underlying25 info28 rfl (by decide) (by omega) u3 x3_2 (⟨(rdOf ByteArray.empty (rd_L1 l0 x4_1) x5_2), x4_1, x5_2, x292003_5, x292004_16⟩ : S28) [.string (rdOf ByteArray.empty (rd_L1 l0 x4_1) x5_2), .int .i64 x4_1, .int .i64 x5_2, .int .i64 x292003_5, .int .i64 x292004_16] (fun k_ => k_ ≠ gb291) (fun _ => False) rfl rfl ?aP (fun _ hk => hk.elim) ?aF ?aO ?aB ?aS ?aL ?_; (case aP => exact k28_mkM _ _ _ (⟨(rdOf ByteArray.empty (rd_L1 l0 x4_1) x5_2), x4_1, x5_2, x292003_5, x292004_16⟩ : S28)); (case aB => exact bel_); (case aF => exact (fun k_ hk => Kd.freshB (g := gb291) (o := .cells #[.string (rdOf ByteArray.empty (rd_L1 l0 x4_1) x5_2), .int .i64 x4_1, .int .i64 x5_2, .int .i64 x292003_5, .int .i64 x292004_16] 28 (0, 0)) blk_ k_ hk)); (case aO => exact (by (with_reducible repeat (first | apply Kd.R_alloc | apply Kd.R_drewN | apply Kd.R_drew)); exact HO_3.out)); (case aS => exact (below_size bel_)); (case aL => have := LMc36.out; omega); intro v298 w38 ho hb hg hat; rw [← Ny297.out] at ho; have n0_ := Aside0.mk (blk_grown (g := gb291) (o := .cells #[.string (rdOf ByteArray.empty (rd_L1 l0 x4_1) x5_2), .int .i64 x4_1, .int .i64 x5_2, .int .i64 x292003_5, .int .i64 x292004_16] 28 (0, 0)) blk_ hg (Kd.R_away HO_3.out (fun _ hk => hk))); have n1_ := Aside0.mk (hb); have n2_ := Aside0.mk (ho); clear BK291; clear HB; clear HO_3; have BK291 := n0_; have HB := n1_; have HO299 := n2_; clear n0_ n1_ n2_; clear ho hb hg hat))
                           repeat (go_quiet (first | ((with_reducible refine gate_builtin (b := .append) (xs := #[.tmp 105, .tmp 107]) rfl ?_); at_builtin; refine Kd.R_append k28 (w0 := w) w.heap.size rfl (.tmp 105) (.tmp 107) 25 28 (.agg #[(.string ⟨#[]⟩), (.int .i64 0), (.int .i64 0), (.int .i64 0), (.int .i64 0)]) 48 rfl Tryz.underlying25 info28 rfl (by decide) (by omega) u3 x3_2 (⟨(rdOf ByteArray.empty (rd_L1 l0 x4_1) x5_2), x4_1, x5_2, x292003_5, x292004_16⟩ : S28) [.string (rdOf ByteArray.empty (rd_L1 l0 x4_1) x5_2), .int .i64 x4_1, .int .i64 x5_2, .int .i64 x292003_5, .int .i64 x292004_16] (fun k_ => k_ ≠ gb291) (fun _ => False) rfl rfl ?aP (fun _ hk => hk.elim) ?aF ?aO ?aB ?aS ?aL ?_; (case aP => exact k28_mkM _ _ _ (⟨(rdOf ByteArray.empty (rd_L1 l0 x4_1) x5_2), x4_1, x5_2, x292003_5, x292004_16⟩ : S28)); (case aB => exact bel_); (case aF => exact (fun k_ hk => Kd.freshB (g := gb291) (o := .cells #[.string (rdOf ByteArray.empty (rd_L1 l0 x4_1) x5_2), .int .i64 x4_1, .int .i64 x5_2, .int .i64 x292003_5, .int .i64 x292004_16] 28 (0, 0)) blk_ k_ hk)); (case aO => exact (by (with_reducible repeat (first | apply Kd.R_alloc | apply Kd.R_drewN | apply Kd.R_drew)); exact HO_3.out)); (case aS => exact (below_size bel_)); (case aL => have := LMc36.out; omega); intro v298 w38 ho hb hg hat; rw [← Ny297.out] at ho; have n0_ := Aside0.mk (blk_grown (g := gb291) (o := .cells #[.string (rdOf ByteArray.empty (rd_L1 l0 x4_1) x5_2), .int .i64 x4_1, .int .i64 x5_2, .int .i64 x292003_5, .int .i64 x292004_16] 28 (0, 0)) blk_ hg (Kd.R_away HO_3.out (fun _ hk => hk))); have n1_ := Aside0.mk (hb); have n2_ := Aside0.mk (ho); clear BK291; clear HB; clear HO_3; have BK291 := n0_; have HB := n1_; have HO299 := n2_; clear n0_ n1_ n2_; clear ho hb hg hat)); try go_wp2_with (first | ((with_reducible refine gate_builtin (b := .append) (xs := #[.tmp 105, .tmp 107]) rfl ?_); at_builtin; refine Kd.R_append k28 (w0 := w) w.heap.size rfl (.tmp 105) (.tmp 107) 25 28 (.agg #[(.string ⟨#[]⟩), (.int .i64 0), (.int .i64 0), (.int .i64 0), (.int .i64 0)]) 48 rfl Tryz.underlying25 info28 rfl (by decide) (by omega) u3 x3_2 (⟨(rdOf ByteArray.empty (rd_L1 l0 x4_1) x5_2), x4_1, x5_2, x292003_5, x292004_16⟩ : S28) [.string (rdOf ByteArray.empty (rd_L1 l0 x4_1) x5_2), .int .i64 x4_1, .int .i64 x5_2, .int .i64 x292003_5, .int .i64 x292004_16] (fun k_ => k_ ≠ gb291) (fun _ => False) rfl rfl ?aP (fun _ hk => hk.elim) ?aF ?aO ?aB ?aS ?aL ?_; (case aP => exact k28_mkM _ _ _ (⟨(rdOf ByteArray.empty (rd_L1 l0 x4_1) x5_2), x4_1, x5_2, x292003_5, x292004_16⟩ : S28)); (case aB => exact bel_); (case aF => exact (fun k_ hk => Kd.freshB (g := gb291) (o := .cells #[.string (rdOf ByteArray.empty (rd_L1 l0 x4_1) x5_2), .int .i64 x4_1, .int .i64 x5_2, .int .i64 x292003_5, .int .i64 x292004_16] 28 (0, 0)) blk_ k_ hk)); (case aO => exact (by (with_reducible repeat (first | apply Kd.R_alloc | apply Kd.R_drewN | apply Kd.R_drew)); exact HO_3.out)); (case aS => exact (below_size bel_)); (case aL => have := LMc36.out; omega); intro v298 w38 ho hb hg hat; rw [← Ny297.out] at ho; have n0_ := Aside0.mk (blk_grown (g := gb291) (o := .cells #[.string (rdOf ByteArray.empty (rd_L1 l0 x4_1) x5_2), .int .i64 x4_1, .int .i64 x5_2, .int .i64 x292003_5, .int .i64 x292004_16] 28 (0, 0)) blk_ hg (Kd.R_away HO_3.out (fun _ hk => hk))); have n1_ := Aside0.mk (hb); have n2_ := Aside0.mk (ho); clear BK291; clear HB; clear HO_3; have BK291 := n0_; have HB := n1_; have HO299 := n2_; clear n0_ n1_ n2_; clear ho hb hg hat)))
                           go_roundg k5
                           case measure => have := HK1.out; have := HK2.out; have := HJ7.out; have := HJ16.out; have := HK5.out; omega
                           case rel => exact ⟨(y297), (wrap64 (x5_2 + 1)), rfs_, H', ⟨by have := HK1.out; have := HK2.out; have := HJ7.out; have := HJ16.out; have := HK5.out; omega⟩, ⟨by (with_reducible repeat (first | apply Kd.R_alloc | apply Kd.R_drewN | apply Kd.R_drew)); exact Kd.R_mono HO299.out (fun _ hk => trivial)⟩, ⟨bel_⟩⟩
                          ·rw [if_neg c36] at H
                           exact absurd H (by simp)
                        ·rw [if_neg c33] at H
                         exact absurd H (by simp)
                       ·rw [if_neg c32] at H
                        exact absurd H (by simp)
                      ·rw [if_neg c31] at H
                       exact absurd H (by simp)
                     ·rw [if_neg c29] at H
                      have c29b0 : decide ((wrap64 (x4_1 + x292003_5)) < (l0.length : Int)) = false := decide_eq_false c29
                      clear c29
                      by_cases c39 : x3_2.length < 2932031007402
                      ·rw [if_pos c39] at H
                       have LMc39 := Aside0.mk c39
                       clear c39
                       obtain ⟨y300, hy300⟩ : ∃ y_ : List (S28), y_ = (x3_2 ++ [(⟨(rdOf ByteArray.empty (rd_L1 l0 x4_1) x5_2), x4_1, x5_2, x292003_5, x292004_16⟩ : S28)]) := ⟨_, rfl⟩
                       replace H : (parterreref08_Rects.l1 k5 l0 y300 x4_1 (wrap64 (x5_2 + 1))) = some r := by first | (rw [hy300]; with_reducible exact H) | (have H2_ := (Option.bind_some _ _).symm.trans H; rw [hy300]; with_reducible exact H2_) | (have H2_ := (Option.bind_some _ _).symm.trans H; with_reducible exact H2_) | with_reducible exact H | (rw [hy300]; exact H) | exact H
                       have Ny300 := Aside0.mk hy300
                       clear hy300
                       have H' := Aside0.mk H
                       clear H
                       have hcz40_0 : wr.cell? ⟨gb291, 0, none⟩ = some (.string (rdOf ByteArray.empty (rd_L1 l0 x4_1) x5_2)) := (blk_cell BK291.out 0).trans rfl
                       have hcz40_1 : wr.cell? ⟨gb291, 1, none⟩ = some (.int .i64 x4_1) := (blk_cell BK291.out 1).trans rfl
                       have hcz40_2 : wr.cell? ⟨gb291, 2, none⟩ = some (.int .i64 x5_2) := (blk_cell BK291.out 2).trans rfl
                       have hcz40_3 : wr.cell? ⟨gb291, 3, none⟩ = some (.int .i64 x292003_5) := (blk_cell BK291.out 3).trans rfl
                       have hcz40_4 : wr.cell? ⟨gb291, 4, none⟩ = some (.int .i64 x292004_16) := (blk_cell BK291.out 4).trans rfl
                       have hfz40_0 := blk_frozen BK291.out 0
                       have hfz40_1 := blk_frozen BK291.out 1
                       have hfz40_2 := blk_frozen BK291.out 2
                       have hfz40_3 := blk_frozen BK291.out 3
                       have hfz40_4 := blk_frozen BK291.out 4
                       go_wp2_with (first | ((with_reducible refine gate_builtin (b := .append) (xs := #[.tmp 105, .tmp 107]) rfl ?_); at_builtin; refine Kd.R_append k28 (w0 := w) w.heap.size rfl (.tmp 105) (.tmp 107) 25 28 (.agg #[(.string ⟨#[]⟩), (.int .i64 0), (.int .i64 0), (.int .i64 0), (.int .i64 0)]) 48 rfl Tryz.underlying25 info28 rfl (by decide) (by omega) u3 x3_2 (⟨(rdOf ByteArray.empty (rd_L1 l0 x4_1) x5_2), x4_1, x5_2, x292003_5, x292004_16⟩ : S28) [.string (rdOf ByteArray.empty (rd_L1 l0 x4_1) x5_2), .int .i64 x4_1, .int .i64 x5_2, .int .i64 x292003_5, .int .i64 x292004_16] (fun k_ => k_ ≠ gb291) (fun _ => False) rfl rfl ?aP (fun _ hk => hk.elim) ?aF ?aO ?aB ?aS ?aL ?_; (case aP => exact k28_mkM _ _ _ (⟨(rdOf ByteArray.empty (rd_L1 l0 x4_1) x5_2), x4_1, x5_2, x292003_5, x292004_16⟩ : S28)); (case aB => exact bel_); (case aF => exact (fun k_ hk => Kd.freshB (g := gb291) (o := .cells #[.string (rdOf ByteArray.empty (rd_L1 l0 x4_1) x5_2), .int .i64 x4_1, .int .i64 x5_2, .int .i64 x292003_5, .int .i64 x292004_16] 28 (0, 0)) blk_ k_ hk)); (case aO => exact (by (with_reducible repeat (first | apply Kd.R_alloc | apply Kd.R_drewN | apply Kd.R_drew)); exact HO_3.out)); (case aS => exact (below_size bel_)); (case aL => have := LMc39.out; omega); intro v301 w41 ho hb hg hat; rw [← Ny300.out] at ho; have n0_ := Aside0.mk (blk_grown (g := gb291) (o := .cells #[.string (rdOf ByteArray.empty (rd_L1 l0 x4_1) x5_2), .int .i64 x4_1, .int .i64 x5_2, .int .i64 x292003_5, .int .i64 x292004_16] 28 (0, 0)) blk_ hg (Kd.R_away HO_3.out (fun _ hk => hk))); have n1_ := Aside0.mk (hb); have n2_ := Aside0.mk (ho); clear BK291; clear HB; clear HO_3; have BK291 := n0_; have HB := n1_; have HO302 := n2_; clear n0_ n1_ n2_; clear ho hb hg hat))
                       repeat (go_quiet (first | ((with_reducible refine gate_builtin (b := .append) (xs := #[.tmp 105, .tmp 107]) rfl ?_); at_builtin; refine Kd.R_append k28 (w0 := w) w.heap.size rfl (.tmp 105) (.tmp 107) 25 28 (.agg #[(.string ⟨#[]⟩), (.int .i64 0), (.int .i64 0), (.int .i64 0), (.int .i64 0)]) 48 rfl Tryz.underlying25 info28 rfl (by decide) (by omega) u3 x3_2 (⟨(rdOf ByteArray.empty (rd_L1 l0 x4_1) x5_2), x4_1, x5_2, x292003_5, x292004_16⟩ : S28) [.string (rdOf ByteArray.empty (rd_L1 l0 x4_1) x5_2), .int .i64 x4_1, .int .i64 x5_2, .int .i64 x292003_5, .int .i64 x292004_16] (fun k_ => k_ ≠ gb291) (fun _ => False) rfl rfl ?aP (fun _ hk => hk.elim) ?aF ?aO ?aB ?aS ?aL ?_; (case aP => exact k28_mkM _ _ _ (⟨(rdOf ByteArray.empty (rd_L1 l0 x4_1) x5_2), x4_1, x5_2, x292003_5, x292004_16⟩ : S28)); (case aB => exact bel_); (case aF => exact (fun k_ hk => Kd.freshB (g := gb291) (o := .cells #[.string (rdOf ByteArray.empty (rd_L1 l0 x4_1) x5_2), .int .i64 x4_1, .int .i64 x5_2, .int .i64 x292003_5, .int .i64 x292004_16] 28 (0, 0)) blk_ k_ hk)); (case aO => exact (by (with_reducible repeat (first | apply Kd.R_alloc | apply Kd.R_drewN | apply Kd.R_drew)); exact HO_3.out)); (case aS => exact (below_size bel_)); (case aL => have := LMc39.out; omega); intro v301 w41 ho hb hg hat; rw [← Ny300.out] at ho; have n0_ := Aside0.mk (blk_grown (g := gb291) (o := .cells #[.string (rdOf ByteArray.empty (rd_L1 l0 x4_1) x5_2), .int .i64 x4_1, .int .i64 x5_2, .int .i64 x292003_5, .int .i64 x292004_16] 28 (0, 0)) blk_ hg (Kd.R_away HO_3.out (fun _ hk => hk))); have n1_ := Aside0.mk (hb); have n2_ := Aside0.mk (ho); clear BK291; clear HB; clear HO_3; have BK291 := n0_; have HB := n1_; have HO302 := n2_; clear n0_ n1_ n2_; clear ho hb hg hat)); try go_wp2_with (first | ((with_reducible refine gate_builtin (b := .append) (xs := #[.tmp 105, .tmp 107]) rfl ?_); at_builtin; refine Kd.R_append k28 (w0 := w) w.heap.size rfl (.tmp 105) (.tmp 107) 25 28 (.agg #[(.string ⟨#[]⟩), (.int .i64 0), (.int .i64 0), (.int .i64 0), (.int .i64 0)]) 48 rfl Tryz.underlying25 info28 rfl (by decide) (by omega) u3 x3_2 (⟨(rdOf ByteArray.empty (rd_L1 l0 x4_1) x5_2), x4_1, x5_2, x292003_5, x292004_16⟩ : S28) [.string (rdOf ByteArray.empty (rd_L1 l0 x4_1) x5_2), .int .i64 x4_1, .int .i64 x5_2, .int .i64 x292003_5, .int .i64 x292004_16] (fun k_ => k_ ≠ gb291) (fun _ => False) rfl rfl ?aP (fun _ hk => hk.elim) ?aF ?aO ?aB ?aS ?aL ?_; (case aP => exact k28_mkM _ _ _ (⟨(rdOf ByteArray.empty (rd_L1 l0 x4_1) x5_2), x4_1, x5_2, x292003_5, x292004_16⟩ : S28)); (case aB => exact bel_); (case aF => exact (fun k_ hk => Kd.freshB (g := gb291) (o := .cells #[.string (rdOf ByteArray.empty (rd_L1 l0 x4_1) x5_2), .int .i64 x4_1, .int .i64 x5_2, .int .i64 x292003_5, .int .i64 x292004_16] 28 (0, 0)) blk_ k_ hk)); (case aO => exact (by (with_reducible repeat (first | apply Kd.R_alloc | apply Kd.R_drewN | apply Kd.R_drew)); exact HO_3.out)); (case aS => exact (below_size bel_)); (case aL => have := LMc39.out; omega); intro v301 w41 ho hb hg hat; rw [← Ny300.out] at ho; have n0_ := Aside0.mk (blk_grown (g := gb291) (o := .cells #[.string (rdOf ByteArray.empty (rd_L1 l0 x4_1) x5_2), .int .i64 x4_1, .int .i64 x5_2, .int .i64 x292003_5, .int .i64 x292004_16] 28 (0, 0)) blk_ hg (Kd.R_away HO_3.out (fun _ hk => hk))); have n1_ := Aside0.mk (hb); have n2_ := Aside0.mk (ho); clear BK291; clear HB; clear HO_3; have BK291 := n0_; have HB := n1_; have HO302 := n2_; clear n0_ n1_ n2_; clear ho hb hg hat)))
                       go_roundg k5
                       case measure => have := HK1.out; have := HK2.out; have := HJ7.out; have := HJ16.out; have := HK5.out; omega
                       case rel => exact ⟨(y300), (wrap64 (x5_2 + 1)), rfs_, H', ⟨by have := HK1.out; have := HK2.out; have := HJ7.out; have := HJ16.out; have := HK5.out; omega⟩, ⟨by (with_reducible repeat (first | apply Kd.R_alloc | apply Kd.R_drewN | apply Kd.R_drew)); exact Kd.R_mono HO302.out (fun _ hk => trivial)⟩, ⟨bel_⟩⟩
                      ·rw [if_neg c39] at H
                       exact absurd H (by simp)
                ·rw [if_neg c16] at H
                 exact absurd H (by simp)
               ·rw [if_neg c15] at H
                exact absurd H (by simp)
              ·rw [if_neg c14] at H
               exact absurd H (by simp)
             ·rw [if_neg c13] at H
              exact absurd H (by simp)
         ·rw [if_neg c7] at H
          have c7b0 : decide (x5_2 < ((rd_L1 l0 x4_1).length : Int)) = false := decide_eq_false c7
          clear c7
          have H' := Aside0.mk H
          clear H
          have p285 : 0 ≤ (x4_1 : Int) := of_decide_eq_true (by first | (with_reducible assumption) | assumption)
          have q285 : x4_1 < (l0.length : Int) := of_decide_eq_true (by first | (with_reducible assumption) | assumption)
          obtain ⟨ad285, A285_0, c285_0, e285, hx285_0, hl285_0, hi285_0⟩ := at_L1 HR0.out x4_1 p285 q285
          cases e285
          replace hx285_0 := (HB.out.cell (World.block_lt_of_cell? w _ hx285_0)).trans hx285_0
          have HR285_0 := Aside0.mk hi285_0
          have HC285_0 := Aside0.mk hl285_0
          clear hi285_0 hl285_0
          replace p285 := eq_true p285
          replace q285 := eq_true q285
          go_wp2
          repeat (go_quiet (fail); try go_wp2)
          go_roundg k2
          case measure => have := HK1.out; have := HK2.out; omega
          case rel => exact ⟨(x3_2), (wrap64 (x4_1 + 1)), rfs_, H', ⟨by have := HK1.out; have := HK2.out; omega⟩, ⟨by (with_reducible repeat (first | apply Kd.R_alloc | apply Kd.R_drewN | apply Kd.R_drew)); exact HO_3.out⟩, ⟨bel_⟩⟩
        ·rw [if_neg c6] at H
         exact absurd H (by simp)
       ·rw [if_neg c5] at H
        exact absurd H (by simp)
    ·rw [if_neg c4] at H
     have c4b0 : decide (x4_1 < (l0.length : Int)) = false := decide_eq_false c4
     clear c4
     obtain rfl := Option.some.inj H
     go_wp2
     repeat (go_quiet (fail); try go_wp2)
     go_ret
     exact ⟨_, rsl_, by (with_reducible repeat (first | apply Kd.R_alloc | apply Kd.R_drewN | apply Kd.R_drew)); exact HO_3.out, bel_⟩
 ·replace c3 := Bool.eq_false_iff.mpr c3
  subst c3
  rw [if_neg (show ¬ (false = true) by decide)] at H
  obtain rfl := Option.some.inj H
  go_enter Tryz.func8, Tryz.ntmps8
  go_wp2_with (first | (go_at_call 10; (with_reducible refine (parterreref08_Good.calls k _ _ l0 false _ ?side1 ?side2 A2.out).mono ?_); (case side1 => repeat (first | exact HR0.out | (with_reducible refine Kd.C_alloc ?_ _) | (with_reducible refine Kd.C_drewN ?_ _) | (with_reducible refine Kd.C_drew ?_))); (case side2 => exact HC0.out); rintro e w' ⟨rfl, ⟨nd, rfl⟩⟩; (try first | exact ⟨rfl, _, World.drewN_drewN _ _ _⟩ | exact ⟨rfl, _, Eq.trans (World.drewN_drewN _ _ _) (congrArg (World.drewN _) (Nat.add_assoc _ _ _))⟩)))
  repeat (go_quiet (first | (go_at_call 10; (with_reducible refine (parterreref08_Good.calls k _ _ l0 false _ ?side1 ?side2 A2.out).mono ?_); (case side1 => repeat (first | exact HR0.out | (with_reducible refine Kd.C_alloc ?_ _) | (with_reducible refine Kd.C_drewN ?_ _) | (with_reducible refine Kd.C_drew ?_))); (case side2 => exact HC0.out); rintro e w' ⟨rfl, ⟨nd, rfl⟩⟩; (try first | exact ⟨rfl, _, World.drewN_drewN _ _ _⟩ | exact ⟨rfl, _, Eq.trans (World.drewN_drewN _ _ _) (congrArg (World.drewN _) (Nat.add_assoc _ _ _))⟩))); try go_wp2_with (first | (go_at_call 10; (with_reducible refine (parterreref08_Good.calls k _ _ l0 false _ ?side1 ?side2 A2.out).mono ?_); (case side1 => repeat (first | exact HR0.out | (with_reducible refine Kd.C_alloc ?_ _) | (with_reducible refine Kd.C_drewN ?_ _) | (with_reducible refine Kd.C_drew ?_))); (case side2 => exact HC0.out); rintro e w' ⟨rfl, ⟨nd, rfl⟩⟩; (try first | exact ⟨rfl, _, World.drewN_drewN _ _ _⟩ | exact ⟨rfl, _, Eq.trans (World.drewN_drewN _ _ _) (congrArg (World.drewN _) (Nat.add_assoc _ _ _))⟩))))
  go_ret
  exact ⟨_, rsl_, by first | exact Kd.R_nil _ _ _ _ _ | exact Kd.N_nil _ _ _ _ _ | exact Kd.V_nil _ _ _ _ _ | exact Kd.Q_nil _ _ _ _ _ | exact Kd.S_nil _ _ _ _ _, bel_⟩

end Go.Proofs.YtofdhdafabmhmaaGreatDoor.PAr
end
