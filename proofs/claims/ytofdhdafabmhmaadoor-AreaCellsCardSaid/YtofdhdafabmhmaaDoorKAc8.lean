/- AreaCellsCardSaid, part 9 of 11: contracts of the program's functions, the words that they use, and the plain laws on what they compute. Conditions: none beyond what the statements say. -/
import Derived.Test.YtofdhdafabmhmaaDoorKAc1
import Derived.Test.YtofdhdafabmhmaaDoorKAc2
import Derived.Test.YtofdhdafabmhmaaDoorKAc7
set_option linter.unusedVariables false
set_option linter.unusedSimpArgs false
section
namespace Go.Proofs.YtofdhdafabmhmaaDoor.PAr
open Go.RowKit Go.Proofs.YtofdhdafabmhmaaDoorW.PrintWords Go.Proofs.YtofdhdafabmhmaaDoorW.PrintLast Go.Proofs.YtofdhdafabmhmaaDoorW.PrintMore
attribute [local go_sem] max2_int min2_int max_two min_two max_three min_three max_four min_four
open Go.Proofs.YtofdhdafabmhmaaDoor.Opn Go.Proofs.YtofdhdafabmhmaaDoor.Giv

/-! ### parterreref08_Same: function 11 -/
mutual
def parterreref08_Same.l0 : Nat → List (List ByteArray) → List (List ByteArray) → Int → Option (Bool)
 | 0, _, _, _ => none
 | k + 1, x0, x1, x5 => if x5 < (x0.length : Int) then (if 0 ≤ x5 then (if x5 < (x1.length : Int) then (if ((rd_L1 x0 x5).length : Int) = ((rd_L1 x1 x5).length : Int) then (parterreref08_Same.l1 k x0 x1 x5 0) else (some false)) else (none)) else (none)) else (some true)
def parterreref08_Same.l1 : Nat → List (List ByteArray) → List (List ByteArray) → Int → Int → Option (Bool)
 | 0, _, _, _, _ => none
 | k + 1, x0, x1, x5, x6 => if 0 ≤ x5 then (if x5 < (x0.length : Int) then (if x6 < ((rd_L1 x0 x5).length : Int) then (if 0 ≤ x6 then (if x5 < (x1.length : Int) then (if x6 < ((rd_L1 x1 x5).length : Int) then (if (rdOf ByteArray.empty (rd_L1 x0 x5) x6).toList = (rdOf ByteArray.empty (rd_L1 x1 x5) x6).toList then (parterreref08_Same.l1 k x0 x1 x5 (wrap64 (x6 + 1))) else (some false)) else (none)) else (none)) else (none)) else (parterreref08_Same.l0 k x0 x1 (wrap64 (x5 + 1)))) else (none)) else (none)
end
def parterreref08_Same.f (k : Nat) (l0 : List (List ByteArray)) (l1 : List (List ByteArray)) : Option (Bool) := if (l0.length : Int) = (l1.length : Int) then (parterreref08_Same.l0 k l0 l1 0) else (some false)
theorem parterreref08_Same.mono_l : ∀ k, (∀ y0 y1 y2, LeO (parterreref08_Same.l0 k y0 y1 y2) (parterreref08_Same.l0 (k + 1) y0 y1 y2)) ∧ (∀ y0 y1 y2 y3, LeO (parterreref08_Same.l1 k y0 y1 y2 y3) (parterreref08_Same.l1 (k + 1) y0 y1 y2 y3))
 | 0 => ⟨fun _ _ _ r h => by simp [parterreref08_Same.l0] at h, fun _ _ _ _ r h => by simp [parterreref08_Same.l1] at h⟩
 | k + 1 => by
  obtain ⟨ih0, ih1⟩ := parterreref08_Same.mono_l k
  refine ⟨?_, ?_⟩
  ·intro y0 y1 y2
   unfold parterreref08_Same.l0
   repeat' first
   | (with_reducible exact ih0 _ _ _)
   | (with_reducible exact ih1 _ _ _ _)
   | (with_reducible exact LeO.refl _)
   | (with_reducible exact LeO.none _)
   | (with_reducible refine LeO.ite ?_ ?_)
   | (with_reducible refine LeO.bind ?_ (fun _ => ?_))
  ·intro y0 y1 y2 y3
   unfold parterreref08_Same.l1
   repeat' first
   | (with_reducible exact ih0 _ _ _)
   | (with_reducible exact ih1 _ _ _ _)
   | (with_reducible exact LeO.refl _)
   | (with_reducible exact LeO.none _)
   | (with_reducible refine LeO.ite ?_ ?_)
   | (with_reducible refine LeO.bind ?_ (fun _ => ?_))
theorem parterreref08_Same.mono : ∀ a0 a1 k, LeO (parterreref08_Same.f k a0 a1) (parterreref08_Same.f (k + 1) a0 a1) := by
 intro a0 a1 k
 obtain ⟨ih0, ih1⟩ := parterreref08_Same.mono_l k
 unfold parterreref08_Same.f
 repeat' first
   | (with_reducible exact ih0 _ _ _)
   | (with_reducible exact ih1 _ _ _ _)
   | (with_reducible exact LeO.refl _)
   | (with_reducible exact LeO.none _)
   | (with_reducible refine LeO.ite ?_ ?_)
   | (with_reducible refine LeO.bind ?_ (fun _ => ?_))
set_option maxHeartbeats 8000000 in
set_option maxRecDepth 100000 in
theorem parterreref08_Same.calls (k : Nat) (A0 : Option Addr) (c0 : Nat) (l0 : List (List ByteArray)) (A1 : Option Addr) (c1 : Nat) (l1 : List (List ByteArray)) (r : Bool) (w : World) (hr0 : Kd.C (Kd.slice 9 Kd.string) w A0 l0.length l0) (hc0 : l0.length ≤ c0) (hr1 : Kd.C (Kd.slice 9 Kd.string) w A1 l1.length l1) (hc1 : l1.length ≤ c1) (h : parterreref08_Same.f k l0 l1 = some r) :
  Calls Tryd.prog 11 #[.slice A0 l0.length c0, .slice A1 l1.length c1] w fun e w' => e = .returned (.bool r) ∧ Drawn0 w w' := by
 have HR0 := Aside0.mk hr0
 have HC0 := Aside0.mk hc0
 clear hr0 hc0
 have HR1 := Aside0.mk hr1
 have HC1 := Aside0.mk hc1
 clear hr1 hc1
 have H : (if (l0.length : Int) = (l1.length : Int) then (parterreref08_Same.l0 k l0 l1 0) else (some false)) = some r := h
 clear h
 by_cases c3 : (l0.length : Int) = (l1.length : Int)
 ·rw [if_pos c3] at H
  have c3b0 : ((l0.length : Int) == (l1.length : Int)) = true := beq_iff_eq.mpr c3
  have c3b1 : ((l0.length : Int) != (l1.length : Int)) = false := bne_eq_false_iff_eq.mpr c3
  have c3b2 : (l0.length == l1.length) = true := by first | simpa using c3 | (simp at c3 ⊢; omega)
  clear c3
  have H' := Aside0.mk H
  clear H
  go_enter Tryd.func11, Tryd.ntmps11
  go_wp2
  repeat (go_quiet (fail); try go_wp2)
  go_loopg [5] k (fun kq v5 w' => ∃ (x5_1 : Int), v5 = .int .i64 x5_1 ∧ Aside0 (parterreref08_Same.l0 kq l0 l1 x5_1 = some r) ∧ Aside0 (kq ≤ k) ∧ Drawn0 w w')
  case atStart => exact ⟨(0), rfs_, H', ⟨Nat.le_refl _⟩, drs_⟩
  case round =>
   clear H'
   try clear c1
   try clear p2
   try clear c3
   try clear c3b0
   try clear c3b1
   try clear c3b2
   obtain ⟨x5_1, rfl, HA, HK1, ⟨m1, rfl⟩⟩ := hrel
   cases gk with
   | zero => exact absurd HA.out (by simp [parterreref08_Same.l0])
   | succ k1 =>
    have H := HA.out
    clear HA
    simp only [parterreref08_Same.l0] at H
    by_cases c4 : x5_1 < (l0.length : Int)
    ·rw [if_pos c4] at H
     have c4b0 : decide (x5_1 < (l0.length : Int)) = true := decide_eq_true c4
     clear c4
     by_cases c5 : 0 ≤ x5_1
     ·rw [if_pos c5] at H
      have c5b0 : decide (0 ≤ x5_1) = true := decide_eq_true c5
      clear c5
      by_cases c6 : x5_1 < (l1.length : Int)
      ·rw [if_pos c6] at H
       have c6b0 : decide (x5_1 < (l1.length : Int)) = true := decide_eq_true c6
       clear c6
       by_cases c7 : ((rd_L1 l0 x5_1).length : Int) = ((rd_L1 l1 x5_1).length : Int)
       ·rw [if_pos c7] at H
        have c7b0 : (((rd_L1 l0 x5_1).length : Int) == ((rd_L1 l1 x5_1).length : Int)) = true := beq_iff_eq.mpr c7
        have c7b1 : (((rd_L1 l0 x5_1).length : Int) != ((rd_L1 l1 x5_1).length : Int)) = false := bne_eq_false_iff_eq.mpr c7
        have c7b2 : ((rd_L1 l0 x5_1).length == (rd_L1 l1 x5_1).length) = true := by first | simpa using c7 | (simp at c7 ⊢; omega)
        clear c7
        have H' := Aside0.mk H
        clear H
        have p263 : 0 ≤ (x5_1 : Int) := of_decide_eq_true (by first | (with_reducible assumption) | assumption)
        have q263 : x5_1 < (l0.length : Int) := of_decide_eq_true (by first | (with_reducible assumption) | assumption)
        obtain ⟨ad263, A263_0, c263_0, e263, hx263_0, hl263_0, hi263_0⟩ := at_L1 HR0.out x5_1 p263 q263
        cases e263
        have HR263_0 := Aside0.mk hi263_0
        have HC263_0 := Aside0.mk hl263_0
        clear hi263_0 hl263_0
        replace p263 := eq_true p263
        replace q263 := eq_true q263
        have p264 : 0 ≤ (x5_1 : Int) := of_decide_eq_true (by first | (with_reducible assumption) | assumption)
        have q264 : x5_1 < (l1.length : Int) := of_decide_eq_true (by first | (with_reducible assumption) | assumption)
        obtain ⟨ad264, A264_0, c264_0, e264, hx264_0, hl264_0, hi264_0⟩ := at_L1 HR1.out x5_1 p264 q264
        cases e264
        have HR264_0 := Aside0.mk hi264_0
        have HC264_0 := Aside0.mk hl264_0
        clear hi264_0 hl264_0
        replace p264 := eq_true p264
        replace q264 := eq_true q264
        go_wp2
        repeat (go_quiet (fail); try go_wp2)
        go_loopg [6] k1 (fun kq v6 w' => ∃ (x6_2 : Int), v6 = .int .i64 x6_2 ∧ Aside0 (parterreref08_Same.l1 kq l0 l1 x5_1 x6_2 = some r) ∧ Aside0 (kq ≤ k1) ∧ Drawn0 w w')
        case atStart => exact ⟨(0), rfs_, H', ⟨Nat.le_refl _⟩, drs_⟩
        case round =>
         clear H'
         try clear c1
         try clear c2
         try clear p2
         try clear q2
         try clear hx2
         try clear c3
         try clear c3b0
         try clear c3b1
         try clear c3b2
         try clear c4
         try clear c4b0
         try clear c5
         try clear c5b0
         try clear c6
         try clear c6b0
         try clear c7
         try clear c7b0
         try clear c7b1
         try clear c7b2
         try clear hx263_0
         try clear hx264_0
         try clear p2
         try clear p263
         try clear p264
         try clear q263
         try clear q264
         obtain ⟨x6_2, rfl, HA, HK2, ⟨m2, rfl⟩⟩ := hrel
         cases gk with
         | zero => exact absurd HA.out (by simp [parterreref08_Same.l1])
         | succ k2 =>
          have H := HA.out
          clear HA
          simp only [parterreref08_Same.l1] at H
          by_cases c8 : 0 ≤ x5_1
          ·rw [if_pos c8] at H
           have c8b0 : decide (0 ≤ x5_1) = true := decide_eq_true c8
           clear c8
           by_cases c9 : x5_1 < (l0.length : Int)
           ·rw [if_pos c9] at H
            have c9b0 : decide (x5_1 < (l0.length : Int)) = true := decide_eq_true c9
            clear c9
            by_cases c10 : x6_2 < ((rd_L1 l0 x5_1).length : Int)
            ·rw [if_pos c10] at H
             have c10b0 : decide (x6_2 < ((rd_L1 l0 x5_1).length : Int)) = true := decide_eq_true c10
             clear c10
             by_cases c11 : 0 ≤ x6_2
             ·rw [if_pos c11] at H
              have c11b0 : decide (0 ≤ x6_2) = true := decide_eq_true c11
              clear c11
              by_cases c12 : x5_1 < (l1.length : Int)
              ·rw [if_pos c12] at H
               have c12b0 : decide (x5_1 < (l1.length : Int)) = true := decide_eq_true c12
               clear c12
               by_cases c13 : x6_2 < ((rd_L1 l1 x5_1).length : Int)
               ·rw [if_pos c13] at H
                have c13b0 : decide (x6_2 < ((rd_L1 l1 x5_1).length : Int)) = true := decide_eq_true c13
                clear c13
                by_cases c14 : (rdOf ByteArray.empty (rd_L1 l0 x5_1) x6_2).toList = (rdOf ByteArray.empty (rd_L1 l1 x5_1) x6_2).toList
                ·rw [if_pos c14] at H
                 have c14b0 : ((rdOf ByteArray.empty (rd_L1 l0 x5_1) x6_2).toList == (rdOf ByteArray.empty (rd_L1 l1 x5_1) x6_2).toList) = true := beq_iff_eq.mpr c14
                 have c14b1 : ((rdOf ByteArray.empty (rd_L1 l0 x5_1) x6_2).toList != (rdOf ByteArray.empty (rd_L1 l1 x5_1) x6_2).toList) = false := bne_eq_false_iff_eq.mpr c14
                 clear c14
                 have H' := Aside0.mk H
                 clear H
                 have p265 : 0 ≤ (x5_1 : Int) := of_decide_eq_true (by first | (with_reducible assumption) | assumption)
                 have q265 : x5_1 < (l0.length : Int) := of_decide_eq_true (by first | (with_reducible assumption) | assumption)
                 obtain ⟨ad265, A265_0, c265_0, e265, hx265_0, hl265_0, hi265_0⟩ := at_L1 HR0.out x5_1 p265 q265
                 obtain rfl : ad263 = ad265 := (by injection e265)
                 have HR265_0 := Aside0.mk hi265_0
                 have HC265_0 := Aside0.mk hl265_0
                 clear hi265_0 hl265_0
                 replace p265 := eq_true p265
                 replace q265 := eq_true q265
                 have p266 : 0 ≤ (x5_1 : Int) := of_decide_eq_true (by first | (with_reducible assumption) | assumption)
                 have q266 : x5_1 < (l0.length : Int) := of_decide_eq_true (by first | (with_reducible assumption) | assumption)
                 obtain ⟨ad266, A266_0, c266_0, e266, hx266_0, hl266_0, hi266_0⟩ := at_L1 HR0.out x5_1 p266 q266
                 obtain rfl : ad263 = ad266 := (by injection e266)
                 have HR266_0 := Aside0.mk hi266_0
                 have HC266_0 := Aside0.mk hl266_0
                 clear hi266_0 hl266_0
                 replace p266 := eq_true p266
                 replace q266 := eq_true q266
                 have ea_ := Option.some.inj (hx265_0.symm.trans hx266_0)
                 injection ea_ with ea_ en_ ec_
                 subst ea_
                 subst ec_
                 clear en_
                 have p267 : 0 ≤ (x6_2 : Int) := of_decide_eq_true (by first | (with_reducible assumption) | assumption)
                 have q267 : x6_2 < ((rd_L1 l0 x5_1).length : Int) := of_decide_eq_true (by first | (with_reducible assumption) | assumption)
                 obtain ⟨ad267, e267, hx267_0⟩ := Kd.at_string HR266_0.out x6_2 p267 q267
                 cases e267
                 replace p267 := eq_true p267
                 replace q267 := eq_true q267
                 have p268 : 0 ≤ (x5_1 : Int) := of_decide_eq_true (by first | (with_reducible assumption) | assumption)
                 have q268 : x5_1 < (l1.length : Int) := of_decide_eq_true (by first | (with_reducible assumption) | assumption)
                 obtain ⟨ad268, A268_0, c268_0, e268, hx268_0, hl268_0, hi268_0⟩ := at_L1 HR1.out x5_1 p268 q268
                 obtain rfl : ad264 = ad268 := (by injection e268)
                 have HR268_0 := Aside0.mk hi268_0
                 have HC268_0 := Aside0.mk hl268_0
                 clear hi268_0 hl268_0
                 replace p268 := eq_true p268
                 replace q268 := eq_true q268
                 have p269 : 0 ≤ (x6_2 : Int) := of_decide_eq_true (by first | (with_reducible assumption) | assumption)
                 have q269 : x6_2 < ((rd_L1 l1 x5_1).length : Int) := of_decide_eq_true (by first | (with_reducible assumption) | assumption)
                 obtain ⟨ad269, e269, hx269_0⟩ := Kd.at_string HR268_0.out x6_2 p269 q269
                 cases e269
                 replace p269 := eq_true p269
                 replace q269 := eq_true q269
                 go_wp2
                 repeat (go_quiet (fail); try go_wp2)
                 go_roundg k2
                 case measure => have := HK1.out; have := HK2.out; omega
                 case rel => exact ⟨(wrap64 (x6_2 + 1)), rfs_, H', ⟨by have := HK1.out; have := HK2.out; omega⟩, drs_⟩
                ·rw [if_neg c14] at H
                 have c14b0 : ((rdOf ByteArray.empty (rd_L1 l0 x5_1) x6_2).toList == (rdOf ByteArray.empty (rd_L1 l1 x5_1) x6_2).toList) = false := beq_eq_false_iff_ne.mpr c14
                 have c14b1 : ((rdOf ByteArray.empty (rd_L1 l0 x5_1) x6_2).toList != (rdOf ByteArray.empty (rd_L1 l1 x5_1) x6_2).toList) = true := bne_iff_ne.mpr c14
                 obtain rfl := Option.some.inj H
                 have p265 : 0 ≤ (x5_1 : Int) := of_decide_eq_true (by first | (with_reducible assumption) | assumption)
                 have q265 : x5_1 < (l0.length : Int) := of_decide_eq_true (by first | (with_reducible assumption) | assumption)
                 obtain ⟨ad265, A265_0, c265_0, e265, hx265_0, hl265_0, hi265_0⟩ := at_L1 HR0.out x5_1 p265 q265
                 obtain rfl : ad263 = ad265 := (by injection e265)
                 have HR265_0 := Aside0.mk hi265_0
                 have HC265_0 := Aside0.mk hl265_0
                 clear hi265_0 hl265_0
                 replace p265 := eq_true p265
                 replace q265 := eq_true q265
                 have p266 : 0 ≤ (x5_1 : Int) := of_decide_eq_true (by first | (with_reducible assumption) | assumption)
                 have q266 : x5_1 < (l0.length : Int) := of_decide_eq_true (by first | (with_reducible assumption) | assumption)
                 obtain ⟨ad266, A266_0, c266_0, e266, hx266_0, hl266_0, hi266_0⟩ := at_L1 HR0.out x5_1 p266 q266
                 obtain rfl : ad263 = ad266 := (by injection e266)
                 have HR266_0 := Aside0.mk hi266_0
                 have HC266_0 := Aside0.mk hl266_0
                 clear hi266_0 hl266_0
                 replace p266 := eq_true p266
                 replace q266 := eq_true q266
                 have ea_ := Option.some.inj (hx265_0.symm.trans hx266_0)
                 injection ea_ with ea_ en_ ec_
                 subst ea_
                 subst ec_
                 clear en_
                 have p267 : 0 ≤ (x6_2 : Int) := of_decide_eq_true (by first | (with_reducible assumption) | assumption)
                 have q267 : x6_2 < ((rd_L1 l0 x5_1).length : Int) := of_decide_eq_true (by first | (with_reducible assumption) | assumption)
                 obtain ⟨ad267, e267, hx267_0⟩ := Kd.at_string HR266_0.out x6_2 p267 q267
                 cases e267
                 replace p267 := eq_true p267
                 replace q267 := eq_true q267
                 have p268 : 0 ≤ (x5_1 : Int) := of_decide_eq_true (by first | (with_reducible assumption) | assumption)
                 have q268 : x5_1 < (l1.length : Int) := of_decide_eq_true (by first | (with_reducible assumption) | assumption)
                 obtain ⟨ad268, A268_0, c268_0, e268, hx268_0, hl268_0, hi268_0⟩ := at_L1 HR1.out x5_1 p268 q268
                 obtain rfl : ad264 = ad268 := (by injection e268)
                 have HR268_0 := Aside0.mk hi268_0
                 have HC268_0 := Aside0.mk hl268_0
                 clear hi268_0 hl268_0
                 replace p268 := eq_true p268
                 replace q268 := eq_true q268
                 have p269 : 0 ≤ (x6_2 : Int) := of_decide_eq_true (by first | (with_reducible assumption) | assumption)
                 have q269 : x6_2 < ((rd_L1 l1 x5_1).length : Int) := of_decide_eq_true (by first | (with_reducible assumption) | assumption)
                 obtain ⟨ad269, e269, hx269_0⟩ := Kd.at_string HR268_0.out x6_2 p269 q269
                 cases e269
                 replace p269 := eq_true p269
                 replace q269 := eq_true q269
                 go_wp2
                 repeat (go_quiet (fail); try go_wp2)
                 go_ret
                 exact ⟨by first | rfl | (simp; done) | (simp [*]; done), drs_⟩
               ·rw [if_neg c13] at H
                exact absurd H (by simp)
              ·rw [if_neg c12] at H
               exact absurd H (by simp)
             ·rw [if_neg c11] at H
              exact absurd H (by simp)
            ·rw [if_neg c10] at H
             have c10b0 : decide (x6_2 < ((rd_L1 l0 x5_1).length : Int)) = false := decide_eq_false c10
             clear c10
             have H' := Aside0.mk H
             clear H
             have p265 : 0 ≤ (x5_1 : Int) := of_decide_eq_true (by first | (with_reducible assumption) | assumption)
             have q265 : x5_1 < (l0.length : Int) := of_decide_eq_true (by first | (with_reducible assumption) | assumption)
             obtain ⟨ad265, A265_0, c265_0, e265, hx265_0, hl265_0, hi265_0⟩ := at_L1 HR0.out x5_1 p265 q265
             obtain rfl : ad263 = ad265 := (by injection e265)
             have HR265_0 := Aside0.mk hi265_0
             have HC265_0 := Aside0.mk hl265_0
             clear hi265_0 hl265_0
             replace p265 := eq_true p265
             replace q265 := eq_true q265
             go_wp2
             repeat (go_quiet (fail); try go_wp2)
             go_roundg k2
             case measure => have := HK1.out; have := HK2.out; omega
             case rel => exact ⟨(wrap64 (x5_1 + 1)), rfs_, H', ⟨by have := HK1.out; have := HK2.out; omega⟩, drs_⟩
           ·rw [if_neg c9] at H
            exact absurd H (by simp)
          ·rw [if_neg c8] at H
           exact absurd H (by simp)
       ·rw [if_neg c7] at H
        have c7b0 : (((rd_L1 l0 x5_1).length : Int) == ((rd_L1 l1 x5_1).length : Int)) = false := beq_eq_false_iff_ne.mpr c7
        have c7b1 : (((rd_L1 l0 x5_1).length : Int) != ((rd_L1 l1 x5_1).length : Int)) = true := bne_iff_ne.mpr c7
        have c7b2 : ((rd_L1 l0 x5_1).length == (rd_L1 l1 x5_1).length) = false := by first | simpa using c7 | (simp at c7 ⊢; omega)
        obtain rfl := Option.some.inj H
        have p263 : 0 ≤ (x5_1 : Int) := of_decide_eq_true (by first | (with_reducible assumption) | assumption)
        have q263 : x5_1 < (l0.length : Int) := of_decide_eq_true (by first | (with_reducible assumption) | assumption)
        obtain ⟨ad263, A263_0, c263_0, e263, hx263_0, hl263_0, hi263_0⟩ := at_L1 HR0.out x5_1 p263 q263
        cases e263
        have HR263_0 := Aside0.mk hi263_0
        have HC263_0 := Aside0.mk hl263_0
        clear hi263_0 hl263_0
        replace p263 := eq_true p263
        replace q263 := eq_true q263
        have p264 : 0 ≤ (x5_1 : Int) := of_decide_eq_true (by first | (with_reducible assumption) | assumption)
        have q264 : x5_1 < (l1.length : Int) := of_decide_eq_true (by first | (with_reducible assumption) | assumption)
        obtain ⟨ad264, A264_0, c264_0, e264, hx264_0, hl264_0, hi264_0⟩ := at_L1 HR1.out x5_1 p264 q264
        cases e264
        have HR264_0 := Aside0.mk hi264_0
        have HC264_0 := Aside0.mk hl264_0
        clear hi264_0 hl264_0
        replace p264 := eq_true p264
        replace q264 := eq_true q264
        go_wp2
        repeat (go_quiet (fail); try go_wp2)
        go_ret
        exact ⟨by first | rfl | (simp; done) | (simp [*]; done), drs_⟩
      ·rw [if_neg c6] at H
       exact absurd H (by simp)
     ·rw [if_neg c5] at H
      exact absurd H (by simp)
    ·rw [if_neg c4] at H
     have c4b0 : decide (x5_1 < (l0.length : Int)) = false := decide_eq_false c4
     clear c4
     obtain rfl := Option.some.inj H
     go_wp2
     repeat (go_quiet (fail); try go_wp2)
     go_ret
     exact ⟨by first | rfl | (simp; done) | (simp [*]; done), drs_⟩
 ·rw [if_neg c3] at H
  have c3b0 : ((l0.length : Int) == (l1.length : Int)) = false := beq_eq_false_iff_ne.mpr c3
  have c3b1 : ((l0.length : Int) != (l1.length : Int)) = true := bne_iff_ne.mpr c3
  have c3b2 : (l0.length == l1.length) = false := by first | simpa using c3 | (simp at c3 ⊢; omega)
  obtain rfl := Option.some.inj H
  go_enter Tryd.func11, Tryd.ntmps11
  go_wp2
  repeat (go_quiet (fail); try go_wp2)
  go_ret
  exact ⟨by first | rfl | (simp; done) | (simp [*]; done), drs_⟩

/-! ### parterrelaw08_AreaCells: function 3 -/
def parterrelaw08_AreaCells.f (k : Nat) (a0 : ByteArray) : Option (Bool) := if (a0.size : Int) > 2000 then ((parterrelaw08_lives.f k).bind fun t270 => (some t270)) else ((area_Cells.f k a0).bind fun bt271 => ((parterreref08_Cells.f k a0).bind fun bt275 => (if (bt271.2 == bt275.2) = true then ((parterreref08_Same.f k (([bt271.1] : List (List ByteArray))) (([bt275.1] : List (List ByteArray)))).bind fun t285 => (if t285 = true then ((parterrelaw08_lives.f k).bind fun t286 => (some t286)) else (none))) else (none))))
theorem parterrelaw08_AreaCells.mono : ∀ a0 k, LeO (parterrelaw08_AreaCells.f k a0) (parterrelaw08_AreaCells.f (k + 1) a0) := by
 intro a0 k
 unfold parterrelaw08_AreaCells.f
 repeat' first
   | (with_reducible exact area_Cells.mono _ _)
   | (with_reducible exact parterrelaw08_lives.mono _)
   | (with_reducible exact parterreref08_Cells.mono _ _)
   | (with_reducible exact parterreref08_Same.mono _ _ _)
   | (with_reducible exact LeO.refl _)
   | (with_reducible exact LeO.none _)
   | (with_reducible refine LeO.ite ?_ ?_)
   | (with_reducible refine LeO.bind ?_ (fun _ => ?_))
set_option maxHeartbeats 8000000 in
set_option maxRecDepth 100000 in
theorem parterrelaw08_AreaCells.calls (k : Nat) (a0 : ByteArray) (r : Bool) (w : World) (h : parterrelaw08_AreaCells.f k a0 = some r) :
  Calls Tryd.prog 3 #[.string a0] w fun e w' => e = .returned (.bool r) ∧ Below w.heap.size w w' := by
 have HB := Aside0.mk (Below.refl w.heap.size w)
 have H : (if (a0.size : Int) > 2000 then ((parterrelaw08_lives.f k).bind fun t270 => (some t270)) else ((area_Cells.f k a0).bind fun bt271 => ((parterreref08_Cells.f k a0).bind fun bt275 => (if (bt271.2 == bt275.2) = true then ((parterreref08_Same.f k (([bt271.1] : List (List ByteArray))) (([bt275.1] : List (List ByteArray)))).bind fun t285 => (if t285 = true then ((parterrelaw08_lives.f k).bind fun t286 => (some t286)) else (none))) else (none))))) = some r := h
 clear h
 by_cases c2 : (a0.size : Int) > 2000
 ·rw [if_pos c2] at H
  have c2b0 : decide (2000 < (a0.size : Int)) = true := decide_eq_true c2
  have c2b1 : decide (2000 < a0.size) = true := decide_eq_true (by omega)
  clear c2
  replace H := Option.bind_eq_some_iff.mp H
  obtain ⟨t270, A30, H⟩ := H
  try dsimp only at H
  have A3 := Aside0.mk A30
  clear A30
  obtain rfl := Option.some.inj H
  go_enter Tryd.func3, Tryd.ntmps3
  go_wp2_with (first | ((with_reducible refine gate_callee (f := 8) rfl ?_); refine goesL_ (some 10) rfl rfl Tryd.func8 (by kernel_rfl) rfl #[] rfl goa_ ?_; (with_reducible refine (parterrelaw08_lives.calls k  t270 _ A3.out).mono ?_); rintro e w4 ⟨rfl, hb⟩; refine ⟨_, rfl, ?_⟩; have n0_ := Aside0.mk (below_step bel_ hb); clear HB; have HB := n0_; clear n0_; clear hb))
  go_ret
  exact ⟨rsl_, bel_⟩
 ·rw [if_neg c2] at H
  have c2b0 : decide (2000 < (a0.size : Int)) = false := decide_eq_false c2
  have c2b1 : decide (2000 < a0.size) = false := decide_eq_false (by omega)
  clear c2
  replace H := Option.bind_eq_some_iff.mp H
  obtain ⟨⟨t271, t272⟩, A50, H⟩ := H
  try dsimp only at H
  have A5 := Aside0.mk A50
  clear A50
  replace H := Option.bind_eq_some_iff.mp H
  obtain ⟨⟨t275, t276⟩, A60, H⟩ := H
  try dsimp only at H
  have A6 := Aside0.mk A60
  clear A60
  by_cases c7 : (t272 == t276) = true
  ·rw [if_pos c7] at H
   have c7b0 : (t272 == t276) = true := c7
   (try (have c7b1 : decide (t272 = t276) = true := by simpa using c7))
   (try (have c7b2 : (t272 == t276) = true := by simpa using c7))
   clear c7
   obtain ⟨y279, hy279⟩ : ∃ y_ : List (List ByteArray), y_ = (([t271] : List (List ByteArray))) := ⟨_, rfl⟩
   replace H : ((parterreref08_Same.f k y279 (([t275] : List (List ByteArray)))).bind fun t285 => (if t285 = true then ((parterrelaw08_lives.f k).bind fun t286 => (some t286)) else (none))) = some r := by first | (rw [hy279]; with_reducible exact H) | (have H2_ := (Option.bind_some _ _).symm.trans H; rw [hy279]; with_reducible exact H2_) | (have H2_ := (Option.bind_some _ _).symm.trans H; with_reducible exact H2_) | with_reducible exact H | (rw [hy279]; exact H) | exact H
   have Ny279 := Aside0.mk hy279
   clear hy279
   obtain ⟨y282, hy282⟩ : ∃ y_ : List (List ByteArray), y_ = (([t275] : List (List ByteArray))) := ⟨_, rfl⟩
   replace H : ((parterreref08_Same.f k y279 y282).bind fun t285 => (if t285 = true then ((parterrelaw08_lives.f k).bind fun t286 => (some t286)) else (none))) = some r := by first | (rw [hy282]; with_reducible exact H) | (have H2_ := (Option.bind_some _ _).symm.trans H; rw [hy282]; with_reducible exact H2_) | (have H2_ := (Option.bind_some _ _).symm.trans H; with_reducible exact H2_) | with_reducible exact H | (rw [hy282]; exact H) | exact H
   have Ny282 := Aside0.mk hy282
   clear hy282
   replace H := Option.bind_eq_some_iff.mp H
   obtain ⟨t285, A80, H⟩ := H
   try dsimp only at H
   have A8 := Aside0.mk A80
   clear A80
   by_cases c9 : t285 = true
   ·subst c9
    rw [if_pos rfl] at H
    replace H := Option.bind_eq_some_iff.mp H
    obtain ⟨t286, A100, H⟩ := H
    try dsimp only at H
    have A10 := Aside0.mk A100
    clear A100
    obtain rfl := Option.some.inj H
    go_enter Tryd.func3, Tryd.ntmps3
    go_wp2_with (first | ((with_reducible refine gate_callee (f := 9) rfl ?_); refine goesL_ (some 13) rfl rfl Tryd.func9 (by kernel_rfl) rfl #[.string a0] rfl goa_ ?_; (with_reducible refine (area_Cells.calls k a0 t271 t272 _ A5.out).mono ?_); rintro e w11 ⟨v273, rfl, ho0, hb⟩; refine ⟨_, rfl, ?_⟩; have n0_ := Aside0.mk (Kd.R_lower ho0 (below_size bel_)); have n1_ := Aside0.mk (below_step bel_ hb); clear HB; have HO274 := n0_; have HB := n1_; clear n0_ n1_; (try clear hb); (try clear hb2); (try clear hk); (try clear hi); (try clear ho0)) | ((with_reducible refine gate_callee (f := 10) rfl ?_); refine goesL_ (some 18) rfl rfl Tryd.func10 (by kernel_rfl) rfl #[.string a0] rfl goa_ ?_; (with_reducible refine (parterreref08_Cells.calls k a0 t275 t276 _ A6.out).mono ?_); rintro e w12 ⟨v277, rfl, ho0, hb⟩; refine ⟨_, rfl, ?_⟩; have n0_ := Aside0.mk (Kd.R_elder' (by (with_reducible repeat (first | apply Kd.R_alloc | apply Kd.R_drewN | apply Kd.R_drew)); exact HO274.out) (Kd.R_base ho0) hb); have n1_ := Aside0.mk (Kd.R_lower (Kd.R_new' ho0 (Kd.R_lt (by (with_reducible repeat (first | apply Kd.R_alloc | apply Kd.R_drewN | apply Kd.R_drew)); exact HO274.out))) (below_size bel_)); have n2_ := Aside0.mk (below_step bel_ hb); clear HO274; clear HB; have HO274 := n0_; have HO278 := n1_; have HB := n2_; clear n0_ n1_ n2_; (try clear hb); (try clear hb2); (try clear hk); (try clear hi); (try clear ho0); obtain ⟨Ao13, co13, eo13⟩ := Kd.R_slice HO274.out; subst eo13) | ((with_reducible refine gate_dst (N := 26) rfl ?_); (try (refine gate_guard (by rfl) ?_; dsimp only)); refine Kd.N_lit (Kd.slice 9 Kd.string) _ 23 ?hg (N' := 26) ?hd (xs := ([t271] : List (List ByteArray))) (inner := [.slice Ao13 t271.length co13]) (ok := (fun k_ => some k_ ≠ (v277 : Value).ownBlock)) (okp := (fun k_ => some k_ ≠ (v277 : Value).ownBlock)) ?hr ?hp (fun _ hk => hk) ((show ∀ k_, w12.heap.size ≤ k_ → (fun k_ => some k_ ≠ (v277 : Value).ownBlock) k_ from fun k_ hk => Kd.fresh' (Kd.R_lt (by (with_reducible repeat (first | apply Kd.R_alloc | apply Kd.R_drewN | apply Kd.R_drew)); exact HO278.out)) k_ hk) _ (Nat.le_refl _)) (Below.refl _ _) (Nat.le_refl _) (by simp) ?_; (case hd => rfl); (case hg => rfl); (case hr => first | (go_simp; done) | (go_simp; rfl)); (case hp => exact (Reps.one (show Kd.FK (Kd.slice 9 Kd.string) _ _ t271 [.slice Ao13 t271.length co13] from (Kd.FK_slice_mk (Kd.R_reads' (Kd.R_mono (ok' := (fun k_ => some k_ ≠ (v277 : Value).ownBlock)) (HO274.out) (fun k_ hk => hk.2))).2.1 (Kd.R_F (Kd.R_mono (ok' := (fun k_ => some k_ ≠ (v277 : Value).ownBlock)) (HO274.out) (fun k_ hk => hk.2))))) (Reps.none _ _))); intro v280 w14 ho15 hb hg_ hnew_; clear hg_ hnew_; (first | rw [← Ny279.out] at ho15 | (simp only [Int.reduceToNat] at ho15; rw [← Ny279.out] at ho15)); have n0_ := Aside0.mk (Kd.R_below (by (with_reducible repeat (first | apply Kd.R_alloc | apply Kd.R_drewN | apply Kd.R_drew)); exact HO278.out) hb); have n1_ := Aside0.mk (Kd.N_lower ho15 (below_size bel_)); have n2_ := Aside0.mk (below_step bel_ hb); clear HO278; clear HB; clear HO274; have HO278 := n0_; have HO281 := n1_; have HB := n2_; clear n0_ n1_ n2_; clear hb ho15; obtain ⟨Ao16, co16, eo16⟩ := Kd.R_slice HO278.out; subst eo16) | ((with_reducible refine gate_dst (N := 28) rfl ?_); (try (refine gate_guard (by rfl) ?_; dsimp only)); refine Kd.N_lit (Kd.slice 9 Kd.string) _ 23 ?hg (N' := 28) ?hd (xs := ([t275] : List (List ByteArray))) (inner := [.slice Ao16 t275.length co16]) (ok := (fun k_ => some k_ ≠ (v280 : Value).ownBlock)) (okp := (fun k_ => some k_ ≠ (v280 : Value).ownBlock)) ?hr ?hp (fun _ hk => hk) ((show ∀ k_, w14.heap.size ≤ k_ → (fun k_ => some k_ ≠ (v280 : Value).ownBlock) k_ from fun k_ hk => Kd.fresh' (Kd.N_lt (by (with_reducible repeat (first | apply Kd.N_alloc | apply Kd.N_drewN | apply Kd.N_drew)); exact HO281.out)) k_ hk) _ (Nat.le_refl _)) (Below.refl _ _) (Nat.le_refl _) (by simp) ?_; (case hd => rfl); (case hg => rfl); (case hr => first | (go_simp; done) | (go_simp; rfl)); (case hp => exact (Reps.one (show Kd.FK (Kd.slice 9 Kd.string) _ _ t275 [.slice Ao16 t275.length co16] from (Kd.FK_slice_mk (Kd.R_reads' (Kd.R_mono (ok' := (fun k_ => some k_ ≠ (v280 : Value).ownBlock)) (Kd.R_apart' (HO278.out) (Kd.N_typed HO281.out) (by decide)) (fun k_ hk => hk.2))).2.1 (Kd.R_F (Kd.R_mono (ok' := (fun k_ => some k_ ≠ (v280 : Value).ownBlock)) (Kd.R_apart' (HO278.out) (Kd.N_typed HO281.out) (by decide)) (fun k_ hk => hk.2))))) (Reps.none _ _))); intro v283 w17 ho18 hb hg_ hnew_; clear hg_ hnew_; (first | rw [← Ny282.out] at ho18 | (simp only [Int.reduceToNat] at ho18; rw [← Ny282.out] at ho18)); have n0_ := Aside0.mk (Kd.N_elder' (by (with_reducible repeat (first | apply Kd.N_alloc | apply Kd.N_drewN | apply Kd.N_drew)); exact HO281.out) (Kd.N_base ho18) hb); have n1_ := Aside0.mk (Kd.N_lower ho18 (below_size bel_)); have n2_ := Aside0.mk (below_step bel_ hb); clear HO281; clear HB; clear HO278; have HO281 := n0_; have HO284 := n1_; have HB := n2_; clear n0_ n1_ n2_; clear hb ho18; obtain ⟨Ao19, co19, eo19⟩ := Kd.N_slice HO281.out; subst eo19; obtain ⟨Ao20, co20, eo20⟩ := Kd.N_slice HO284.out; subst eo20) | (go_at_call 11; (with_reducible refine (parterreref08_Same.calls k _ _ y279 _ _ y282 true _ ?side1 ?side2 ?side3 ?side4 A8.out).mono ?_); (case side1 => repeat (first | exact (Kd.N_reads' HO281.out).2.2 | (with_reducible refine Kd.C_alloc ?_ _) | (with_reducible refine Kd.C_drewN ?_ _) | (with_reducible refine Kd.C_drew ?_))); (case side2 => exact (Kd.N_reads' HO281.out).2.1); (case side3 => repeat (first | exact (Kd.N_reads' HO284.out).2.2 | (with_reducible refine Kd.C_alloc ?_ _) | (with_reducible refine Kd.C_drewN ?_ _) | (with_reducible refine Kd.C_drew ?_))); (case side4 => exact (Kd.N_reads' HO284.out).2.1); rintro e w' ⟨rfl, ⟨nd, rfl⟩⟩) | (go_at_call 8; (with_reducible refine (parterrelaw08_lives.calls k  t286 _ A10.out).mono ?_); rintro e w21 ⟨rfl, hb⟩; have n0_ := Aside0.mk (Kd.N_below (by (with_reducible repeat (first | apply Kd.N_alloc | apply Kd.N_drewN | apply Kd.N_drew)); exact HO281.out) hb); have n1_ := Aside0.mk (Kd.N_below (by (with_reducible repeat (first | apply Kd.N_alloc | apply Kd.N_drewN | apply Kd.N_drew)); exact HO284.out) hb); have n2_ := Aside0.mk (below_step bel_ hb); clear HO281; clear HO284; clear HB; have HO281 := n0_; have HO284 := n1_; have HB := n2_; clear n0_ n1_ n2_; clear hb))
    go_ret
    exact ⟨rsl_, bel_⟩
   ·replace c9 := Bool.eq_false_iff.mpr c9
    subst c9
    rw [if_neg (show ¬ (false = true) by decide)] at H
    exact absurd H (by simp)
  ·rw [if_neg c7] at H
   exact absurd H (by simp)

/-- THE ONE PURE STATEMENT of parterrelaw08_AreaCells. -/
def parterrelaw08_AreaCells.Pure : Prop := ∀ (a0 : ByteArray), gStr a0 → ∃ k, parterrelaw08_AreaCells.f k a0 = some true

/-! ### parterrelaw08_Light: function 12 -/
mutual
def parterrelaw08_Light.l0 : Nat → Int → List (List ByteArray) → Int → Int → Option (Bool)
 | 0, _, _, _, _ => none
 | k + 1, x3, x8, x9, x10 => if x10 < x9 then (if 0 ≤ x10 then (if x10 < (x8.length : Int) then (if (wrap64 (x3 + (1 + (mn ((rd_L1 x8 x10).length : Int) 2000)))) > 1500 then (some false) else (parterrelaw08_Light.l1 k (wrap64 (x3 + (1 + (mn ((rd_L1 x8 x10).length : Int) 2000)))) x8 x9 x10 (rd_L1 x8 x10) ((rd_L1 x8 x10).length : Int) 0)) else (none)) else (none)) else (some true)
def parterrelaw08_Light.l1 : Nat → Int → List (List ByteArray) → Int → Int → List ByteArray → Int → Int → Option (Bool)
 | 0, _, _, _, _, _, _, _ => none
 | k + 1, x3, x8, x9, x10, x22, x23, x24 => if x24 < x23 then (if 0 ≤ x24 then (if x24 < (x22.length : Int) then (if ((rdOf ByteArray.empty x22 x24).size : Int) > 200 then (some false) else (parterrelaw08_Light.l1 k x3 x8 x9 x10 x22 x23 (wrap64 (x24 + 1)))) else (none)) else (none)) else (parterrelaw08_Light.l0 k x3 x8 x9 (wrap64 (x10 + 1)))
end
def parterrelaw08_Light.f (k : Nat) (l0 : List (List ByteArray)) : Option (Bool) := parterrelaw08_Light.l0 k 0 l0 (l0.length : Int) 0
theorem parterrelaw08_Light.mono_l : ∀ k, (∀ y0 y1 y2 y3, LeO (parterrelaw08_Light.l0 k y0 y1 y2 y3) (parterrelaw08_Light.l0 (k + 1) y0 y1 y2 y3)) ∧ (∀ y0 y1 y2 y3 y4 y5 y6, LeO (parterrelaw08_Light.l1 k y0 y1 y2 y3 y4 y5 y6) (parterrelaw08_Light.l1 (k + 1) y0 y1 y2 y3 y4 y5 y6))
 | 0 => ⟨fun _ _ _ _ r h => by simp [parterrelaw08_Light.l0] at h, fun _ _ _ _ _ _ _ r h => by simp [parterrelaw08_Light.l1] at h⟩
 | k + 1 => by
  obtain ⟨ih0, ih1⟩ := parterrelaw08_Light.mono_l k
  refine ⟨?_, ?_⟩
  ·intro y0 y1 y2 y3
   unfold parterrelaw08_Light.l0
   repeat' first
   | (with_reducible exact ih0 _ _ _ _)
   | (with_reducible exact ih1 _ _ _ _ _ _ _)
   | (with_reducible exact LeO.refl _)
   | (with_reducible exact LeO.none _)
   | (with_reducible refine LeO.ite ?_ ?_)
   | (with_reducible refine LeO.bind ?_ (fun _ => ?_))
  ·intro y0 y1 y2 y3 y4 y5 y6
   unfold parterrelaw08_Light.l1
   repeat' first
   | (with_reducible exact ih0 _ _ _ _)
   | (with_reducible exact ih1 _ _ _ _ _ _ _)
   | (with_reducible exact LeO.refl _)
   | (with_reducible exact LeO.none _)
   | (with_reducible refine LeO.ite ?_ ?_)
   | (with_reducible refine LeO.bind ?_ (fun _ => ?_))
theorem parterrelaw08_Light.mono : ∀ a0 k, LeO (parterrelaw08_Light.f k a0) (parterrelaw08_Light.f (k + 1) a0) := by
 intro a0 k
 obtain ⟨ih0, ih1⟩ := parterrelaw08_Light.mono_l k
 unfold parterrelaw08_Light.f
 repeat' first
   | (with_reducible exact ih0 _ _ _ _)
   | (with_reducible exact ih1 _ _ _ _ _ _ _)
   | (with_reducible exact LeO.refl _)
   | (with_reducible exact LeO.none _)
   | (with_reducible refine LeO.ite ?_ ?_)
   | (with_reducible refine LeO.bind ?_ (fun _ => ?_))
set_option maxHeartbeats 8000000 in
set_option maxRecDepth 100000 in
theorem parterrelaw08_Light.calls (k : Nat) (A0 : Option Addr) (c0 : Nat) (l0 : List (List ByteArray)) (r : Bool) (w : World) (hr0 : Kd.C (Kd.slice 9 Kd.string) w A0 l0.length l0) (hc0 : l0.length ≤ c0) (h : parterrelaw08_Light.f k l0 = some r) :
  Calls Tryd.prog 12 #[.slice A0 l0.length c0] w fun e w' => e = .returned (.bool r) ∧ Below w.heap.size w w' := by
 have HR0 := Aside0.mk hr0
 have HC0 := Aside0.mk hc0
 clear hr0 hc0
 have HB := Aside0.mk (Below.refl w.heap.size w)
 have H : (parterrelaw08_Light.l0 k 0 l0 (l0.length : Int) 0) = some r := h
 clear h
 have H' := Aside0.mk H
 clear H
 go_enter Tryd.func12, Tryd.ntmps12
 go_wp2
 go_loopg [3, 10] k (fun kq v3 v10 w' => ∃ (x3_1 : Int) (x10_1 : Int), v3 = .int .i64 x3_1 ∧ v10 = .int .i64 x10_1 ∧ Aside0 (parterrelaw08_Light.l0 kq x3_1 l0 (l0.length : Int) x10_1 = some r) ∧ Aside0 (kq ≤ k) ∧ Aside0 (Below w.heap.size w w'))
 case atStart => exact ⟨(0), (0), rfs_, rfs_, H', ⟨Nat.le_refl _⟩, ⟨bel_⟩⟩
 case round =>
  clear H'
  try clear c1
  obtain ⟨x3_1, x10_1, rfl, rfl, HA, HK1, HB⟩ := hrel
  cases gk with
  | zero => exact absurd HA.out (by simp [parterrelaw08_Light.l0])
  | succ k1 =>
   have H := HA.out
   clear HA
   simp only [parterrelaw08_Light.l0] at H
   by_cases c2 : x10_1 < (l0.length : Int)
   ·rw [if_pos c2] at H
    have c2b0 : decide (x10_1 < (l0.length : Int)) = true := decide_eq_true c2
    clear c2
    by_cases c3 : 0 ≤ x10_1
    ·rw [if_pos c3] at H
     have c3b0 : decide (0 ≤ x10_1) = true := decide_eq_true c3
     clear c3
     by_cases c4 : x10_1 < (l0.length : Int)
     ·rw [if_pos c4] at H
      have c4b0 : decide (x10_1 < (l0.length : Int)) = true := decide_eq_true c4
      clear c4
      obtain ⟨ji5, hji5⟩ : ∃ j_ : Int, (mn ((rd_L1 l0 x10_1).length : Int) 2000) = j_ := ⟨_, rfl⟩
      replace H : (if (wrap64 (x3_1 + (1 + (ji5)))) > 1500 then (some false) else (parterrelaw08_Light.l1 k1 (wrap64 (x3_1 + (1 + (ji5)))) l0 (l0.length : Int) x10_1 (rd_L1 l0 x10_1) ((rd_L1 l0 x10_1).length : Int) 0)) = some r := by first | (rw [hji5] at H; exact H) | (simp only [hji5] at H ⊢; exact H)
      have hji5_ : (if 2000 < ((rd_L1 l0 x10_1).length : Int) then 2000 else ((rd_L1 l0 x10_1).length : Int)) = ji5 := hji5
      by_cases c6 : (wrap64 (x3_1 + (1 + (ji5)))) > 1500
      ·rw [if_pos c6] at H
       have c6b0 : decide (1500 < (wrap64 (x3_1 + (1 + (ji5))))) = true := decide_eq_true c6
       clear c6
       obtain rfl := Option.some.inj H
       have p287 : 0 ≤ (x10_1 : Int) := of_decide_eq_true (by first | (with_reducible assumption) | assumption)
       have q287 : x10_1 < (l0.length : Int) := of_decide_eq_true (by first | (with_reducible assumption) | assumption)
       obtain ⟨ad287, A287_0, c287_0, e287, hx287_0, hl287_0, hi287_0⟩ := at_L1 HR0.out x10_1 p287 q287
       cases e287
       replace hx287_0 := (HB.out.cell (World.block_lt_of_cell? w _ hx287_0)).trans hx287_0
       have HR287_0 := Aside0.mk hi287_0
       have HC287_0 := Aside0.mk hl287_0
       clear hi287_0 hl287_0
       replace p287 := eq_true p287
       replace q287 := eq_true q287
       go_wp2
       go_ret
       exact ⟨by first | rfl | (simp [errW_none, errW_some] <;> rfl) | (simp only [← hji5]; first | rfl | (simp [errW_none, errW_some] <;> rfl)) | (simp [*, errW_none, errW_some] <;> rfl), bel_⟩
      ·rw [if_neg c6] at H
       have c6b0 : decide (1500 < (wrap64 (x3_1 + (1 + (ji5))))) = false := decide_eq_false c6
       clear c6
       have H' := Aside0.mk H
       clear H
       have p287 : 0 ≤ (x10_1 : Int) := of_decide_eq_true (by first | (with_reducible assumption) | assumption)
       have q287 : x10_1 < (l0.length : Int) := of_decide_eq_true (by first | (with_reducible assumption) | assumption)
       obtain ⟨ad287, A287_0, c287_0, e287, hx287_0, hl287_0, hi287_0⟩ := at_L1 HR0.out x10_1 p287 q287
       cases e287
       replace hx287_0 := (HB.out.cell (World.block_lt_of_cell? w _ hx287_0)).trans hx287_0
       have HR287_0 := Aside0.mk hi287_0
       have HC287_0 := Aside0.mk hl287_0
       clear hi287_0 hl287_0
       replace p287 := eq_true p287
       replace q287 := eq_true q287
       go_wp2
       go_loopg [24] k1 (fun kq v24 w' => ∃ (x24_2 : Int), v24 = .int .i64 x24_2 ∧ Aside0 (parterrelaw08_Light.l1 kq (wrap64 (x3_1 + (1 + (ji5)))) l0 (l0.length : Int) x10_1 (rd_L1 l0 x10_1) ((rd_L1 l0 x10_1).length : Int) x24_2 = some r) ∧ Aside0 (kq ≤ k1) ∧ Aside0 (Below w.heap.size w w'))
       case atStart => exact ⟨(0), rfs_, H', ⟨Nat.le_refl _⟩, ⟨bel_⟩⟩
       case round =>
        clear H'
        try clear c1
        try clear c2
        try clear c2b0
        try clear p2
        try clear q2
        try clear hx2
        try clear c3
        try clear c3b0
        try clear c4
        try clear c4b0
        try clear c6
        try clear c6b0
        try clear p6
        try clear hx287_0
        try clear p287
        try clear q287
        obtain ⟨x24_2, rfl, HA, HK2, HB⟩ := hrel
        cases gk with
        | zero => exact absurd HA.out (by simp [parterrelaw08_Light.l1])
        | succ k2 =>
         have H := HA.out
         clear HA
         simp only [parterrelaw08_Light.l1] at H
         by_cases c7 : x24_2 < ((rd_L1 l0 x10_1).length : Int)
         ·rw [if_pos c7] at H
          have c7b0 : decide (x24_2 < ((rd_L1 l0 x10_1).length : Int)) = true := decide_eq_true c7
          clear c7
          by_cases c8 : 0 ≤ x24_2
          ·rw [if_pos c8] at H
           have c8b0 : decide (0 ≤ x24_2) = true := decide_eq_true c8
           clear c8
           by_cases c9 : x24_2 < ((rd_L1 l0 x10_1).length : Int)
           ·rw [if_pos c9] at H
            have c9b0 : decide (x24_2 < ((rd_L1 l0 x10_1).length : Int)) = true := decide_eq_true c9
            clear c9
            by_cases c10 : ((rdOf ByteArray.empty (rd_L1 l0 x10_1) x24_2).size : Int) > 200
            ·rw [if_pos c10] at H
             have c10b0 : decide (200 < ((rdOf ByteArray.empty (rd_L1 l0 x10_1) x24_2).size : Int)) = true := decide_eq_true c10
             have c10b1 : decide (200 < (rdOf ByteArray.empty (rd_L1 l0 x10_1) x24_2).size) = true := decide_eq_true (by omega)
             clear c10
             obtain rfl := Option.some.inj H
             have p288 : 0 ≤ (x24_2 : Int) := of_decide_eq_true (by first | (with_reducible assumption) | assumption)
             have q288 : x24_2 < ((rd_L1 l0 x10_1).length : Int) := of_decide_eq_true (by first | (with_reducible assumption) | assumption)
             obtain ⟨ad288, e288, hx288_0⟩ := Kd.at_string HR287_0.out x24_2 p288 q288
             cases e288
             replace hx288_0 := (HB.out.cell (World.block_lt_of_cell? w _ hx288_0)).trans hx288_0
             replace p288 := eq_true p288
             replace q288 := eq_true q288
             go_wp2
             go_ret
             exact ⟨by first | rfl | (simp [errW_none, errW_some] <;> rfl) | (simp only [← hji5]; first | rfl | (simp [errW_none, errW_some] <;> rfl)) | (simp [*, errW_none, errW_some] <;> rfl), bel_⟩
            ·rw [if_neg c10] at H
             have c10b0 : decide (200 < ((rdOf ByteArray.empty (rd_L1 l0 x10_1) x24_2).size : Int)) = false := decide_eq_false c10
             have c10b1 : decide (200 < (rdOf ByteArray.empty (rd_L1 l0 x10_1) x24_2).size) = false := decide_eq_false (by omega)
             clear c10
             have H' := Aside0.mk H
             clear H
             have p288 : 0 ≤ (x24_2 : Int) := of_decide_eq_true (by first | (with_reducible assumption) | assumption)
             have q288 : x24_2 < ((rd_L1 l0 x10_1).length : Int) := of_decide_eq_true (by first | (with_reducible assumption) | assumption)
             obtain ⟨ad288, e288, hx288_0⟩ := Kd.at_string HR287_0.out x24_2 p288 q288
             cases e288
             replace hx288_0 := (HB.out.cell (World.block_lt_of_cell? w _ hx288_0)).trans hx288_0
             replace p288 := eq_true p288
             replace q288 := eq_true q288
             go_wp2
             go_roundg k2
             case measure => have := HK1.out; have := HK2.out; omega
             case rel => exact ⟨(wrap64 (x24_2 + 1)), rfs_, H', ⟨by have := HK1.out; have := HK2.out; omega⟩, ⟨bel_⟩⟩
           ·rw [if_neg c9] at H
            exact absurd H (by simp)
          ·rw [if_neg c8] at H
           exact absurd H (by simp)
         ·rw [if_neg c7] at H
          have c7b0 : decide (x24_2 < ((rd_L1 l0 x10_1).length : Int)) = false := decide_eq_false c7
          clear c7
          have H' := Aside0.mk H
          clear H
          go_wp2
          go_roundg k2
          case measure => have := HK1.out; have := HK2.out; omega
          case rel => exact ⟨((wrap64 (x3_1 + (1 + (ji5))))), (wrap64 (x10_1 + 1)), (by first | rfl | (simp; done) | (simp only [← hji5] <;> (first | rfl | simp)) | (simp [*]; done)), rfs_, H', ⟨by have := HK1.out; have := HK2.out; omega⟩, ⟨bel_⟩⟩
     ·rw [if_neg c4] at H
      exact absurd H (by simp)
    ·rw [if_neg c3] at H
     exact absurd H (by simp)
   ·rw [if_neg c2] at H
    have c2b0 : decide (x10_1 < (l0.length : Int)) = false := decide_eq_false c2
    clear c2
    obtain rfl := Option.some.inj H
    go_wp2
    go_ret
    exact ⟨rsl_, bel_⟩

end Go.Proofs.YtofdhdafabmhmaaDoor.PAr
end
section
/- Rows' cells: area.Cells and the document's Cells, of any text. Conditions: as each theorem says. -/
namespace Go.Proofs.YtofdhdafabmhmaaDoor.PureAr
open Go.RowKit Go.Proofs.YtofdhdafabmhmaaDoorW.PrintWords Go.Proofs.YtofdhdafabmhmaaDoorW.PrintMore Go.Proofs.YtofdhdafabmhmaaDoor.Evs Go.Proofs.YtofdhdafabmhmaaDoor.Opn Go.Proofs.YtofdhdafabmhmaaDoor.PAr Go.Proofs.YtofdhdafabmhmaaDoor.Giv
open Go
theorem lives_ev : Ev (fun k => parterrelaw08_lives.f k) true := Ev.of (fun k => parterrelaw08_lives.mono k) (k := 100) (by decide +kernel)

/-! ### The 256 bytes -/
def inB (c : UInt8) : Bool := area_inner.f (c.toNat : Int) == some true
def blB (c : UInt8) : Bool := [32, 9, 10, 13, 12].contains c
def doB (c : UInt8) : Bool := c == 46
def fineA (n : Nat) : Bool := (area_inner.f (n : Int)).isSome && (parterreref08_inner.f (n : Int) == area_inner.f (n : Int) && (parterreref03_Blank.f (n : Int) == some (blB (UInt8.ofNat n)) && (area_inner.f (n : Int) != some true || (n != 46 && (n != 0 && !blB (UInt8.ofNat n))))))
theorem fineA_all : (List.range 256).all fineA = true := by decide +kernel
structure ToldA (c : UInt8) : Prop where
  inn : area_inner.f (c.toNat : Int) = some (inB c)
  ref : parterreref08_inner.f (c.toNat : Int) = some (inB c)
  bl : parterreref03_Blank.f (c.toNat : Int) = some (blB c)
  dot : inB c = true → c ≠ 46
  zero : inB c = true → c ≠ 0
  nobl : inB c = true → blB c = false
theorem toldA (c : UInt8) : ToldA c := by
  have h := List.all_eq_true.1 fineA_all c.toNat (List.mem_range.2 c.toNat_lt)
  simp only [fineA, Bool.and_eq_true, Bool.or_eq_true, beq_iff_eq, bne_iff_ne, Bool.not_eq_true'] at h
  obtain ⟨h1, h2, h3, h4⟩ := h
  obtain ⟨t, ht⟩ := Option.isSome_iff_exists.1 h1
  have e : inB c = t := by
    unfold inB
    rw [ht]
    cases t <;> rfl
  have ec : UInt8.ofNat c.toNat = c := UInt8.ofNat_toNat
  rw [ec] at h3 h4
  have h5 : inB c = true → c.toNat ≠ 46 ∧ c.toNat ≠ 0 ∧ blB c = false := fun hi => h4.resolve_left (fun hn => hn (by rw [ht, ← e, hi]))
  refine ⟨by rw [ht, e], by rw [h2, ht, e], h3, fun hi hc => (h5 hi).1 (by rw [hc]; rfl), fun hi hc => (h5 hi).2.1 (by rw [hc]; rfl), fun hi => (h5 hi).2.2⟩
theorem dot_bl {c : UInt8} (h : c = 46) : blB c = false := by subst h; decide
theorem dot_int {c : UInt8} : ((c.toNat : Int) = 46) ↔ c = 46 := by
  constructor
  · intro h
    apply UInt8.toNat.inj
    have : c.toNat = 46 := by omega
    rw [this]
    rfl
  · rintro rfl
    rfl

/-! ### Texts and the rest from a place on -/
def T (l : List UInt8) : ByteArray := ⟨l.toArray⟩
theorem T_list (l : List UInt8) : (T l).data.toList = l := by simp [T]
theorem T_size (l : List UInt8) : (T l).size = l.length := by
  show l.toArray.size = _
  simp
theorem T_of (s : ByteArray) : T s.data.toList = s := by simp [T]
def Dr (x : ByteArray) (i : Nat) (l : List UInt8) : Prop := x.data.toList.drop i = l ∧ i + l.length = x.size
section
variable {x : ByteArray} {i : Nat} {c : UInt8} {l A B : List UInt8}
theorem size_list (x : ByteArray) : x.data.toList.length = x.size := by simp
theorem Dr.all (x : ByteArray) : Dr x 0 x.data.toList := ⟨rfl, by rw [size_list]; omega⟩
theorem Dr.get (h : Dr x i (c :: l)) : i < x.size ∧ bt x (i : Int) = (c.toNat : Int) := by
  have h1 : x.data.toList[i]? = some c := by
    have := congrArg (fun z => z[0]?) h.1
    simpa using this
  obtain ⟨h2, h3⟩ := List.getElem?_eq_some_iff.1 h1
  rw [size_list] at h2
  refine ⟨h2, ?_⟩
  rw [← bt_at x (i : Int) (by simpa using h2), ← h3]
  simp
  rfl
theorem Dr.tail (h : Dr x i (c :: l)) : Dr x (i + 1) l := by
  refine ⟨?_, by have := h.2; simp only [List.length_cons] at this; omega⟩
  rw [← List.drop_drop, h.1]
  rfl
theorem Dr.right (h : Dr x i (A ++ B)) : Dr x (i + A.length) B := by
  refine ⟨?_, by have := h.2; rw [List.length_append] at this; omega⟩
  rw [← List.drop_drop, h.1, List.drop_left]
theorem Dr.nil (h : Dr x i []) : i = x.size := by simpa using h.2
theorem Dr.ext (h : Dr x i (A ++ B)) : x.extract i (i + A.length) = T A := by
  apply Go.WideShapes.bytes_inj
  rw [ByteArray.data_extract, Array.toList_extract, List.extract_eq_take_drop, h.1, T_list, Nat.add_sub_cancel_left, List.take_left]
end
theorem T_drop (A B : List UInt8) : (T (A ++ B)).extract A.length (T (A ++ B)).size = T B := by
  apply Go.WideShapes.bytes_inj
  rw [ByteArray.data_extract, Array.toList_extract, List.extract_eq_take_drop, T_list, T_list, List.drop_left, T_size, List.length_append, Nat.add_sub_cancel_left, List.take_length]
theorem T_take (A B : List UInt8) : (T (A ++ B)).extract 0 A.length = T A := by
  apply Go.WideShapes.bytes_inj
  rw [ByteArray.data_extract, Array.toList_extract, List.extract_eq_take_drop, T_list, T_list, List.drop_zero, Nat.sub_zero, List.take_left]
theorem tw_app {f : UInt8 → Bool} : ∀ {A B : List UInt8}, (∀ c ∈ A, f c = true) → (∀ c B', B = c :: B' → f c = false) → (A ++ B).takeWhile f = A
  | [], [], _, _ => rfl
  | [], c :: B, _, h => by
    rw [List.nil_append, List.takeWhile_cons, h c B rfl]
    rfl
  | a :: A, B, h, h2 => by
    rw [List.cons_append, List.takeWhile_cons, h a List.mem_cons_self, if_pos rfl, tw_app (fun c hc => h c (List.mem_cons_of_mem _ hc)) h2]
/-- A list in two: as long as f holds; the rest. -/
theorem two_parts (f : UInt8 → Bool) : ∀ l : List UInt8, ∃ A B, l = A ++ B ∧ (∀ c ∈ A, f c = true) ∧ (∀ c B', B = c :: B' → f c = false)
  | [] => ⟨[], [], rfl, by simp, by simp⟩
  | c :: l => by
    cases hc : f c with
    | false => exact ⟨[], c :: l, rfl, by simp, fun c' B' e => by cases e; exact hc⟩
    | true =>
      obtain ⟨A, B, rfl, h1, h2⟩ := two_parts f l
      refine ⟨c :: A, B, rfl, fun c' h => ?_, h2⟩
      rcases List.mem_cons.1 h with rfl | h
      · exact hc
      · exact h1 c' h

/-! ### run -/
theorem test_in (c : UInt8) : area_run.test 29 (c.toNat : Int) = some (inB c) := by
  unfold area_run.test
  rw [if_pos rfl]
  exact (toldA c).inn
theorem test_dot (c : UInt8) : area_run.test 30 (c.toNat : Int) = some (doB c) := by
  unfold area_run.test
  rw [if_neg (by decide), if_pos rfl]
  unfold area_point.f doB
  congr 1
  by_cases h : c = 46
  · subst h; rfl
  · rw [beq_false_of_ne h, beq_false_of_ne (fun e => h (dot_int.1 e))]
theorem run_l0 {p : Nat} {f : UInt8 → Bool} (hf : ∀ c : UInt8, area_run.test p (c.toNat : Int) = some (f c)) {s : ByteArray} (hs : s.size ≤ 1000000) : ∀ (l : List UInt8) (n : Nat), Dr s n l → Ev (fun k => area_run.l0 k s p (n : Int)) ((n + (l.takeWhile f).length : Nat) : Int)
  | [], n, h => by
    refine ev_step ?_
    simp only [area_run.l0]
    have := h.nil
    exact ev_neg (by omega) (ev_eq (by simp))
  | c :: l, n, h => by
    refine ev_step ?_
    simp only [area_run.l0]
    obtain ⟨h1, h2⟩ := h.get
    rw [h2]
    refine ev_pos (by omega) (ev_pos (by omega) (ev_bindc (hf c) ?_))
    rw [w64 (by omega) (by omega), List.takeWhile_cons]
    cases hc : f c with
    | true =>
      refine ev_pos rfl (ev_cast (run_l0 hf hs l (n + 1) h.tail) ?_)
      simp only [if_true, List.length_cons]
      omega
    | false => exact ev_neg (by decide) (ev_eq (by simp))
theorem run_in {s : ByteArray} (hs : s.size ≤ 1000000) : Ev (fun k => area_run.f k s 29) (((s.data.toList.takeWhile inB).length : Nat) : Int) := by
  simp only [area_run.f]
  refine ev_pos (by simp) (ev_cast (run_l0 test_in hs _ 0 (Dr.all s)) ?_)
  omega
theorem run_dot {s : ByteArray} (hs : s.size ≤ 1000000) : Ev (fun k => area_run.f k s 30) (((s.data.toList.takeWhile doB).length : Nat) : Int) := by
  simp only [area_run.f]
  refine ev_pos (by simp) (ev_cast (run_l0 test_dot hs _ 0 (Dr.all s)) ?_)
  omega

/-! ### area.Cells -/
theorem trim_f (l : List UInt8) : strings_TrimLeft.f (T l) (⟨#[32, 9, 10, 13, 12]⟩ : ByteArray) = some (T (l.dropWhile blB)) := by
  unfold strings_TrimLeft.f
  rw [if_pos rfl, T_list]
  rfl
section
variable {out : List ByteArray} {r : List ByteArray × Bool} {A B l : List UInt8} {c : UInt8}
theorem c_blank (hc : blB c = true) (h : Ev (fun k => area_Cells.l0 k (T l) out) r) : Ev (fun k => area_Cells.l0 k (T (c :: l)) out) r := by
  refine Ev.congr (fun k => ?_) h
  cases k with
  | zero => rfl
  | succ k =>
    simp only [area_Cells.l0]
    rw [trim_f, trim_f, List.dropWhile_cons, hc, if_pos rfl]
theorem c_end : Ev (fun k => area_Cells.l0 k (T []) out) (out, true) := by
  refine ev_step ?_
  simp only [area_Cells.l0]
  exact ev_bindc (trim_f []) (ev_pos (by rw [ByteArray.toList_eq, T_list]; rfl) ev_some)
theorem c_top (hc : blB c = false) {a b : Nat} (ha : ((c :: l).takeWhile inB).length = a) (hb : ((c :: l).takeWhile doB).length = b) (hl : (c :: l).length ≤ 100000)
    (h : Ev (fun k => (if (wrap64 ((a : Int) + (b : Int))) = 0 then (some (([] : List ByteArray), false)) else (if 0 ≤ (a : Int) then (if (a : Int) ≤ ((T (c :: l)).size : Int) then (if out.length < 8796093022208 then (if 0 ≤ (wrap64 ((a : Int) + (b : Int))) then (if (wrap64 ((a : Int) + (b : Int))) ≤ ((T (c :: l)).size : Int) then (area_Cells.l0 k ((T (c :: l)).extract ((wrap64 ((a : Int) + (b : Int))) : Int).toNat (T (c :: l)).size) (out ++ [(T (c :: l)).extract 0 ((a : Int) : Int).toNat])) else (none)) else (none)) else (none)) else (none)) else (none)))) r) :
    Ev (fun k => area_Cells.l0 k (T (c :: l)) out) r := by
  refine ev_step ?_
  simp only [area_Cells.l0]
  have e : (c :: l).dropWhile blB = c :: l := by rw [List.dropWhile_cons, hc]; rfl
  have h1 := run_in (s := T (c :: l)) (by rw [T_size]; omega)
  have h2 := run_dot (s := T (c :: l)) (by rw [T_size]; omega)
  rw [T_list, ha] at h1
  rw [T_list, hb] at h2
  exact ev_bindc ((trim_f _).trans (by rw [e])) (ev_neg (by rw [ByteArray.toList_eq, T_list]; simp) (ev_bind h1 (ev_bind h2 h)))
theorem c_name (hA : ∀ c ∈ A, inB c = true) (hne : A ≠ []) (hB : ∀ c B', B = c :: B' → inB c = false) (hl : (A ++ B).length ≤ 100000) (ho : out.length ≤ 1000000)
    (h : Ev (fun k => area_Cells.l0 k (T B) (out ++ [T A])) r) : Ev (fun k => area_Cells.l0 k (T (A ++ B)) out) r := by
  obtain ⟨c, A', rfl⟩ := List.exists_cons_of_ne_nil hne
  have hc := hA c List.mem_cons_self
  have tc := toldA c
  have ha : ((c :: (A' ++ B)).takeWhile inB).length = (c :: A').length := by rw [← List.cons_append, tw_app hA hB]
  have hb : ((c :: (A' ++ B)).takeWhile doB).length = 0 := by
    rw [List.takeWhile_cons, show doB c = false from beq_false_of_ne (tc.dot hc)]
    rfl
  have hz : (T (c :: (A' ++ B))).size = (c :: A').length + B.length := by rw [T_size, List.length_cons, List.length_append, List.length_cons]; omega
  rw [List.cons_append] at hl ⊢
  refine c_top (tc.nobl hc) ha hb hl ?_
  rw [w64 (by omega) (by rw [List.length_cons, List.length_append] at hl; simp only [List.length_cons]; omega)]
  have e1 : (((c :: A').length : Int) + ((0 : Nat) : Int)).toNat = (c :: A').length := by omega
  have e2 : (((c :: A').length : Nat) : Int).toNat = (c :: A').length := by omega
  rw [e1, e2, ← List.cons_append, T_drop (c :: A') B, T_take (c :: A') B]
  rw [← List.cons_append] at hz
  refine ev_neg (by simp only [List.length_cons]; omega) (ev_pos (by omega) (ev_pos (by rw [hz]; omega) (ev_pos (by omega) (ev_pos (by omega) (ev_pos (by rw [hz]; omega) h)))))
theorem c_dots (hA : ∀ c ∈ A, doB c = true) (hne : A ≠ []) (hB : ∀ c B', B = c :: B' → doB c = false) (hl : (A ++ B).length ≤ 100000) (ho : out.length ≤ 1000000)
    (h : Ev (fun k => area_Cells.l0 k (T B) (out ++ [(⟨#[]⟩ : ByteArray)])) r) : Ev (fun k => area_Cells.l0 k (T (A ++ B)) out) r := by
  obtain ⟨c, A', rfl⟩ := List.exists_cons_of_ne_nil hne
  have hc := hA c List.mem_cons_self
  have h46 : c = 46 := by simpa [doB] using hc
  have tc := toldA c
  have hin : inB c = false := by
    cases hi : inB c with
    | false => rfl
    | true => exact absurd h46 (tc.dot hi)
  have ha : ((c :: (A' ++ B)).takeWhile inB).length = 0 := by
    rw [List.takeWhile_cons, hin]
    rfl
  have hb : ((c :: (A' ++ B)).takeWhile doB).length = (c :: A').length := by rw [← List.cons_append, tw_app hA hB]
  have hz : (T (c :: (A' ++ B))).size = (c :: A').length + B.length := by rw [T_size, List.length_cons, List.length_append, List.length_cons]; omega
  rw [List.cons_append] at hl ⊢
  refine c_top (dot_bl h46) ha hb hl ?_
  rw [w64 (by omega) (by rw [List.length_cons, List.length_append] at hl; simp only [List.length_cons]; omega)]
  have e1 : (((0 : Nat) : Int) + ((c :: A').length : Int)).toNat = (c :: A').length := by omega
  have e3 : (T (c :: A' ++ B)).extract 0 0 = (⟨#[]⟩ : ByteArray) := T_take [] (c :: A' ++ B)
  rw [e1, ← List.cons_append, T_drop (c :: A') B, show (((0 : Nat) : Int)).toNat = 0 from rfl, e3]
  rw [← List.cons_append] at hz
  refine ev_neg (by simp only [List.length_cons]; omega) (ev_pos (by omega) (ev_pos (by rw [hz]; omega) (ev_pos (by omega) (ev_pos (by omega) (ev_pos (by rw [hz]; omega) h)))))
theorem c_bad (hb : blB c = false) (hi : inB c = false) (hd : doB c = false) (hl : (c :: l).length ≤ 100000) : Ev (fun k => area_Cells.l0 k (T (c :: l)) out) ([], false) := by
  refine c_top (a := 0) (b := 0) hb (by rw [List.takeWhile_cons, hi]; rfl) (by rw [List.takeWhile_cons, hd]; rfl) hl ?_
  exact ev_pos (by rw [w64 (by omega) (by omega)]; rfl) ev_some
end

/-! ### The document's Cells -/
section
variable {x : ByteArray} {out : List ByteArray} {r : List ByteArray × Bool} {A B l : List UInt8} {c : UInt8} {i j : Nat}
theorem r_blank (hx : x.size ≤ 1000000) (hc : blB c = true) (hd : Dr x i (c :: l)) (h : Ev (fun k => parterreref08_Cells.l0 k x out ((i + 1 : Nat) : Int)) r) : Ev (fun k => parterreref08_Cells.l0 k x out (i : Int)) r := by
  refine ev_step ?_
  simp only [parterreref08_Cells.l0]
  obtain ⟨h1, h2⟩ := hd.get
  rw [h2, w64 (by omega) (by omega)]
  exact ev_pos (by omega) (ev_pos (by omega) (ev_bindc ((toldA c).bl.trans (by rw [hc])) (ev_pos rfl (by simpa using h))))
theorem r_end (hd : Dr x i []) : Ev (fun k => parterreref08_Cells.l0 k x out (i : Int)) (out, true) := by
  refine ev_step ?_
  simp only [parterreref08_Cells.l0]
  have := hd.nil
  exact ev_neg (by omega) ev_some
theorem r_top (hc : blB c = false) (hd : Dr x i (c :: l)) (h : Ev (fun k => parterreref08_Cells.l1 k x out (i : Int) (i : Int)) r) : Ev (fun k => parterreref08_Cells.l0 k x out (i : Int)) r := by
  refine ev_step ?_
  simp only [parterreref08_Cells.l0]
  obtain ⟨h1, h2⟩ := hd.get
  rw [h2]
  exact ev_pos (by omega) (ev_pos (by omega) (ev_bindc ((toldA c).bl.trans (by rw [hc])) (ev_neg (by decide) h)))
theorem r_l1 (hx : x.size ≤ 1000000) (hB : ∀ c B', B = c :: B' → doB c = false) : ∀ (A : List UInt8) (i : Nat), (∀ c ∈ A, doB c = true) → Dr x i (A ++ B) → Ev (fun k => parterreref08_Cells.j2 k x out ((i + A.length : Nat) : Int) (j : Int)) r → Ev (fun k => parterreref08_Cells.l1 k x out (i : Int) (j : Int)) r
  | [], i, _, hd, h => by
    refine ev_step ?_
    simp only [parterreref08_Cells.l1]
    rw [List.nil_append] at hd
    match B, hB, hd with
    | [], _, hd =>
      have := hd.nil
      exact ev_neg (by omega) (by simpa using h)
    | c :: B', hB, hd =>
      obtain ⟨h1, h2⟩ := hd.get
      have hc := hB c B' rfl
      rw [h2]
      exact ev_pos (by omega) (ev_pos (by omega) (ev_neg (fun e => by rw [dot_int] at e; subst e; cases hc) (by simpa using h)))
  | c :: A, i, hA, hd, h => by
    refine ev_step ?_
    simp only [parterreref08_Cells.l1]
    rw [List.cons_append] at hd
    obtain ⟨h1, h2⟩ := hd.get
    have hc : c = 46 := by simpa [doB] using hA c List.mem_cons_self
    rw [h2, w64 (by omega) (by omega)]
    refine ev_pos (by omega) (ev_pos (by omega) (ev_pos (dot_int.2 hc) ?_))
    have := r_l1 hx hB A (i + 1) (fun c' hc' => hA c' (List.mem_cons_of_mem _ hc')) hd.tail (by rw [List.length_cons] at h; rw [show i + 1 + A.length = i + (A.length + 1) by omega]; exact h)
    simpa using this
theorem r_dots (hx : x.size ≤ 1000000) (hA : ∀ c ∈ A, doB c = true) (hne : A ≠ []) (hB : ∀ c B', B = c :: B' → doB c = false) (ho : out.length ≤ 1000000) (hd : Dr x i (A ++ B))
    (h : Ev (fun k => parterreref08_Cells.l0 k x (out ++ [(⟨#[]⟩ : ByteArray)]) ((i + A.length : Nat) : Int)) r) : Ev (fun k => parterreref08_Cells.l0 k x out (i : Int)) r := by
  obtain ⟨c, A', rfl⟩ := List.exists_cons_of_ne_nil hne
  have h46 : c = 46 := by simpa [doB] using hA c List.mem_cons_self
  refine r_top (dot_bl h46) hd (r_l1 hx hB (c :: A') i hA hd (ev_step ?_))
  simp only [parterreref08_Cells.j2]
  exact ev_pos (by simp only [List.length_cons]; omega) (ev_pos (by omega) h)
theorem r_l2 (hx : x.size ≤ 1000000) (hB : ∀ c B', B = c :: B' → inB c = false) (ho : out.length ≤ 1000000) : ∀ (A : List UInt8) (i : Nat), (∀ c ∈ A, inB c = true) → Dr x i (A ++ B) → j < i + A.length → j ≤ i → Ev (fun k => parterreref08_Cells.l0 k x (out ++ [x.extract j (i + A.length)]) ((i + A.length : Nat) : Int)) r → Ev (fun k => parterreref08_Cells.l2 k x out (i : Int) (j : Int)) r
  | [], i, _, hd, hj, hji, h => by
    refine ev_step ?_
    simp only [parterreref08_Cells.l2]
    rw [List.nil_append] at hd
    simp only [List.length_nil, Nat.add_zero] at h hj
    have fin : i ≤ x.size → Ev (fun k => if (i : Int) = (j : Int) then (some (([] : List ByteArray), false)) else (if 0 ≤ (j : Int) then (if (j : Int) ≤ (i : Int) then (if (i : Int) ≤ (x.size : Int) then (if out.length < 8796093022208 then (parterreref08_Cells.l0 k x (out ++ [x.extract ((j : Int) : Int).toNat ((i : Int) : Int).toNat]) (i : Int)) else (none)) else (none)) else (none)) else (none))) r := fun hi => by
      simp only [Int.toNat_natCast]
      exact ev_neg (by omega) (ev_pos (by omega) (ev_pos (by omega) (ev_pos (by omega) (ev_pos (by omega) h))))
    match B, hB, hd with
    | [], _, hd =>
      have := hd.nil
      exact ev_neg (by omega) (fin (by omega))
    | c :: B', hB, hd =>
      obtain ⟨h1, h2⟩ := hd.get
      have hc := hB c B' rfl
      rw [h2]
      exact ev_pos (by omega) (ev_pos (by omega) (ev_bindc ((toldA c).ref.trans (by rw [hc])) (ev_neg (by decide) (fin (by omega)))))
  | c :: A, i, hA, hd, hj, hji, h => by
    refine ev_step ?_
    simp only [parterreref08_Cells.l2]
    rw [List.cons_append] at hd
    obtain ⟨h1, h2⟩ := hd.get
    have hc := hA c List.mem_cons_self
    rw [h2, w64 (by omega) (by omega)]
    refine ev_pos (by omega) (ev_pos (by omega) (ev_bindc ((toldA c).ref.trans (by rw [hc])) (ev_pos rfl ?_)))
    have := r_l2 hx hB ho A (i + 1) (fun c' hc' => hA c' (List.mem_cons_of_mem _ hc')) hd.tail (by rw [List.length_cons] at hj; omega) (by omega) (by rw [List.length_cons] at h; rw [show i + 1 + A.length = i + (A.length + 1) by omega]; exact h)
    simpa using this
theorem r_name (hx : x.size ≤ 1000000) (hA : ∀ c ∈ A, inB c = true) (hne : A ≠ []) (hB : ∀ c B', B = c :: B' → inB c = false) (ho : out.length ≤ 1000000) (hd : Dr x i (A ++ B))
    (h : Ev (fun k => parterreref08_Cells.l0 k x (out ++ [T A]) ((i + A.length : Nat) : Int)) r) : Ev (fun k => parterreref08_Cells.l0 k x out (i : Int)) r := by
  obtain ⟨c, A', rfl⟩ := List.exists_cons_of_ne_nil hne
  have hc := hA c List.mem_cons_self
  have tc := toldA c
  refine r_top (tc.nobl hc) hd (r_l1 hx (B := c :: A' ++ B) (fun c' B' e => by cases e; exact beq_false_of_ne (tc.dot hc)) [] i (fun _ h => by cases h) hd (ev_step ?_))
  simp only [parterreref08_Cells.j2, List.length_nil, Nat.add_zero]
  refine ev_neg (by omega) (r_l2 hx hB ho (c :: A') i hA hd (by simp only [List.length_cons]; omega) (Nat.le_refl _) ?_)
  rw [hd.ext]
  exact h
theorem r_bad (hx : x.size ≤ 1000000) (hb : blB c = false) (hi : inB c = false) (hd : doB c = false) (hD : Dr x i (c :: l)) : Ev (fun k => parterreref08_Cells.l0 k x out (i : Int)) ([], false) := by
  refine r_top hb hD (r_l1 hx (B := c :: l) (fun c' B' e => by cases e; exact hd) [] i (fun _ h => by cases h) hD (ev_step ?_))
  simp only [parterreref08_Cells.j2, List.length_nil, Nat.add_zero]
  refine ev_neg (by omega) (ev_step ?_)
  simp only [parterreref08_Cells.l2]
  obtain ⟨h1, h2⟩ := hD.get
  rw [h2]
  exact ev_pos (by omega) (ev_pos (by omega) (ev_bindc ((toldA c).ref.trans (by rw [hi])) (ev_neg (by decide) (ev_pos (by trivial) ev_some))))
end
theorem cells_both {x : ByteArray} (hx : x.size ≤ 2000) : ∀ (n : Nat) (l : List UInt8) (i : Nat) (out : List ByteArray), l.length ≤ n → Dr x i l → out.length + l.length ≤ 3000 → ∃ r : List ByteArray × Bool, Ev (fun k => area_Cells.l0 k (T l) out) r ∧ Ev (fun k => parterreref08_Cells.l0 k x out (i : Int)) r ∧ r.1.length ≤ out.length + l.length
  | _, [], i, out, _, hd, _ => ⟨_, c_end, r_end hd, by simp⟩
  | 0, c :: l, _, _, h, _, _ => by simp at h
  | n + 1, c :: l, i, out, hn, hd, ho => by
    have hz := hd.2
    simp only [List.length_cons] at hn ho hz
    cases hb : blB c with
    | true =>
      obtain ⟨r, h1, h2, h3⟩ := cells_both hx n l (i + 1) out (by omega) hd.tail (by omega)
      exact ⟨r, c_blank hb h1, r_blank (by omega) hb hd h2, by simp only [List.length_cons]; omega⟩
    | false =>
      cases hi : inB c with
      | true =>
        obtain ⟨A, B, rfl, hA, hB⟩ := two_parts inB l
        have hA' : ∀ c' ∈ c :: A, inB c' = true := fun c' h => by
          rcases List.mem_cons.1 h with rfl | h
          · exact hi
          · exact hA c' h
        rw [← List.cons_append] at hd
        simp only [List.length_append] at hn ho hz
        obtain ⟨r, h1, h2, h3⟩ := cells_both hx n B (i + (c :: A).length) (out ++ [T (c :: A)]) (by omega) hd.right (by rw [List.length_append, List.length_singleton]; omega)
        exact ⟨r, c_name hA' (by simp) hB (by rw [List.length_append, List.length_cons]; omega) (by omega) h1, r_name (by omega) hA' (by simp) hB (by omega) hd h2, by simp only [List.length_append, List.length_cons, List.length_nil] at h3 ⊢; omega⟩
      | false =>
        cases hdo : doB c with
        | true =>
          obtain ⟨A, B, rfl, hA, hB⟩ := two_parts doB l
          have hA' : ∀ c' ∈ c :: A, doB c' = true := fun c' h => by
            rcases List.mem_cons.1 h with rfl | h
            · exact hdo
            · exact hA c' h
          rw [← List.cons_append] at hd
          simp only [List.length_append] at hn ho hz
          obtain ⟨r, h1, h2, h3⟩ := cells_both hx n B (i + (c :: A).length) (out ++ [(⟨#[]⟩ : ByteArray)]) (by omega) hd.right (by rw [List.length_append, List.length_singleton]; omega)
          exact ⟨r, c_dots hA' (by simp) hB (by rw [List.length_append, List.length_cons]; omega) (by omega) h1, r_dots (by omega) hA' (by simp) hB (by omega) hd h2, by simp only [List.length_append, List.length_cons, List.length_nil] at h3 ⊢; omega⟩
        | false => exact ⟨_, c_bad hb hi hdo (by simp only [List.length_cons]; omega), r_bad (by omega) hb hi hdo hd, by simp⟩
theorem lat (l0 : List (List ByteArray)) {i : Nat} {row : List ByteArray} (h : l0[i]? = some row) : rd_L1 l0 (i : Int) = row := by
  unfold rd_L1
  rw [Int.toNat_natCast, List.getD_eq_getElem?_getD, h]
  rfl
section
variable {x : List (List ByteArray)}
theorem rsame_l1 {i : Nat} {row : List ByteArray} (hrow : x[i]? = some row) (hr : row.length ≤ 1000000) (h : Ev (fun k => parterreref08_Same.l0 k x x (wrap64 ((i : Int) + 1))) true) : ∀ (n j : Nat), j + n = row.length → Ev (fun k => parterreref08_Same.l1 k x x (i : Int) (j : Int)) true
  | 0, j, hj => by
    refine ev_step ?_
    simp only [parterreref08_Same.l1]
    have hlt := (List.getElem?_eq_some_iff.1 hrow).1
    rw [lat x hrow]
    exact ev_pos (by omega) (ev_pos (by omega) (ev_neg (by omega) h))
  | n + 1, j, hj => by
    refine ev_step ?_
    simp only [parterreref08_Same.l1]
    have hlt := (List.getElem?_eq_some_iff.1 hrow).1
    rw [lat x hrow, w64 (by omega) (by omega)]
    exact ev_pos (by omega) (ev_pos (by omega) (ev_pos (by omega) (ev_pos (by omega) (ev_pos (by omega) (ev_pos (by omega) (ev_pos (by trivial) (rsame_l1 hrow hr h n (j + 1) (by omega))))))))
theorem rsame_l0 (hx : x.length ≤ 1000000) (hr : ∀ row ∈ x, row.length ≤ 1000000) : ∀ (n i : Nat), i + n = x.length → Ev (fun k => parterreref08_Same.l0 k x x (i : Int)) true
  | 0, i, hi => by
    refine ev_step ?_
    simp only [parterreref08_Same.l0]
    exact ev_neg (by omega) ev_some
  | n + 1, i, hi => by
    refine ev_step ?_
    simp only [parterreref08_Same.l0]
    obtain ⟨row, hrow⟩ : ∃ row, x[i]? = some row := ⟨_, List.getElem?_eq_getElem (by omega)⟩
    have ih := rsame_l0 hx hr n (i + 1) (by omega)
    exact ev_pos (by omega) (ev_pos (by omega) (ev_pos (by omega) (ev_pos (by trivial) (rsame_l1 hrow (hr row (List.mem_of_getElem? hrow)) (by rw [w64 (by omega) (by omega)]; exact ih) row.length 0 (by omega)))))
theorem rsame (hx : x.length ≤ 1000000) (hr : ∀ row ∈ x, row.length ≤ 1000000) : Ev (fun k => parterreref08_Same.f k x x) true := by
  simp only [parterreref08_Same.f]
  exact ev_pos (by trivial) (rsame_l0 hx hr x.length 0 (by omega))
end
end Go.Proofs.YtofdhdafabmhmaaDoor.PureAr
end
section
/- AreaCells, as a statement on bytes. Conditions: none beyond the argument's own kind. -/
namespace Go.Proofs.YtofdhdafabmhmaaDoor.Pure
open Go.RowKit Go.Proofs.YtofdhdafabmhmaaDoorW.PrintWords Go.Proofs.YtofdhdafabmhmaaDoorW.PrintMore Go.Proofs.YtofdhdafabmhmaaDoor.Evs Go.Proofs.YtofdhdafabmhmaaDoor.Opn Go.Proofs.YtofdhdafabmhmaaDoor.PAr Go.Proofs.YtofdhdafabmhmaaDoor.Giv Go.Proofs.YtofdhdafabmhmaaDoor.PureAr
theorem AreaCells : parterrelaw08_AreaCells.Pure := by
  intro a0 g
  refine Ev.rounds ?_
  simp only [parterrelaw08_AreaCells.f]
  refine ev_ite (fun _ => ev_bind lives_ev ev_some) (fun h => ?_)
  have hz := size_list a0
  obtain ⟨r, h1, h2, h3⟩ := cells_both (x := a0) (by omega) a0.size a0.data.toList 0 [] (by omega) (Dr.all a0) (by simp only [List.length_nil]; omega)
  rw [T_of] at h1
  simp only [List.length_nil] at h3
  have f1 : Ev (fun k => area_Cells.f k a0) r := by
    simp only [area_Cells.f]
    exact h1
  have f2 : Ev (fun k => parterreref08_Cells.f k a0) r := by
    simp only [parterreref08_Cells.f]
    exact h2
  exact ev_bind f1 (ev_bind f2 (ev_pos (by simp) (ev_bind (rsame (x := [r.1]) (by simp) (fun row hr => by simp only [List.mem_singleton] at hr; subst hr; omega)) (ev_pos rfl (ev_bind lives_ev ev_some)))))
end Go.Proofs.YtofdhdafabmhmaaDoor.Pure
end
