/- LineReadsSaid, part 9 of 13: contracts of the program's functions, the words that they use, and the plain laws on what they compute. Conditions: none beyond what the statements say. -/
import Derived.Test.YtofdhdafabmhmaaKLr0
import Derived.Test.YtofdhdafabmhmaaKLr1
import Derived.Test.YtofdhdafabmhmaaKLr2
import Derived.Test.YtofdhdafabmhmaaKLr7
set_option linter.unusedVariables false
set_option linter.unusedSimpArgs false
section
namespace Go.Proofs.Ytofdhdafabmhmaa.PLr
open Go.RowKit Go.Proofs.YtofdhdafabmhmaaW.PrintWords Go.Proofs.YtofdhdafabmhmaaW.PrintLast Go.Proofs.YtofdhdafabmhmaaW.PrintMore
attribute [local go_sem] max2_int min2_int max_two min_two max_three min_three max_four min_four
open Go.Proofs.Ytofdhdafabmhmaa.Opn Go.Proofs.Ytofdhdafabmhmaa.Giv
set_option maxRecDepth 100000

/-! ### r02_Parts: function 48 -/
mutual
def r02_Parts.j0 : Nat → ByteArray → Int → Int → Int → Int → Bool → Option (Int × Int × Int × Int × Int)
 | 0, _, _, _, _, _, _ => none
 | k + 1, x0, x7, x8, x9, x10, x30 => if x30 = true then ((r02_digits.f k x0 (wrap64 (x9 + 1))).bind fun t306 => (if t306 > 0 then (r02_Parts.j1 k x0 x7 x8 (wrap64 ((wrap64 (x9 + 1)) + t306)) t306) else (r02_Parts.j1 k x0 x7 x8 x9 t306))) else (r02_Parts.j1 k x0 x7 x8 x9 x10)
def r02_Parts.j1 : Nat → ByteArray → Int → Int → Int → Int → Option (Int × Int × Int × Int × Int)
 | 0, _, _, _, _, _ => none
 | k + 1, x0, x7, x8, x9, x10 => if (wrap64 (x8 + x10)) = 0 then (some (0, 0, 0, 0, 0)) else (if x9 < (x0.size : Int) then (if 0 ≤ x9 then (if (bt x0 x9) = 101 then (r02_Parts.j2 k x0 x7 x8 x9 x10 true) else (r02_Parts.j2 k x0 x7 x8 x9 x10 ((bt x0 x9) == 69))) else (none)) else (r02_Parts.j2 k x0 x7 x8 x9 x10 false))
def r02_Parts.j2 : Nat → ByteArray → Int → Int → Int → Int → Bool → Option (Int × Int × Int × Int × Int)
 | 0, _, _, _, _, _, _ => none
 | k + 1, x0, x7, x8, x9, x10, x60 => if x60 = true then ((r02_sign.f x0 (wrap64 (x9 + 1))).bind fun t307 => ((r02_digits.f k x0 (wrap64 ((wrap64 (x9 + 1)) + t307))).bind fun t308 => (if t308 > 0 then (some (x7, x8, x10, wrap64 (x9 + 1), wrap64 ((wrap64 ((wrap64 (x9 + 1)) + t307)) + t308))) else (some (x7, x8, x10, 0, x9))))) else (some (x7, x8, x10, 0, x9))
end
def r02_Parts.f (k : Nat) (a0 : ByteArray) : Option (Int × Int × Int × Int × Int) := (r02_sign.f a0 0).bind fun t304 => ((r02_digits.f k a0 t304).bind fun t305 => (if (wrap64 (t304 + t305)) < (a0.size : Int) then (if 0 ≤ (wrap64 (t304 + t305)) then (r02_Parts.j0 k a0 t304 t305 (wrap64 (t304 + t305)) 0 ((bt a0 (wrap64 (t304 + t305))) == 46)) else (none)) else (r02_Parts.j0 k a0 t304 t305 (wrap64 (t304 + t305)) 0 false)))
theorem r02_Parts.mono_l : ∀ k, (∀ y0 y1 y2 y3 y4 y5, LeO (r02_Parts.j0 k y0 y1 y2 y3 y4 y5) (r02_Parts.j0 (k + 1) y0 y1 y2 y3 y4 y5)) ∧ (∀ y0 y1 y2 y3 y4, LeO (r02_Parts.j1 k y0 y1 y2 y3 y4) (r02_Parts.j1 (k + 1) y0 y1 y2 y3 y4)) ∧ (∀ y0 y1 y2 y3 y4 y5, LeO (r02_Parts.j2 k y0 y1 y2 y3 y4 y5) (r02_Parts.j2 (k + 1) y0 y1 y2 y3 y4 y5))
 | 0 => ⟨fun _ _ _ _ _ _ r h => by simp [r02_Parts.j0] at h, fun _ _ _ _ _ r h => by simp [r02_Parts.j1] at h, fun _ _ _ _ _ _ r h => by simp [r02_Parts.j2] at h⟩
 | k + 1 => by
  obtain ⟨ih0, ih1, ih2⟩ := r02_Parts.mono_l k; refine ⟨?_, ?_, ?_⟩
  ·intro y0 y1 y2 y3 y4 y5; unfold r02_Parts.j0; repeat' first
   | (with_reducible exact ih0 _ _ _ _ _ _)
   | (with_reducible exact ih1 _ _ _ _ _)
   | (with_reducible exact ih2 _ _ _ _ _ _)
   | (with_reducible exact r02_digits.mono _ _ _)
   | (with_reducible first | exact LeO.refl _ | exact LeO.none _ | refine LeO.ite ?_ ?_ | refine LeO.bind ?_ (fun _ => ?_))
  ·intro y0 y1 y2 y3 y4; unfold r02_Parts.j1; repeat' first
   | (with_reducible exact ih0 _ _ _ _ _ _)
   | (with_reducible exact ih1 _ _ _ _ _)
   | (with_reducible exact ih2 _ _ _ _ _ _)
   | (with_reducible exact r02_digits.mono _ _ _)
   | (with_reducible first | exact LeO.refl _ | exact LeO.none _ | refine LeO.ite ?_ ?_ | refine LeO.bind ?_ (fun _ => ?_))
  intro y0 y1 y2 y3 y4 y5; unfold r02_Parts.j2; repeat' first
  | (with_reducible exact ih0 _ _ _ _ _ _)
  | (with_reducible exact ih1 _ _ _ _ _)
  | (with_reducible exact ih2 _ _ _ _ _ _)
  | (with_reducible exact r02_digits.mono _ _ _)
  | (with_reducible first | exact LeO.refl _ | exact LeO.none _ | refine LeO.ite ?_ ?_ | refine LeO.bind ?_ (fun _ => ?_))
theorem r02_Parts.mono : ∀ a0 k, LeO (r02_Parts.f k a0) (r02_Parts.f (k + 1) a0) := by
 intro a0 k; obtain ⟨ih0, ih1, ih2⟩ := r02_Parts.mono_l k; unfold r02_Parts.f; repeat' first
   | (with_reducible exact ih0 _ _ _ _ _ _)
   | (with_reducible exact ih1 _ _ _ _ _)
   | (with_reducible exact ih2 _ _ _ _ _ _)
   | (with_reducible exact r02_digits.mono _ _ _)
   | (with_reducible first | exact LeO.refl _ | exact LeO.none _ | refine LeO.ite ?_ ?_ | refine LeO.bind ?_ (fun _ => ?_))
set_option maxHeartbeats 8000000 in
theorem r02_Parts.calls (k : Nat) (a0 : ByteArray) (r1 : Int) (r2 : Int) (r3 : Int) (r4 : Int) (r5 : Int) (w : World) (h : r02_Parts.f k a0 = some (r1, r2, r3, r4, r5)) :
  Calls Try.prog 48 #[.string a0] w fun e w' => e = .returned (.tuple #[.int .i64 r1, .int .i64 r2, .int .i64 r3, .int .i64 r4, .int .i64 r5]) ∧ Drawn0 w w' := by
 have H : ((r02_sign.f a0 0).bind fun t304 => ((r02_digits.f k a0 t304).bind fun t305 => (if (wrap64 (t304 + t305)) < (a0.size : Int) then (if 0 ≤ (wrap64 (t304 + t305)) then (r02_Parts.j0 k a0 t304 t305 (wrap64 (t304 + t305)) 0 ((bt a0 (wrap64 (t304 + t305))) == 46)) else (none)) else (r02_Parts.j0 k a0 t304 t305 (wrap64 (t304 + t305)) 0 false)))) = some (r1, r2, r3, r4, r5) := h; clear h; replace H := bs_ H; obtain ⟨t304, A20, H⟩ := H; try dsimp only at H
 have A2 := am_ A20; clear A20; replace H := bs_ H; obtain ⟨t305, A30, H⟩ := H; try dsimp only at H
 have A3 := am_ A30; clear A30; have HC4 := am_ H; clear H; go_enter Try.func48, Try.ntmps48
 go_upto_region 5 with (first | ((with_reducible refine gate_callee (f := 69) rfl ?_); refine goesL_ (some 14) rfl rfl Try.func69 (by kernel_rfl) rfl #[.string a0, .int .i64 0] rfl goa_ ?_; (with_reducible refine (r02_sign.calls a0 0 t304 _ A2.out).mono ?_); rintro e w' ⟨rfl, ⟨nd, rfl⟩⟩; refine ⟨_, rfl, ?_⟩) | ((with_reducible refine gate_callee (f := 70) rfl ?_); refine goesL_ (some 17) rfl rfl Try.func70 (by kernel_rfl) rfl #[.string a0, .int .i64 t304] rfl goa_ ?_; (with_reducible refine (r02_digits.calls k a0 t304 t305 _ A3.out).mono ?_); rintro e w' ⟨rfl, ⟨nd, rfl⟩⟩; refine ⟨_, rfl, ?_⟩))
 (try simp only [Act.put, List.setIfInBounds_toArray, List.set_cons_zero, List.set_cons_succ])
 go_cut [30] (fun v30 wc => ∃ (kq : Nat) (x30_3 : Bool), v30 = .bool x30_3 ∧ Aside0 (r02_Parts.j0 kq a0 t304 t305 (wrap64 (t304 + t305)) 0 x30_3 = some (r1, r2, r3, r4, r5)) ∧ Aside0 (kq ≤ k) ∧ Drawn0 w wc)
 case first =>
  have H := HC4.out; clear HC4; by_cases c5 : (wrap64 (t304 + t305)) < (a0.size : Int)
  ·rw [if_pos c5] at H; have c5b0 : decide ((wrap64 (t304 + t305)) < (a0.size : Int)) = true := dt_ c5; clear c5; (first | rw [c5b0] | (simp only [i64_w, i32_w]; rw [c5b0]) | skip)
   obtain ⟨ji6, hji6⟩ : ∃ j_ : Int, (wrap64 (t304 + t305)) = j_ := ⟨_, rfl⟩
   replace H : (if 0 ≤ (ji6) then (r02_Parts.j0 k a0 t304 t305 ji6 0 ((bt a0 (ji6)) == 46)) else (none)) = some (r1, r2, r3, r4, r5) := by first | (rw [hji6] at H; exact H) | (simp only [hji6] at H ⊢; exact H)
   (try rw [hji6] at c5b0)
   have hji6w : (IntKind.i64.wrap (t304 + t305)) = ji6 := (i64_w _).trans hji6; by_cases c7 : 0 ≤ (ji6)
   ·rw [if_pos c7] at H; have c7b0 : decide (0 ≤ (ji6)) = true := dt_ c7; clear c7; have H' := am_ H; clear H; have p8 : 0 ≤ ((ji6) : Int) := od_ (by first | (with_reducible assumption) | assumption); have q8 : (ji6) < (a0.size : Int) := od_ (by first | (with_reducible assumption) | assumption); have hx8 := bt_at a0 (ji6); replace p8 := eq_true p8; replace q8 := eq_true q8; go_wp2; go_meet
    case rel => exact ⟨_, (((bt a0 (ji6)) == 46)), (by first | rfl | (simp; done) | (simp only [← hji6] <;> (first | rfl | simp)) | (simp [*]; done)), (by first | exact H' | (subst_vars; exact H')), ⟨ole_⟩, drs_⟩
   rw [if_neg c7] at H; exact absurd H (by simp)
  rw [if_neg c5] at H; have c5b0 : decide ((wrap64 (t304 + t305)) < (a0.size : Int)) = false := df_ c5; clear c5; (first | rw [c5b0] | (simp only [i64_w, i32_w]; rw [c5b0]) | skip)
  have H' := am_ H; clear H; go_wp2; go_meet
  case rel => exact ⟨_, (false), rfs_, (by first | exact H' | (subst_vars; exact H')), ⟨ole_⟩, drs_⟩
 clear HC4; obtain ⟨kq, x30_3, rfl, HA, HJ3, ⟨mc3, rfl⟩⟩ := hcut
 cases kq with
 | zero => exact absurd HA.out (by simp [r02_Parts.j0])
 | succ kj3 =>
  have H := HA.out; clear HA; simp only [r02_Parts.j0] at H; have HC9 := am_ H; clear H; go_upto_if 30 with (fail)
  go_cut [9, 10] (fun v9 v10 wc => ∃ (kq : Nat) (x9_8 : Int) (x10_8 : Int), v9 = .int .i64 x9_8 ∧ v10 = .int .i64 x10_8 ∧ Aside0 (r02_Parts.j1 kq a0 t304 t305 x9_8 x10_8 = some (r1, r2, r3, r4, r5)) ∧ Aside0 (kq ≤ kj3) ∧ Drawn0 w wc)
  case first =>
   have H := HC9.out; clear HC9; by_cases c10 : x30_3 = true
   ·subst c10; rw [if_pos rfl] at H; replace H := bs_ H; obtain ⟨t306, A110, H⟩ := H; try dsimp only at H
    have A11 := am_ A110; clear A110; by_cases c12 : t306 > 0
    ·rw [if_pos c12] at H; have c12b0 : decide (0 < t306) = true := dt_ c12; clear c12; (first | rw [c12b0] | (simp only [i64_w, i32_w]; rw [c12b0]) | skip)
     have H' := am_ H; clear H; go_wp2_with (first | ((with_reducible refine gate_callee (f := 70) rfl ?_); refine goesL_ (some 34) rfl rfl Try.func70 (by kernel_rfl) rfl #[.string a0, .int .i64 (wrap64 ((wrap64 (t304 + t305)) + 1))] rfl goa_ ?_; (with_reducible refine (r02_digits.calls kj3 a0 (wrap64 ((wrap64 (t304 + t305)) + 1)) t306 _ A11.out).mono ?_); rintro e w' ⟨rfl, ⟨nd, rfl⟩⟩; refine ⟨_, rfl, ?_⟩))
     go_meet
     case rel => exact ⟨_, (wrap64 ((wrap64 ((wrap64 (t304 + t305)) + 1)) + t306)), (t306), rfs_, rfs_, H', ⟨by have := HJ3.out; first | omega | exact Nat.le_refl _⟩, drs_⟩
    rw [if_neg c12] at H; have c12b0 : decide (0 < t306) = false := df_ c12; clear c12; (first | rw [c12b0] | (simp only [i64_w, i32_w]; rw [c12b0]) | skip)
    have H' := am_ H; clear H; go_wp2_with (first | ((with_reducible refine gate_callee (f := 70) rfl ?_); refine goesL_ (some 34) rfl rfl Try.func70 (by kernel_rfl) rfl #[.string a0, .int .i64 (wrap64 ((wrap64 (t304 + t305)) + 1))] rfl goa_ ?_; (with_reducible refine (r02_digits.calls kj3 a0 (wrap64 ((wrap64 (t304 + t305)) + 1)) t306 _ A11.out).mono ?_); rintro e w' ⟨rfl, ⟨nd, rfl⟩⟩; refine ⟨_, rfl, ?_⟩))
    go_meet
    case rel => exact ⟨_, ((wrap64 (t304 + t305))), (t306), rfs_, rfs_, H', ⟨by have := HJ3.out; first | omega | exact Nat.le_refl _⟩, drs_⟩
   replace c10 := Bool.eq_false_iff.mpr c10; subst c10; rw [if_neg (show ¬ (false = true) by decide)] at H; have H' := am_ H; clear H; go_wp2; go_meet
   case rel => exact ⟨_, ((wrap64 (t304 + t305))), (0), rfs_, rfs_, H', ⟨by have := HJ3.out; first | omega | exact Nat.le_refl _⟩, drs_⟩
  clear HC9; obtain ⟨kq, x9_8, x10_8, rfl, rfl, HA, HJ8, ⟨mc8, rfl⟩⟩ := hcut
  cases kq with
  | zero => exact absurd HA.out (by simp [r02_Parts.j1])
  | succ kj8 =>
   have H := HA.out; clear HA; simp only [r02_Parts.j1] at H; by_cases c13 : (wrap64 (t305 + x10_8)) = 0
   ·rw [if_pos c13] at H; have c13b0 : ((wrap64 (t305 + x10_8)) == 0) = true := beq_iff_eq.mpr c13; have c13b1 : ((wrap64 (t305 + x10_8)) != 0) = false := bne_eq_false_iff_eq.mpr c13; clear c13; simp only [Option.some.injEq, Prod.mk.injEq] at H; obtain ⟨rfl, rfl, rfl, rfl, rfl⟩ := H; go_wp2; refine bodyPost_ret (results_list (rs := [.tmp 2, .tmp 3, .tmp 4, .tmp 5, .tmp 6]) rfl (by simp) (.tmp (.tmp (.tmp (.tmp (.tmp .nil)))))) rfl ?_
    exact ⟨by first | rfl | (simp; done) | (simp [*]; done), drs_⟩
   rw [if_neg c13] at H; have c13b0 : ((wrap64 (t305 + x10_8)) == 0) = false := beq_eq_false_iff_ne.mpr c13; have c13b1 : ((wrap64 (t305 + x10_8)) != 0) = true := bne_iff_ne.mpr c13; have HC14 := am_ H; clear H; go_upto_region 11 with (fail)
   go_cut [60] (fun v60 wc => ∃ (kq : Nat) (x60_13 : Bool), v60 = .bool x60_13 ∧ Aside0 (r02_Parts.j2 kq a0 t304 t305 x9_8 x10_8 x60_13 = some (r1, r2, r3, r4, r5)) ∧ Aside0 (kq ≤ kj8) ∧ Drawn0 w wc)
   case first =>
    have H := HC14.out; clear HC14; by_cases c15 : x9_8 < (a0.size : Int)
    ·rw [if_pos c15] at H; have c15b0 : decide (x9_8 < (a0.size : Int)) = true := dt_ c15; clear c15; (first | rw [c15b0] | (simp only [i64_w, i32_w]; rw [c15b0]) | skip)
     by_cases c16 : 0 ≤ x9_8
     ·rw [if_pos c16] at H; have c16b0 : decide (0 ≤ x9_8) = true := dt_ c16; clear c16; by_cases c18 : (bt a0 x9_8) = 101
      ·rw [if_pos c18] at H; have c18b0 : ((bt a0 x9_8) == 101) = true := beq_iff_eq.mpr c18; have c18b1 : ((bt a0 x9_8) != 101) = false := bne_eq_false_iff_eq.mpr c18; clear c18; have H' := am_ H; clear H; have p17 : 0 ≤ (x9_8 : Int) := od_ (by first | (with_reducible assumption) | assumption); have q17 : x9_8 < (a0.size : Int) := od_ (by first | (with_reducible assumption) | assumption); have hx17 := bt_at a0 x9_8; replace p17 := eq_true p17; replace q17 := eq_true q17; go_wp2; go_meet
       case rel => exact ⟨_, (true), rfs_, H', ⟨by have := HJ3.out; have := HJ8.out; first | omega | exact Nat.le_refl _⟩, drs_⟩
      rw [if_neg c18] at H; have c18b0 : ((bt a0 x9_8) == 101) = false := beq_eq_false_iff_ne.mpr c18; have c18b1 : ((bt a0 x9_8) != 101) = true := bne_iff_ne.mpr c18; have H' := am_ H; clear H; have p17 : 0 ≤ (x9_8 : Int) := od_ (by first | (with_reducible assumption) | assumption); have q17 : x9_8 < (a0.size : Int) := od_ (by first | (with_reducible assumption) | assumption); have hx17 := bt_at a0 x9_8; replace p17 := eq_true p17; replace q17 := eq_true q17; have p19 : 0 ≤ (x9_8 : Int) := od_ (by first | (with_reducible assumption) | assumption); have q19 : x9_8 < (a0.size : Int) := od_ (by first | (with_reducible assumption) | assumption); have hx19 := bt_at a0 x9_8; replace p19 := eq_true p19; replace q19 := eq_true q19; go_wp2; go_meet
      case rel => exact ⟨_, (((bt a0 x9_8) == 69)), rfs_, H', ⟨by have := HJ3.out; have := HJ8.out; first | omega | exact Nat.le_refl _⟩, drs_⟩
     rw [if_neg c16] at H; exact absurd H (by simp)
    rw [if_neg c15] at H; have c15b0 : decide (x9_8 < (a0.size : Int)) = false := df_ c15; clear c15; (first | rw [c15b0] | (simp only [i64_w, i32_w]; rw [c15b0]) | skip)
    have H' := am_ H; clear H; go_wp2; go_meet
    case rel => exact ⟨_, (false), rfs_, H', ⟨by have := HJ3.out; have := HJ8.out; first | omega | exact Nat.le_refl _⟩, drs_⟩
   clear HC14; try clear c13
   try clear c13b0
   try clear c13b1
   obtain ⟨kq, x60_13, rfl, HA, HJ13, ⟨mc13, rfl⟩⟩ := hcut
   cases kq with
   | zero => exact absurd HA.out (by simp [r02_Parts.j2])
   | succ kj13 =>
    have H := HA.out; clear HA; simp only [r02_Parts.j2] at H; by_cases c20 : x60_13 = true
    ·subst c20; rw [if_pos rfl] at H; replace H := bs_ H; obtain ⟨t307, A210, H⟩ := H; try dsimp only at H
     have A21 := am_ A210; clear A210; replace H := bs_ H; obtain ⟨t308, A220, H⟩ := H; try dsimp only at H
     have A22 := am_ A220; clear A220; by_cases c23 : t308 > 0
     ·rw [if_pos c23] at H; have c23b0 : decide (0 < t308) = true := dt_ c23; clear c23; simp only [Option.some.injEq, Prod.mk.injEq] at H; obtain ⟨rfl, rfl, rfl, rfl, rfl⟩ := H; go_wp2_with (first | ((with_reducible refine gate_callee (f := 69) rfl ?_); refine goesL_ (some 64) rfl rfl Try.func69 (by kernel_rfl) rfl #[.string a0, .int .i64 (wrap64 (x9_8 + 1))] rfl goa_ ?_; (with_reducible refine (r02_sign.calls a0 (wrap64 (x9_8 + 1)) t307 _ A21.out).mono ?_); rintro e w' ⟨rfl, ⟨nd, rfl⟩⟩; refine ⟨_, rfl, ?_⟩) | ((with_reducible refine gate_callee (f := 70) rfl ?_); refine goesL_ (some 70) rfl rfl Try.func70 (by kernel_rfl) rfl #[.string a0, .int .i64 (wrap64 ((wrap64 (x9_8 + 1)) + t307))] rfl goa_ ?_; (with_reducible refine (r02_digits.calls kj13 a0 (wrap64 ((wrap64 (x9_8 + 1)) + t307)) t308 _ A22.out).mono ?_); rintro e w' ⟨rfl, ⟨nd, rfl⟩⟩; refine ⟨_, rfl, ?_⟩))
      refine bodyPost_ret (results_list (rs := [.tmp 2, .tmp 3, .tmp 4, .tmp 5, .tmp 6]) rfl (by simp) (.tmp (.tmp (.tmp (.tmp (.tmp .nil)))))) rfl ?_
      exact ⟨by first | rfl | (simp; done) | (simp [*]; done), drs_⟩
     rw [if_neg c23] at H; have c23b0 : decide (0 < t308) = false := df_ c23; clear c23; simp only [Option.some.injEq, Prod.mk.injEq] at H; obtain ⟨rfl, rfl, rfl, rfl, rfl⟩ := H; go_wp2_with (first | ((with_reducible refine gate_callee (f := 69) rfl ?_); refine goesL_ (some 64) rfl rfl Try.func69 (by kernel_rfl) rfl #[.string a0, .int .i64 (wrap64 (x9_8 + 1))] rfl goa_ ?_; (with_reducible refine (r02_sign.calls a0 (wrap64 (x9_8 + 1)) t307 _ A21.out).mono ?_); rintro e w' ⟨rfl, ⟨nd, rfl⟩⟩; refine ⟨_, rfl, ?_⟩) | ((with_reducible refine gate_callee (f := 70) rfl ?_); refine goesL_ (some 70) rfl rfl Try.func70 (by kernel_rfl) rfl #[.string a0, .int .i64 (wrap64 ((wrap64 (x9_8 + 1)) + t307))] rfl goa_ ?_; (with_reducible refine (r02_digits.calls kj13 a0 (wrap64 ((wrap64 (x9_8 + 1)) + t307)) t308 _ A22.out).mono ?_); rintro e w' ⟨rfl, ⟨nd, rfl⟩⟩; refine ⟨_, rfl, ?_⟩))
     refine bodyPost_ret (results_list (rs := [.tmp 2, .tmp 3, .tmp 4, .tmp 5, .tmp 6]) rfl (by simp) (.tmp (.tmp (.tmp (.tmp (.tmp .nil)))))) rfl ?_
     exact ⟨by first | rfl | (simp; done) | (simp [*]; done), drs_⟩
    replace c20 := Bool.eq_false_iff.mpr c20; subst c20; rw [if_neg (show ¬ (false = true) by decide)] at H; simp only [Option.some.injEq, Prod.mk.injEq] at H; obtain ⟨rfl, rfl, rfl, rfl, rfl⟩ := H; go_wp2; refine bodyPost_ret (results_list (rs := [.tmp 2, .tmp 3, .tmp 4, .tmp 5, .tmp 6]) rfl (by simp) (.tmp (.tmp (.tmp (.tmp (.tmp .nil)))))) rfl ?_
    exact ⟨by first | rfl | (simp; done) | (simp [*]; done), drs_⟩


/-! ### r02_round: function 50 -/
mutual
def r02_round.j1 : Nat → List Int → Int → Int → Option (Int)
 | 0, _, _, _ => none
 | k + 1, x0, x1, x5 => r02_round.l1 k x0 x1 x5 x1
def r02_round.l1 : Nat → List Int → Int → Int → Int → Option (Int)
 | 0, _, _, _, _ => none
 | k + 1, x0, x1, x5, x7 => if x7 < 0 then (r02_round.l1 k x0 x1 (mn 68719476737 (wrap64 (10 * x5))) (wrap64 (x7 + 1))) else (if x1 > 0 then (if x1 ≤ (x0.length : Int) then (if 0 ≤ (wrap64 (x1 - 1)) then (if (wrap64 (x1 - 1)) < (x0.length : Int) then (if (rd x0 (wrap64 (x1 - 1))) ≥ 5 then (some (wrap64 (x5 + 1))) else (some x5)) else (none)) else (none)) else (some x5)) else (some x5))
def r02_round.l0 : Nat → List Int → Int → Int → Int → Option (Int)
 | 0, _, _, _, _ => none
 | k + 1, x0, x1, x5, x6 => if x6 ≥ 0 then (if x6 ≥ x1 then (if 0 ≤ x6 then (if x6 < (x0.length : Int) then (r02_round.l0 k x0 x1 (mn 68719476737 (wrap64 ((wrap64 (10 * x5)) + (rd x0 x6)))) (wrap64 (x6 - 1))) else (none)) else (none)) else (r02_round.j1 k x0 x1 x5)) else (r02_round.j1 k x0 x1 x5)
end
def r02_round.f (k : Nat) (l0 : List Int) (a1 : Int) : Option (Int) := r02_round.l0 k l0 a1 0 (wrap64 ((l0.length : Int) - 1))
theorem r02_round.mono_l : ∀ k, (∀ y0 y1 y2, LeO (r02_round.j1 k y0 y1 y2) (r02_round.j1 (k + 1) y0 y1 y2)) ∧ (∀ y0 y1 y2 y3, LeO (r02_round.l1 k y0 y1 y2 y3) (r02_round.l1 (k + 1) y0 y1 y2 y3)) ∧ (∀ y0 y1 y2 y3, LeO (r02_round.l0 k y0 y1 y2 y3) (r02_round.l0 (k + 1) y0 y1 y2 y3))
 | 0 => ⟨fun _ _ _ r h => by simp [r02_round.j1] at h, fun _ _ _ _ r h => by simp [r02_round.l1] at h, fun _ _ _ _ r h => by simp [r02_round.l0] at h⟩
 | k + 1 => by
  obtain ⟨ih0, ih1, ih2⟩ := r02_round.mono_l k; refine ⟨?_, ?_, ?_⟩
  ·intro y0 y1 y2; unfold r02_round.j1; repeat' first
   | (with_reducible exact ih0 _ _ _)
   | (with_reducible exact ih1 _ _ _ _)
   | (with_reducible exact ih2 _ _ _ _)
   | (with_reducible first | exact LeO.refl _ | exact LeO.none _ | refine LeO.ite ?_ ?_ | refine LeO.bind ?_ (fun _ => ?_))
  ·intro y0 y1 y2 y3; unfold r02_round.l1; repeat' first
   | (with_reducible exact ih0 _ _ _)
   | (with_reducible exact ih1 _ _ _ _)
   | (with_reducible exact ih2 _ _ _ _)
   | (with_reducible first | exact LeO.refl _ | exact LeO.none _ | refine LeO.ite ?_ ?_ | refine LeO.bind ?_ (fun _ => ?_))
  intro y0 y1 y2 y3; unfold r02_round.l0; repeat' first
  | (with_reducible exact ih0 _ _ _)
  | (with_reducible exact ih1 _ _ _ _)
  | (with_reducible exact ih2 _ _ _ _)
  | (with_reducible first | exact LeO.refl _ | exact LeO.none _ | refine LeO.ite ?_ ?_ | refine LeO.bind ?_ (fun _ => ?_))
theorem r02_round.mono : ∀ a0 a1 k, LeO (r02_round.f k a0 a1) (r02_round.f (k + 1) a0 a1) := by
 intro a0 a1 k; obtain ⟨ih0, ih1, ih2⟩ := r02_round.mono_l k; unfold r02_round.f; repeat' first
   | (with_reducible exact ih0 _ _ _)
   | (with_reducible exact ih1 _ _ _ _)
   | (with_reducible exact ih2 _ _ _ _)
   | (with_reducible first | exact LeO.refl _ | exact LeO.none _ | refine LeO.ite ?_ ?_ | refine LeO.bind ?_ (fun _ => ?_))
set_option maxHeartbeats 8000000 in
theorem r02_round.calls (k : Nat) (A0 : Option Addr) (c0 : Nat) (l0 : List Int) (a1 : Int) (r : Int) (w : World) (hr0 : Kd.C (Kd.int .i64) w A0 l0.length l0) (hc0 : l0.length ≤ c0) (h : r02_round.f k l0 a1 = some r) :
  Calls Try.prog 50 #[.slice A0 l0.length c0, .int .i64 a1] w fun e w' => e = .returned (.int .i64 r) ∧ Below w.heap.size w w' := by
 have HR0 := am_ hr0; have HC0 := am_ hc0; clear hr0 hc0; have HB := am_ (Below.refl w.heap.size w); have H : (r02_round.l0 k l0 a1 0 (wrap64 ((l0.length : Int) - 1))) = some r := h; clear h; have HC3 := am_ H; clear H; go_enter Try.func50, Try.ntmps50
 go_upto_block 0 with (fail)
 go_cut [5] (fun v5 wc => ∃ (kq : Nat) (x5_2 : Int), v5 = .int .i64 x5_2 ∧ Aside0 (r02_round.j1 kq l0 a1 x5_2 = some r) ∧ Aside0 (kq ≤ k) ∧ Aside0 (Below w.heap.size w wc))
 case first =>
  have H := HC3.out; clear HC3; have H' := am_ H; clear H; go_wp2; go_loopg [5, 6] k (fun kq v5 v6 w' => ∃ (x5_1 : Int) (x6_1 : Int), v5 = .int .i64 x5_1 ∧ v6 = .int .i64 x6_1 ∧ Aside0 (r02_round.l0 kq l0 a1 x5_1 x6_1 = some r) ∧ Aside0 (kq ≤ k) ∧ Aside0 (Below w.heap.size w w'))
  case atStart => exact ⟨(0), (wrap64 ((l0.length : Int) - 1)), rfs_, rfs_, H', ⟨Nat.le_refl _⟩, ⟨bel_⟩⟩
  case round =>
   clear H'; obtain ⟨x5_1, x6_1, rfl, rfl, HA, HK1, HB⟩ := hrel
   cases gk with
   | zero => exact absurd HA.out (by simp [r02_round.l0])
   | succ k1 =>
    have H := HA.out; clear HA; simp only [r02_round.l0] at H; by_cases c4 : x6_1 ≥ 0
    ·rw [if_pos c4] at H; have c4b0 : decide (0 ≤ x6_1) = true := dt_ c4; clear c4; (first | rw [c4b0] | (simp only [i64_w, i32_w]; rw [c4b0]) | skip)
     by_cases c5 : x6_1 ≥ a1
     ·rw [if_pos c5] at H; have c5b0 : decide (a1 ≤ x6_1) = true := dt_ c5; clear c5; by_cases c6 : 0 ≤ x6_1
      ·rw [if_pos c6] at H; have c6b0 : decide (0 ≤ x6_1) = true := dt_ c6; clear c6; by_cases c7 : x6_1 < (l0.length : Int)
       ·rw [if_pos c7] at H; have c7b0 : decide (x6_1 < (l0.length : Int)) = true := dt_ c7; clear c7; obtain ⟨ji8, hji8⟩ : ∃ j_ : Int, (mn 68719476737 (wrap64 ((wrap64 (10 * x5_1)) + (rd l0 x6_1)))) = j_ := ⟨_, rfl⟩
        replace H : (r02_round.l0 k1 l0 a1 ji8 (wrap64 (x6_1 - 1))) = some r := by first | (rw [hji8] at H; exact H) | (simp only [hji8] at H ⊢; exact H)
        have hji8_ : (if (wrap64 ((wrap64 (10 * x5_1)) + (rd l0 x6_1))) < 68719476737 then (wrap64 ((wrap64 (10 * x5_1)) + (rd l0 x6_1))) else 68719476737) = ji8 := hji8; have H' := am_ H; clear H; have p309 : 0 ≤ (x6_1 : Int) := od_ (by first | (with_reducible assumption) | assumption); have q309 : x6_1 < (l0.length : Int) := od_ (by first | (with_reducible assumption) | assumption); obtain ⟨ad309, e309, hx309_0⟩ := Kd.at_int HR0.out x6_1 p309 q309; cases e309
        replace hx309_0 := (HB.out.cell (World.block_lt_of_cell? w _ hx309_0)).trans hx309_0; replace p309 := eq_true p309; replace q309 := eq_true q309; go_wp2; go_roundg k1
        case measure => have := HK1.out; omega
        case rel => exact ⟨(ji8), (wrap64 (x6_1 - 1)), (by first | rfl | (simp; done) | (simp only [← hji8] <;> (first | rfl | simp)) | (simp [*]; done)), rfs_, H', ⟨by have := HK1.out; omega⟩, ⟨bel_⟩⟩
       rw [if_neg c7] at H; exact absurd H (by simp)
      rw [if_neg c6] at H; exact absurd H (by simp)
     rw [if_neg c5] at H; have c5b0 : decide (a1 ≤ x6_1) = false := df_ c5; clear c5; have H' := am_ H; clear H; go_wp2; go_meet
     case rel => exact ⟨_, (x5_1), rfs_, H', ⟨by have := HK1.out; first | omega | exact Nat.le_refl _⟩, ⟨bel_⟩⟩
    rw [if_neg c4] at H; have c4b0 : decide (0 ≤ x6_1) = false := df_ c4; clear c4; (first | rw [c4b0] | (simp only [i64_w, i32_w]; rw [c4b0]) | skip)
    have H' := am_ H; clear H; go_wp2; go_meet
    case rel => exact ⟨_, (x5_1), rfs_, H', ⟨by have := HK1.out; first | omega | exact Nat.le_refl _⟩, ⟨bel_⟩⟩
 clear HC3; obtain ⟨kq, x5_2, rfl, HA, HJ2, HB⟩ := hcut
 cases kq with
 | zero => exact absurd HA.out (by simp [r02_round.j1])
 | succ kj2 =>
  have H := HA.out; clear HA; simp only [r02_round.j1] at H; have H' := am_ H; clear H; go_wp2; go_loopg [5, 7] kj2 (fun kq v5 v7 w' => ∃ (x5_2 : Int) (x7_2 : Int), v5 = .int .i64 x5_2 ∧ v7 = .int .i64 x7_2 ∧ Aside0 (r02_round.l1 kq l0 a1 x5_2 x7_2 = some r) ∧ Aside0 (kq ≤ kj2) ∧ Aside0 (Below w.heap.size w w'))
  case atStart => exact ⟨(x5_2), (a1), rfs_, rfs_, H', ⟨Nat.le_refl _⟩, ⟨bel_⟩⟩
  case round =>
   clear H'; obtain ⟨x5_2, x7_2, rfl, rfl, HA, HK2, HB⟩ := hrel
   cases gk with
   | zero => exact absurd HA.out (by simp [r02_round.l1])
   | succ k2 =>
    have H := HA.out; clear HA; simp only [r02_round.l1] at H; by_cases c9 : x7_2 < 0
    ·rw [if_pos c9] at H; have c9b0 : decide (x7_2 < 0) = true := dt_ c9; clear c9; obtain ⟨ji10, hji10⟩ : ∃ j_ : Int, (mn 68719476737 (wrap64 (10 * x5_2))) = j_ := ⟨_, rfl⟩
     replace H : (r02_round.l1 k2 l0 a1 ji10 (wrap64 (x7_2 + 1))) = some r := by first | (rw [hji10] at H; exact H) | (simp only [hji10] at H ⊢; exact H)
     have hji10_ : (if (wrap64 (10 * x5_2)) < 68719476737 then (wrap64 (10 * x5_2)) else 68719476737) = ji10 := hji10; have H' := am_ H; clear H; go_wp2; go_roundg k2
     case measure => have := HJ2.out; have := HK2.out; omega
     case rel => exact ⟨(ji10), (wrap64 (x7_2 + 1)), (by first | rfl | (simp; done) | (simp only [← hji10] <;> (first | rfl | simp)) | (simp [*]; done)), rfs_, H', ⟨by have := HJ2.out; have := HK2.out; omega⟩, ⟨bel_⟩⟩
    rw [if_neg c9] at H; have c9b0 : decide (x7_2 < 0) = false := df_ c9; clear c9; by_cases c11 : a1 > 0
    ·rw [if_pos c11] at H; have c11b0 : decide (0 < a1) = true := dt_ c11; clear c11; by_cases c12 : a1 ≤ (l0.length : Int)
     ·rw [if_pos c12] at H; have c12b0 : decide (a1 ≤ (l0.length : Int)) = true := dt_ c12; clear c12; obtain ⟨ji13, hji13⟩ : ∃ j_ : Int, (wrap64 (a1 - 1)) = j_ := ⟨_, rfl⟩
      replace H : (if 0 ≤ (ji13) then (if (ji13) < (l0.length : Int) then (if (rd l0 (ji13)) ≥ 5 then (some (wrap64 (x5_2 + 1))) else (some x5_2)) else (none)) else (none)) = some r := by first | (rw [hji13] at H; exact H) | (simp only [hji13] at H ⊢; exact H)
      have hji13w : (IntKind.i64.wrap (a1 - 1)) = ji13 := (i64_w _).trans hji13; by_cases c14 : 0 ≤ (ji13)
      ·rw [if_pos c14] at H; have c14b0 : decide (0 ≤ (ji13)) = true := dt_ c14; clear c14; by_cases c15 : (ji13) < (l0.length : Int)
       ·rw [if_pos c15] at H; have c15b0 : decide ((ji13) < (l0.length : Int)) = true := dt_ c15; clear c15; by_cases c16 : (rd l0 (ji13)) ≥ 5
        ·rw [if_pos c16] at H; have c16b0 : decide (5 ≤ (rd l0 (ji13))) = true := dt_ c16; clear c16; obtain rfl := si_ H; have p310 : 0 ≤ ((ji13) : Int) := od_ (by first | (with_reducible assumption) | assumption); have q310 : (ji13) < (l0.length : Int) := od_ (by first | (with_reducible assumption) | assumption); obtain ⟨ad310, e310, hx310_0⟩ := Kd.at_int HR0.out (ji13) p310 q310; cases e310
         replace hx310_0 := (HB.out.cell (World.block_lt_of_cell? w _ hx310_0)).trans hx310_0; replace p310 := eq_true p310; replace q310 := eq_true q310; go_wp2; go_ret
         exact ⟨by first | rfl | (simp [errW_none, errW_some] <;> rfl) | (simp only [← hji13]; first | rfl | (simp [errW_none, errW_some] <;> rfl)) | (simp [*, errW_none, errW_some] <;> rfl), bel_⟩
        rw [if_neg c16] at H; have c16b0 : decide (5 ≤ (rd l0 (ji13))) = false := df_ c16; clear c16; obtain rfl := si_ H; have p310 : 0 ≤ ((ji13) : Int) := od_ (by first | (with_reducible assumption) | assumption); have q310 : (ji13) < (l0.length : Int) := od_ (by first | (with_reducible assumption) | assumption); obtain ⟨ad310, e310, hx310_0⟩ := Kd.at_int HR0.out (ji13) p310 q310; cases e310
        replace hx310_0 := (HB.out.cell (World.block_lt_of_cell? w _ hx310_0)).trans hx310_0; replace p310 := eq_true p310; replace q310 := eq_true q310; go_wp2; go_ret
        exact ⟨by first | rfl | (simp [errW_none, errW_some] <;> rfl) | (simp only [← hji13]; first | rfl | (simp [errW_none, errW_some] <;> rfl)) | (simp [*, errW_none, errW_some] <;> rfl), bel_⟩
       rw [if_neg c15] at H; exact absurd H (by simp)
      rw [if_neg c14] at H; exact absurd H (by simp)
     rw [if_neg c12] at H; have c12b0 : decide (a1 ≤ (l0.length : Int)) = false := df_ c12; clear c12; obtain rfl := si_ H; go_wp2; go_ret
     exact ⟨rsl_, bel_⟩
    rw [if_neg c11] at H; have c11b0 : decide (0 < a1) = false := df_ c11; clear c11; obtain rfl := si_ H; go_wp2; go_ret
    exact ⟨rsl_, bel_⟩


/-! ### r02_scaled: function 51 -/
mutual
def r02_scaled.l0 : Nat → List Int → Int → List Int → Int → Int → Option (List Int)
 | 0, _, _, _, _, _ => none
 | k + 1, x0, x1, x5, x6, x7 => if x7 < (x0.length : Int) then (if 0 ≤ x7 then (if x5.length < 17592186044416 then (r02_scaled.l0 k x0 x1 (x5 ++ [Int.tmod (wrap64 ((wrap64 ((rd x0 x7) * x1)) + x6)) 10]) (wrap64 (Int.tdiv (wrap64 ((wrap64 ((rd x0 x7) * x1)) + x6)) 10)) (wrap64 (x7 + 1))) else (none)) else (none)) else (r02_scaled.l1 k x5 x6)
def r02_scaled.l1 : Nat → List Int → Int → Option (List Int)
 | 0, _, _ => none
 | k + 1, x5, x6 => if x6 > 0 then (if x5.length < 17592186044416 then (r02_scaled.l1 k (x5 ++ [Int.tmod x6 10]) (wrap64 (Int.tdiv x6 10))) else (none)) else (some x5)
end
def r02_scaled.f (k : Nat) (l0 : List Int) (a1 : Int) : Option (List Int) := r02_scaled.l0 k l0 a1 ([] : List Int) 0 0
theorem r02_scaled.mono_l : ∀ k, (∀ y0 y1 y2 y3 y4, LeO (r02_scaled.l0 k y0 y1 y2 y3 y4) (r02_scaled.l0 (k + 1) y0 y1 y2 y3 y4)) ∧ (∀ y0 y1, LeO (r02_scaled.l1 k y0 y1) (r02_scaled.l1 (k + 1) y0 y1))
 | 0 => ⟨fun _ _ _ _ _ r h => by simp [r02_scaled.l0] at h, fun _ _ r h => by simp [r02_scaled.l1] at h⟩
 | k + 1 => by
  obtain ⟨ih0, ih1⟩ := r02_scaled.mono_l k; refine ⟨?_, ?_⟩
  ·intro y0 y1 y2 y3 y4; unfold r02_scaled.l0; repeat' first
   | (with_reducible exact ih0 _ _ _ _ _)
   | (with_reducible exact ih1 _ _)
   | (with_reducible first | exact LeO.refl _ | exact LeO.none _ | refine LeO.ite ?_ ?_ | refine LeO.bind ?_ (fun _ => ?_))
  intro y0 y1; unfold r02_scaled.l1; repeat' first
  | (with_reducible exact ih0 _ _ _ _ _)
  | (with_reducible exact ih1 _ _)
  | (with_reducible first | exact LeO.refl _ | exact LeO.none _ | refine LeO.ite ?_ ?_ | refine LeO.bind ?_ (fun _ => ?_))
theorem r02_scaled.mono : ∀ a0 a1 k, LeO (r02_scaled.f k a0 a1) (r02_scaled.f (k + 1) a0 a1) := by
 intro a0 a1 k; obtain ⟨ih0, ih1⟩ := r02_scaled.mono_l k; unfold r02_scaled.f; repeat' first
   | (with_reducible exact ih0 _ _ _ _ _)
   | (with_reducible exact ih1 _ _)
   | (with_reducible first | exact LeO.refl _ | exact LeO.none _ | refine LeO.ite ?_ ?_ | refine LeO.bind ?_ (fun _ => ?_))
set_option maxHeartbeats 8000000 in
theorem r02_scaled.calls (k : Nat) (A0 : Option Addr) (c0 : Nat) (l0 : List Int) (a1 : Int) (r : List Int) (w : World) (hr0 : Kd.C (Kd.int .i64) w A0 l0.length l0) (hc0 : l0.length ≤ c0) (h : r02_scaled.f k l0 a1 = some r) :
  Calls Try.prog 51 #[.slice A0 l0.length c0, .int .i64 a1] w fun e w' => ∃ v0_ : Value, e = .returned (v0_) ∧ Kd.R (Kd.int .i64) 3 w' w.heap.size (fun _ => True) v0_ r ∧ Below w.heap.size w w' := by
 have HR0 := am_ hr0; have HC0 := am_ hc0; clear hr0 hc0; have HB := am_ (Below.refl w.heap.size w); have H : (r02_scaled.l0 k l0 a1 ([] : List Int) 0 0) = some r := h; clear h; have H' := am_ H; clear H; go_enter Try.func51, Try.ntmps51
 go_wp2; go_loopg [5, 6, 7] k (fun kq v5 v6 v7 w' => ∃ (x5_1 : List Int) (x6_1 : Int) (x7_1 : Int), v6 = .int .i64 x6_1 ∧ v7 = .int .i64 x7_1 ∧ Aside0 (r02_scaled.l0 kq l0 a1 x5_1 x6_1 x7_1 = some r) ∧ Aside0 (kq ≤ k) ∧ Aside0 (Kd.R (Kd.int .i64) 3 w' w.heap.size (fun _ => True) v5 x5_1) ∧ Aside0 (Below w.heap.size w w'))
 case atStart => exact ⟨(([] : List Int)), (0), (0), rfs_, rfs_, H', ⟨Nat.le_refl _⟩, ⟨by first | exact Kd.R_nil _ _ _ _ _ | exact Kd.N_nil _ _ _ _ _ | exact Kd.V_nil _ _ _ _ _ | exact Kd.Q_nil _ _ _ _ _ | exact Kd.S_nil _ _ _ _ _⟩, ⟨bel_⟩⟩
 case round =>
  clear H'; obtain ⟨x5_1, x6_1, x7_1, rfl, rfl, HA, HK1, HO_5, HB⟩ := hrel
  cases gk with
  | zero => exact absurd HA.out (by simp [r02_scaled.l0])
  | succ k1 =>
   have H := HA.out; clear HA; simp only [r02_scaled.l0] at H; by_cases c3 : x7_1 < (l0.length : Int)
   ·rw [if_pos c3] at H; have c3b0 : decide (x7_1 < (l0.length : Int)) = true := dt_ c3; clear c3; by_cases c4 : 0 ≤ x7_1
    ·rw [if_pos c4] at H; have c4b0 : decide (0 ≤ x7_1) = true := dt_ c4; clear c4; by_cases c5 : x5_1.length < 17592186044416
     ·rw [if_pos c5] at H; have LMc5 := am_ c5; clear c5; obtain ⟨y312, hy312⟩ : ∃ y_ : List Int, y_ = (x5_1 ++ [Int.tmod (wrap64 ((wrap64 ((rd l0 x7_1) * a1)) + x6_1)) 10]) := ⟨_, rfl⟩
      replace H : (r02_scaled.l0 k1 l0 a1 y312 (wrap64 (Int.tdiv (wrap64 ((wrap64 ((rd l0 x7_1) * a1)) + x6_1)) 10)) (wrap64 (x7_1 + 1))) = some r := by first | (rw [hy312]; with_reducible exact H) | (have H2_ := (Option.bind_some _ _).symm.trans H; rw [hy312]; with_reducible exact H2_) | (have H2_ := (Option.bind_some _ _).symm.trans H; with_reducible exact H2_) | with_reducible exact H | (rw [hy312]; exact H) | exact H
      have Ny312 := am_ hy312; clear hy312; have H' := am_ H; clear H; have p311 : 0 ≤ (x7_1 : Int) := od_ (by first | (with_reducible assumption) | assumption); have q311 : x7_1 < (l0.length : Int) := od_ (by first | (with_reducible assumption) | assumption); obtain ⟨ad311, e311, hx311_0⟩ := Kd.at_int HR0.out x7_1 p311 q311; cases e311
      replace hx311_0 := (HB.out.cell (World.block_lt_of_cell? w _ hx311_0)).trans hx311_0; replace p311 := eq_true p311; replace q311 := eq_true q311; go_wp2_with (first | ((with_reducible refine gate_builtin (b := .append) (xs := #[.tmp 23, .tmp 26]) rfl ?_); at_builtin; refine Kd.R_append (Kd.int .i64) (w0 := w) w.heap.size rfl (.tmp 23) (.tmp 26) 84 3 (.int .i64 0) 8 rfl Try.underlying84 info3 rfl (by decide) (by omega) u5 x5_1 (Int.tmod (wrap64 ((wrap64 ((rd l0 x7_1) * a1)) + x6_1)) 10) [.int .i64 (Int.tmod (wrap64 ((wrap64 ((rd l0 x7_1) * a1)) + x6_1)) 10)] (fun _ => True) (fun _ => False) rfl rfl ?aP (fun _ hk => hk.elim) ?aF ?aO ?aB ?aS ?aL ?_; (case aP => exact rfl); (case aB => exact bel_); (case aF => exact (fun _ _ => trivial)); (case aO => exact (row_ HO_5)); (case aS => exact (below_size bel_)); (case aL => have := LMc5.out; omega); intro v313 w6 ho hb hg hat; rw [← Ny312.out] at ho; have n0_ := am_ (hb); have n1_ := am_ (ho); clear HB; clear HO_5; have HB := n0_; have HO314 := n1_; clear n0_ n1_; clear ho hb hg hat))
      go_roundg k1
      case measure => have := HK1.out; omega
      case rel => exact ⟨(y312), (wrap64 (Int.tdiv (wrap64 ((wrap64 ((rd l0 x7_1) * a1)) + x6_1)) 10)), (wrap64 (x7_1 + 1)), rfs_, rfs_, H', ⟨by have := HK1.out; omega⟩, ⟨by (with_reducible repeat (first | apply Kd.R_alloc | apply Kd.R_drewN | apply Kd.R_drew)); exact HO314.out⟩, ⟨bel_⟩⟩
     rw [if_neg c5] at H; exact absurd H (by simp)
    rw [if_neg c4] at H; exact absurd H (by simp)
   rw [if_neg c3] at H; have c3b0 : decide (x7_1 < (l0.length : Int)) = false := df_ c3; clear c3; have H' := am_ H; clear H; go_wp2; go_loopg [5, 6] k1 (fun kq v5 v6 w' => ∃ (x5_2 : List Int) (x6_2 : Int), v6 = .int .i64 x6_2 ∧ Aside0 (r02_scaled.l1 kq x5_2 x6_2 = some r) ∧ Aside0 (kq ≤ k1) ∧ Aside0 (Kd.R (Kd.int .i64) 3 w' w.heap.size (fun _ => True) v5 x5_2) ∧ Aside0 (Below w.heap.size w w'))
   case atStart => exact ⟨(x5_1), (x6_1), rfs_, H', ⟨Nat.le_refl _⟩, ⟨by (with_reducible repeat (first | apply Kd.R_alloc | apply Kd.R_drewN | apply Kd.R_drew)); exact HO_5.out⟩, ⟨bel_⟩⟩
   case round =>
    clear H'; try clear c3b0
    obtain ⟨x5_2, x6_2, rfl, HA, HK2, HO_5, HB⟩ := hrel
    cases gk with
    | zero => exact absurd HA.out (by simp [r02_scaled.l1])
    | succ k2 =>
     have H := HA.out; clear HA; simp only [r02_scaled.l1] at H; by_cases c7 : x6_2 > 0
     ·rw [if_pos c7] at H; have c7b0 : decide (0 < x6_2) = true := dt_ c7; clear c7; by_cases c8 : x5_2.length < 17592186044416
      ·rw [if_pos c8] at H; have LMc8 := am_ c8; clear c8; obtain ⟨y315, hy315⟩ : ∃ y_ : List Int, y_ = (x5_2 ++ [Int.tmod x6_2 10]) := ⟨_, rfl⟩
       replace H : (r02_scaled.l1 k2 y315 (wrap64 (Int.tdiv x6_2 10))) = some r := by first | (rw [hy315]; with_reducible exact H) | (have H2_ := (Option.bind_some _ _).symm.trans H; rw [hy315]; with_reducible exact H2_) | (have H2_ := (Option.bind_some _ _).symm.trans H; with_reducible exact H2_) | with_reducible exact H | (rw [hy315]; exact H) | exact H
       have Ny315 := am_ hy315; clear hy315; have H' := am_ H; clear H; go_wp2_with (first | ((with_reducible refine gate_builtin (b := .append) (xs := #[.tmp 32, .tmp 35]) rfl ?_); at_builtin; refine Kd.R_append (Kd.int .i64) (w0 := w) w.heap.size rfl (.tmp 32) (.tmp 35) 84 3 (.int .i64 0) 8 rfl Try.underlying84 info3 rfl (by decide) (by omega) u5 x5_2 (Int.tmod x6_2 10) [.int .i64 (Int.tmod x6_2 10)] (fun _ => True) (fun _ => False) rfl rfl ?aP (fun _ hk => hk.elim) ?aF ?aO ?aB ?aS ?aL ?_; (case aP => exact rfl); (case aB => exact bel_); (case aF => exact (fun _ _ => trivial)); (case aO => exact (row_ HO_5)); (case aS => exact (below_size bel_)); (case aL => have := LMc8.out; omega); intro v316 w9 ho hb hg hat; rw [← Ny315.out] at ho; have n0_ := am_ (hb); have n1_ := am_ (ho); clear HB; clear HO_5; have HB := n0_; have HO317 := n1_; clear n0_ n1_; clear ho hb hg hat))
       go_roundg k2
       case measure => have := HK1.out; have := HK2.out; omega
       case rel => exact ⟨(y315), (wrap64 (Int.tdiv x6_2 10)), rfs_, H', ⟨by have := HK1.out; have := HK2.out; omega⟩, ⟨by (with_reducible repeat (first | apply Kd.R_alloc | apply Kd.R_drewN | apply Kd.R_drew)); exact HO317.out⟩, ⟨bel_⟩⟩
      rw [if_neg c8] at H; exact absurd H (by simp)
     rw [if_neg c7] at H; have c7b0 : decide (0 < x6_2) = false := df_ c7; clear c7; obtain rfl := si_ H; go_wp2; go_ret
     exact ⟨_, rsl_, by (with_reducible repeat (first | apply Kd.R_alloc | apply Kd.R_drewN | apply Kd.R_drew)); exact HO_5.out, bel_⟩

/-! ### r02_exponent: function 52 -/
def r02_exponent.l0 : Nat → ByteArray → Int → Int → Int → Option (Int)
 | 0, _, _, _, _ => none
 | k + 1, x0, x1, x5, x6 => if x6 < (x0.size : Int) then (if 0 ≤ x6 then (r02_exponent.l0 k x0 x1 (mn 1000 (wrap64 ((wrap64 (10 * x5)) + (((bt x0 x6) - 48) % 256)))) (wrap64 (x6 + 1))) else (none)) else (if 0 ≤ x1 then (if x1 < (x0.size : Int) then (if (bt x0 x1) = 45 then (some (wrap64 (-x5))) else (some x5)) else (none)) else (none))
def r02_exponent.f (k : Nat) (a0 : ByteArray) (a1 : Int) : Option (Int) := if a1 = 0 then (some 0) else ((r02_sign.f a0 a1).bind fun t318 => (r02_exponent.l0 k a0 a1 0 (wrap64 (a1 + t318))))
theorem r02_exponent.mono_l : ∀ k, (∀ y0 y1 y2 y3, LeO (r02_exponent.l0 k y0 y1 y2 y3) (r02_exponent.l0 (k + 1) y0 y1 y2 y3))
 | 0 => fun _ _ _ _ r h => by simp [r02_exponent.l0] at h
 | k + 1 => by
  have ih0 := r02_exponent.mono_l k; intro y0 y1 y2 y3; unfold r02_exponent.l0; repeat' first
  | (with_reducible exact ih0 _ _ _ _)
  | (with_reducible first | exact LeO.refl _ | exact LeO.none _ | refine LeO.ite ?_ ?_ | refine LeO.bind ?_ (fun _ => ?_))
theorem r02_exponent.mono : ∀ a0 a1 k, LeO (r02_exponent.f k a0 a1) (r02_exponent.f (k + 1) a0 a1) := by
 intro a0 a1 k; have ih0 := r02_exponent.mono_l k; unfold r02_exponent.f; repeat' first
   | (with_reducible exact ih0 _ _ _ _)
   | (with_reducible first | exact LeO.refl _ | exact LeO.none _ | refine LeO.ite ?_ ?_ | refine LeO.bind ?_ (fun _ => ?_))
set_option maxHeartbeats 8000000 in
theorem r02_exponent.calls (k : Nat) (a0 : ByteArray) (a1 : Int) (r : Int) (w : World) (h : r02_exponent.f k a0 a1 = some r) :
  Calls Try.prog 52 #[.string a0, .int .i64 a1] w fun e w' => e = .returned (.int .i64 r) ∧ Below w.heap.size w w' := by
 have HB := am_ (Below.refl w.heap.size w); have H : (if a1 = 0 then (some 0) else ((r02_sign.f a0 a1).bind fun t318 => (r02_exponent.l0 k a0 a1 0 (wrap64 (a1 + t318))))) = some r := h; clear h; by_cases c3 : a1 = 0
 ·rw [if_pos c3] at H; have c3b0 : (a1 == 0) = true := beq_iff_eq.mpr c3; have c3b1 : (a1 != 0) = false := bne_eq_false_iff_eq.mpr c3; clear c3; obtain rfl := si_ H; go_enter Try.func52, Try.ntmps52
  go_wp2; go_ret
  exact ⟨rsl_, bel_⟩
 rw [if_neg c3] at H; have c3b0 : (a1 == 0) = false := beq_eq_false_iff_ne.mpr c3; have c3b1 : (a1 != 0) = true := bne_iff_ne.mpr c3; replace H := bs_ H; obtain ⟨t318, A40, H⟩ := H; try dsimp only at H
 have A4 := am_ A40; clear A40; have H' := am_ H; clear H; go_enter Try.func52, Try.ntmps52
 go_wp2_with (first | ((with_reducible refine gate_callee (f := 69) rfl ?_); refine goesL_ (some 12) rfl rfl Try.func69 (by kernel_rfl) rfl #[.string a0, .int .i64 a1] rfl goa_ ?_; (with_reducible refine (r02_sign.calls a0 a1 t318 _ A4.out).mono ?_); rintro e w' ⟨rfl, ⟨nd, rfl⟩⟩; refine ⟨_, rfl, ?_⟩))
 go_loopg [5, 6] k (fun kq v5 v6 w' => ∃ (x5_1 : Int) (x6_1 : Int), v5 = .int .i64 x5_1 ∧ v6 = .int .i64 x6_1 ∧ Aside0 (r02_exponent.l0 kq a0 a1 x5_1 x6_1 = some r) ∧ Aside0 (kq ≤ k) ∧ Aside0 (Below w.heap.size w w'))
 case atStart => exact ⟨(0), (wrap64 (a1 + t318)), rfs_, rfs_, H', ⟨Nat.le_refl _⟩, ⟨bel_⟩⟩
 case round =>
  clear H'; try clear c3
  try clear c3b0
  try clear c3b1
  obtain ⟨x5_1, x6_1, rfl, rfl, HA, HK1, HB⟩ := hrel
  cases gk with
  | zero => exact absurd HA.out (by simp [r02_exponent.l0])
  | succ k1 =>
   have H := HA.out; clear HA; simp only [r02_exponent.l0] at H; by_cases c5 : x6_1 < (a0.size : Int)
   ·rw [if_pos c5] at H; have c5b0 : decide (x6_1 < (a0.size : Int)) = true := dt_ c5; clear c5; by_cases c6 : 0 ≤ x6_1
    ·rw [if_pos c6] at H; have c6b0 : decide (0 ≤ x6_1) = true := dt_ c6; clear c6; obtain ⟨ji8, hji8⟩ : ∃ j_ : Int, (mn 1000 (wrap64 ((wrap64 (10 * x5_1)) + (((bt a0 x6_1) - 48) % 256)))) = j_ := ⟨_, rfl⟩
     replace H : (r02_exponent.l0 k1 a0 a1 ji8 (wrap64 (x6_1 + 1))) = some r := by first | (rw [hji8] at H; exact H) | (simp only [hji8] at H ⊢; exact H)
     have hji8_ : (if (wrap64 ((wrap64 (10 * x5_1)) + (((bt a0 x6_1) - 48) % 256))) < 1000 then (wrap64 ((wrap64 (10 * x5_1)) + (((bt a0 x6_1) - 48) % 256))) else 1000) = ji8 := hji8; have H' := am_ H; clear H; have p7 : 0 ≤ (x6_1 : Int) := od_ (by first | (with_reducible assumption) | assumption); have q7 : x6_1 < (a0.size : Int) := od_ (by first | (with_reducible assumption) | assumption); have hx7 := bt_at a0 x6_1; replace p7 := eq_true p7; replace q7 := eq_true q7; go_wp2; go_roundg k1
     case measure => have := HK1.out; omega
     case rel => exact ⟨(ji8), (wrap64 (x6_1 + 1)), (by first | rfl | (simp; done) | (simp only [← hji8] <;> (first | rfl | simp)) | (simp [*]; done)), rfs_, H', ⟨by have := HK1.out; omega⟩, ⟨bel_⟩⟩
    rw [if_neg c6] at H; exact absurd H (by simp)
   rw [if_neg c5] at H; have c5b0 : decide (x6_1 < (a0.size : Int)) = false := df_ c5; clear c5; by_cases c9 : 0 ≤ a1
   ·rw [if_pos c9] at H; have c9b0 : decide (0 ≤ a1) = true := dt_ c9; clear c9; by_cases c10 : a1 < (a0.size : Int)
    ·rw [if_pos c10] at H; have c10b0 : decide (a1 < (a0.size : Int)) = true := dt_ c10; clear c10; by_cases c12 : (bt a0 a1) = 45
     ·rw [if_pos c12] at H; have c12b0 : ((bt a0 a1) == 45) = true := beq_iff_eq.mpr c12; have c12b1 : ((bt a0 a1) != 45) = false := bne_eq_false_iff_eq.mpr c12; clear c12; obtain rfl := si_ H; have p11 : 0 ≤ (a1 : Int) := od_ (by first | (with_reducible assumption) | assumption); have q11 : a1 < (a0.size : Int) := od_ (by first | (with_reducible assumption) | assumption); have hx11 := bt_at a0 a1; replace p11 := eq_true p11; replace q11 := eq_true q11; go_wp2; go_ret
      exact ⟨rsl_, bel_⟩
     rw [if_neg c12] at H; have c12b0 : ((bt a0 a1) == 45) = false := beq_eq_false_iff_ne.mpr c12; have c12b1 : ((bt a0 a1) != 45) = true := bne_iff_ne.mpr c12; obtain rfl := si_ H; have p11 : 0 ≤ (a1 : Int) := od_ (by first | (with_reducible assumption) | assumption); have q11 : a1 < (a0.size : Int) := od_ (by first | (with_reducible assumption) | assumption); have hx11 := bt_at a0 a1; replace p11 := eq_true p11; replace q11 := eq_true q11; go_wp2; go_ret
     exact ⟨rsl_, bel_⟩
    rw [if_neg c10] at H; exact absurd H (by simp)
   rw [if_neg c9] at H; exact absurd H (by simp)


/-! ### r02_Value: function 36 -/
mutual
def r02_Value.j0 : Nat → ByteArray → Int → Bool → Option (Int × Int)
 | 0, _, _, _ => none
 | k + 1, x0, x1, x23 => if x23 = true then (some (0, 2)) else ((r02_Parts.f k x0).bind fun bt319 => (if bt319.2.2.2.2 = 0 then (r02_Value.j1 k x0 x1 bt319.1 bt319.2.1 bt319.2.2.1 bt319.2.2.2.1 true) else (if bt319.2.2.2.2 = (x0.size : Int) then (r02_Value.j1 k x0 x1 bt319.1 bt319.2.1 bt319.2.2.1 bt319.2.2.2.1 (decide ((x0.size : Int) > 300))) else (r02_Value.j1 k x0 x1 bt319.1 bt319.2.1 bt319.2.2.1 bt319.2.2.2.1 true))))
def r02_Value.j1 : Nat → ByteArray → Int → Int → Int → Int → Int → Bool → Option (Int × Int)
 | 0, _, _, _, _, _, _, _ => none
 | k + 1, x0, x1, x6, x7, x8, x9, x44 => if x44 = true then (some (0, 21)) else (r02_Value.l0 k x0 x1 x6 x7 x8 x9 ([] : List Int) (wrap64 ((wrap64 (x6 + x7)) + x8)))
def r02_Value.l0 : Nat → ByteArray → Int → Int → Int → Int → Int → List Int → Int → Option (Int × Int)
 | 0, _, _, _, _, _, _, _, _ => none
 | k + 1, x0, x1, x6, x7, x8, x9, x11, x12 => if x12 ≥ x6 then (if x12 < (x0.size : Int) then (if 0 ≤ x12 then ((r02_digit.f (bt x0 x12)).bind fun t324 => (if t324 = true then (if x12 < (wrap64 (x6 + x7)) then (if x11.length < 17592186044416 then (r02_Value.l0 k x0 x1 x6 x7 x8 x9 (x11 ++ [((bt x0 x12) - 48) % 256]) (wrap64 (x12 - 1))) else (none)) else (if x12 > (wrap64 (x6 + x7)) then (if x12 ≤ (wrap64 ((wrap64 (x6 + x7)) + x8)) then (if x11.length < 17592186044416 then (r02_Value.l0 k x0 x1 x6 x7 x8 x9 (x11 ++ [((bt x0 x12) - 48) % 256]) (wrap64 (x12 - 1))) else (none)) else (r02_Value.l0 k x0 x1 x6 x7 x8 x9 x11 (wrap64 (x12 - 1)))) else (r02_Value.l0 k x0 x1 x6 x7 x8 x9 x11 (wrap64 (x12 - 1))))) else (r02_Value.l0 k x0 x1 x6 x7 x8 x9 x11 (wrap64 (x12 - 1))))) else (none)) else (r02_Value.l0 k x0 x1 x6 x7 x8 x9 x11 (wrap64 (x12 - 1)))) else ((r02_scaled.f k x11 x1).bind fun t331 => ((r02_exponent.f k x0 x9).bind fun t334 => ((r02_round.f k t331 (wrap64 (x8 - t334))).bind fun t335 => (if t335 > 68719476736 then (some (0, 10)) else (if 0 < (x0.size : Int) then (if (bt x0 0) = 45 then (some (wrap64 (-t335), 0)) else (some (t335, 0))) else (none))))))
end
def r02_Value.f (k : Nat) (a0 : ByteArray) (a1 : Int) : Option (Int × Int) := if a1 = 1 then (r02_Value.j0 k a0 a1 false) else (if a1 = 64 then (r02_Value.j0 k a0 a1 false) else (r02_Value.j0 k a0 a1 (a1 != 1000)))
theorem r02_Value.mono_l : ∀ k, (∀ y0 y1 y2, LeO (r02_Value.j0 k y0 y1 y2) (r02_Value.j0 (k + 1) y0 y1 y2)) ∧ (∀ y0 y1 y2 y3 y4 y5 y6, LeO (r02_Value.j1 k y0 y1 y2 y3 y4 y5 y6) (r02_Value.j1 (k + 1) y0 y1 y2 y3 y4 y5 y6)) ∧ (∀ y0 y1 y2 y3 y4 y5 y6 y7, LeO (r02_Value.l0 k y0 y1 y2 y3 y4 y5 y6 y7) (r02_Value.l0 (k + 1) y0 y1 y2 y3 y4 y5 y6 y7))
 | 0 => ⟨fun _ _ _ r h => by simp [r02_Value.j0] at h, fun _ _ _ _ _ _ _ r h => by simp [r02_Value.j1] at h, fun _ _ _ _ _ _ _ _ r h => by simp [r02_Value.l0] at h⟩
 | k + 1 => by
  obtain ⟨ih0, ih1, ih2⟩ := r02_Value.mono_l k; refine ⟨?_, ?_, ?_⟩
  ·intro y0 y1 y2; unfold r02_Value.j0; repeat' first
   | (with_reducible exact ih0 _ _ _)
   | (with_reducible exact ih1 _ _ _ _ _ _ _)
   | (with_reducible exact ih2 _ _ _ _ _ _ _ _)
   | (with_reducible exact r02_Parts.mono _ _)
   | (with_reducible exact r02_exponent.mono _ _ _)
   | (with_reducible exact r02_round.mono _ _ _)
   | (with_reducible exact r02_scaled.mono _ _ _)
   | (with_reducible first | exact LeO.refl _ | exact LeO.none _ | refine LeO.ite ?_ ?_ | refine LeO.bind ?_ (fun _ => ?_))
  ·intro y0 y1 y2 y3 y4 y5 y6; unfold r02_Value.j1; repeat' first
   | (with_reducible exact ih0 _ _ _)
   | (with_reducible exact ih1 _ _ _ _ _ _ _)
   | (with_reducible exact ih2 _ _ _ _ _ _ _ _)
   | (with_reducible exact r02_Parts.mono _ _)
   | (with_reducible exact r02_exponent.mono _ _ _)
   | (with_reducible exact r02_round.mono _ _ _)
   | (with_reducible exact r02_scaled.mono _ _ _)
   | (with_reducible first | exact LeO.refl _ | exact LeO.none _ | refine LeO.ite ?_ ?_ | refine LeO.bind ?_ (fun _ => ?_))
  intro y0 y1 y2 y3 y4 y5 y6 y7; unfold r02_Value.l0; repeat' first
  | (with_reducible exact ih0 _ _ _)
  | (with_reducible exact ih1 _ _ _ _ _ _ _)
  | (with_reducible exact ih2 _ _ _ _ _ _ _ _)
  | (with_reducible exact r02_Parts.mono _ _)
  | (with_reducible exact r02_exponent.mono _ _ _)
  | (with_reducible exact r02_round.mono _ _ _)
  | (with_reducible exact r02_scaled.mono _ _ _)
  | (with_reducible first | exact LeO.refl _ | exact LeO.none _ | refine LeO.ite ?_ ?_ | refine LeO.bind ?_ (fun _ => ?_))
theorem r02_Value.mono : ∀ a0 a1 k, LeO (r02_Value.f k a0 a1) (r02_Value.f (k + 1) a0 a1) := by
 intro a0 a1 k; obtain ⟨ih0, ih1, ih2⟩ := r02_Value.mono_l k; unfold r02_Value.f; repeat' first
   | (with_reducible exact ih0 _ _ _)
   | (with_reducible exact ih1 _ _ _ _ _ _ _)
   | (with_reducible exact ih2 _ _ _ _ _ _ _ _)
   | (with_reducible exact r02_Parts.mono _ _)
   | (with_reducible exact r02_exponent.mono _ _ _)
   | (with_reducible exact r02_round.mono _ _ _)
   | (with_reducible exact r02_scaled.mono _ _ _)
   | (with_reducible first | exact LeO.refl _ | exact LeO.none _ | refine LeO.ite ?_ ?_ | refine LeO.bind ?_ (fun _ => ?_))
set_option maxHeartbeats 8000000 in
theorem r02_Value.calls (k : Nat) (a0 : ByteArray) (a1 : Int) (r1 : Int) (r2 : Int) (w : World) (h : r02_Value.f k a0 a1 = some (r1, r2)) :
  Calls Try.prog 36 #[.string a0, .int .i64 a1] w fun e w' => e = .returned (.tuple #[.int .i64 r1, .int .i64 r2]) ∧ Below w.heap.size w w' := by
 have HB := am_ (Below.refl w.heap.size w); have H : (if a1 = 1 then (r02_Value.j0 k a0 a1 false) else (if a1 = 64 then (r02_Value.j0 k a0 a1 false) else (r02_Value.j0 k a0 a1 (a1 != 1000)))) = some (r1, r2) := h; clear h; have HC3 := am_ H; clear H; go_enter Try.func36, Try.ntmps36
 go_upto_region 1 with (fail)
 go_cut [23] (fun v23 wc => ∃ (kq : Nat) (x23_2 : Bool), v23 = .bool x23_2 ∧ Aside0 (r02_Value.j0 kq a0 a1 x23_2 = some (r1, r2)) ∧ Aside0 (kq ≤ k) ∧ Aside0 (Below w.heap.size w wc))
 case first =>
  have H := HC3.out; clear HC3; by_cases c4 : a1 = 1
  ·rw [if_pos c4] at H; have c4b0 : (a1 == 1) = true := beq_iff_eq.mpr c4; have c4b1 : (a1 != 1) = false := bne_eq_false_iff_eq.mpr c4; clear c4; (first | rw [c4b0] | (simp only [i64_w, i32_w]; rw [c4b0]) | skip)
   have H' := am_ H; clear H; go_wp2; go_meet
   case rel => exact ⟨_, (false), rfs_, (by first | exact H' | (subst_vars; exact H')), ⟨ole_⟩, ⟨bel_⟩⟩
  rw [if_neg c4] at H; have c4b0 : (a1 == 1) = false := beq_eq_false_iff_ne.mpr c4; have c4b1 : (a1 != 1) = true := bne_iff_ne.mpr c4; (first | rw [c4b0] | (simp only [i64_w, i32_w]; rw [c4b0]) | skip)
  by_cases c5 : a1 = 64
  ·rw [if_pos c5] at H; have c5b0 : (a1 == 64) = true := beq_iff_eq.mpr c5; have c5b1 : (a1 != 64) = false := bne_eq_false_iff_eq.mpr c5; clear c5; have H' := am_ H; clear H; go_wp2; go_meet
   case rel => exact ⟨_, (false), rfs_, (by first | exact H' | (subst_vars; exact H')), ⟨ole_⟩, ⟨bel_⟩⟩
  rw [if_neg c5] at H; have c5b0 : (a1 == 64) = false := beq_eq_false_iff_ne.mpr c5; have c5b1 : (a1 != 64) = true := bne_iff_ne.mpr c5; have H' := am_ H; clear H; go_wp2; go_meet
  case rel => exact ⟨_, ((a1 != 1000)), rfs_, (by first | exact H' | (subst_vars; exact H')), ⟨ole_⟩, ⟨bel_⟩⟩
 clear HC3; obtain ⟨kq, x23_2, rfl, HA, HJ2, HB⟩ := hcut
 cases kq with
 | zero => exact absurd HA.out (by simp [r02_Value.j0])
 | succ kj2 =>
  have H := HA.out; clear HA; simp only [r02_Value.j0] at H; by_cases c6 : x23_2 = true
  ·subst c6; rw [if_pos rfl] at H; simp only [Option.some.injEq, Prod.mk.injEq] at H; obtain ⟨rfl, rfl⟩ := H; go_wp2; go_ret2
   exact ⟨rsl_, bel_⟩
  replace c6 := Bool.eq_false_iff.mpr c6; subst c6; rw [if_neg (show ¬ (false = true) by decide)] at H; replace H := bs_ H; obtain ⟨⟨t319, t320, t321, t322, t323⟩, A70, H⟩ := H; try dsimp only at H
  have A7 := am_ A70; clear A70; have HC8 := am_ H; clear H; go_upto_region 4 with (first | ((with_reducible refine gate_callee (f := 48) rfl ?_); refine goesL_ (some 26) rfl rfl Try.func48 (by kernel_rfl) rfl #[.string a0] rfl goa_ ?_; (with_reducible refine (r02_Parts.calls kj2 a0 t319 t320 t321 t322 t323 _ A7.out).mono ?_); rintro e w' ⟨rfl, ⟨nd, rfl⟩⟩; refine ⟨_, rfl, ?_⟩))
  (try simp only [Act.put, List.setIfInBounds_toArray, List.set_cons_zero, List.set_cons_succ])
  go_cut [44] (fun v44 wc => ∃ (kq : Nat) (x44_7 : Bool), v44 = .bool x44_7 ∧ Aside0 (r02_Value.j1 kq a0 a1 t319 t320 t321 t322 x44_7 = some (r1, r2)) ∧ Aside0 (kq ≤ kj2) ∧ Aside0 (Below w.heap.size w wc))
  case first =>
   have H := HC8.out; clear HC8; by_cases c9 : t323 = 0
   ·rw [if_pos c9] at H; have c9b0 : (t323 == 0) = true := beq_iff_eq.mpr c9; have c9b1 : (t323 != 0) = false := bne_eq_false_iff_eq.mpr c9; clear c9; (first | rw [c9b0] | (simp only [i64_w, i32_w]; rw [c9b0]) | skip)
    have H' := am_ H; clear H; go_wp2; go_meet
    case rel => exact ⟨_, (true), rfs_, H', ⟨by have := HJ2.out; first | omega | exact Nat.le_refl _⟩, ⟨bel_⟩⟩
   rw [if_neg c9] at H; have c9b0 : (t323 == 0) = false := beq_eq_false_iff_ne.mpr c9; have c9b1 : (t323 != 0) = true := bne_iff_ne.mpr c9; (first | rw [c9b0] | (simp only [i64_w, i32_w]; rw [c9b0]) | skip)
   by_cases c10 : t323 = (a0.size : Int)
   ·rw [if_pos c10] at H; have c10b0 : (t323 == (a0.size : Int)) = true := beq_iff_eq.mpr c10; have c10b1 : (t323 != (a0.size : Int)) = false := bne_eq_false_iff_eq.mpr c10; clear c10; have H' := am_ H; clear H; go_wp2; go_meet
    case rel => exact ⟨_, (decide ((a0.size : Int) > 300)), rfs_, H', ⟨by have := HJ2.out; first | omega | exact Nat.le_refl _⟩, ⟨bel_⟩⟩
   rw [if_neg c10] at H; have c10b0 : (t323 == (a0.size : Int)) = false := beq_eq_false_iff_ne.mpr c10; have c10b1 : (t323 != (a0.size : Int)) = true := bne_iff_ne.mpr c10; have H' := am_ H; clear H; go_wp2; go_meet
   case rel => exact ⟨_, (true), rfs_, H', ⟨by have := HJ2.out; first | omega | exact Nat.le_refl _⟩, ⟨bel_⟩⟩
  clear HC8; try clear c6
  obtain ⟨kq, x44_7, rfl, HA, HJ7, HB⟩ := hcut
  cases kq with
  | zero => exact absurd HA.out (by simp [r02_Value.j1])
  | succ kj7 =>
   have H := HA.out; clear HA; simp only [r02_Value.j1] at H; by_cases c11 : x44_7 = true
   ·subst c11; rw [if_pos rfl] at H; simp only [Option.some.injEq, Prod.mk.injEq] at H; obtain ⟨rfl, rfl⟩ := H; go_wp2; go_ret2
    exact ⟨rsl_, bel_⟩
   replace c11 := Bool.eq_false_iff.mpr c11; subst c11; rw [if_neg (show ¬ (false = true) by decide)] at H; have H' := am_ H; clear H; go_wp2; go_loopg [11, 12] kj7 (fun kq v11 v12 w' => ∃ (x11_3 : List Int) (x12_3 : Int), v12 = .int .i64 x12_3 ∧ Aside0 (r02_Value.l0 kq a0 a1 t319 t320 t321 t322 x11_3 x12_3 = some (r1, r2)) ∧ Aside0 (kq ≤ kj7) ∧ Aside0 (Kd.R (Kd.int .i64) 3 w' w.heap.size (fun _ => True) v11 x11_3) ∧ Aside0 (Below w.heap.size w w'))
   case atStart => exact ⟨(([] : List Int)), (wrap64 ((wrap64 (t319 + t320)) + t321)), rfs_, H', ⟨Nat.le_refl _⟩, ⟨by first | exact Kd.R_nil _ _ _ _ _ | exact Kd.N_nil _ _ _ _ _ | exact Kd.V_nil _ _ _ _ _ | exact Kd.Q_nil _ _ _ _ _ | exact Kd.S_nil _ _ _ _ _⟩, ⟨bel_⟩⟩
   case round =>
    clear H'; try clear c11
    obtain ⟨x11_3, x12_3, rfl, HA, HK3, HO_11, HB⟩ := hrel
    cases gk with
    | zero => exact absurd HA.out (by simp [r02_Value.l0])
    | succ k3 =>
     have H := HA.out; clear HA; simp only [r02_Value.l0] at H; by_cases c12 : x12_3 ≥ t319
     ·rw [if_pos c12] at H; have c12b0 : decide (t319 ≤ x12_3) = true := dt_ c12; clear c12; by_cases c13 : x12_3 < (a0.size : Int)
      ·rw [if_pos c13] at H; have c13b0 : decide (x12_3 < (a0.size : Int)) = true := dt_ c13; clear c13; by_cases c14 : 0 ≤ x12_3
       ·rw [if_pos c14] at H; have c14b0 : decide (0 ≤ x12_3) = true := dt_ c14; clear c14; replace H := bs_ H; obtain ⟨t324, A160, H⟩ := H; try dsimp only at H
        have A16 := am_ A160; clear A160; by_cases c17 : t324 = true
        ·subst c17; rw [if_pos rfl] at H; by_cases c18 : x12_3 < (wrap64 (t319 + t320))
         ·rw [if_pos c18] at H; have c18b0 : decide (x12_3 < (wrap64 (t319 + t320))) = true := dt_ c18; clear c18; by_cases c20 : x11_3.length < 17592186044416
          ·rw [if_pos c20] at H; have LMc20 := am_ c20; clear c20; obtain ⟨y325, hy325⟩ : ∃ y_ : List Int, y_ = (x11_3 ++ [((bt a0 x12_3) - 48) % 256]) := ⟨_, rfl⟩
           replace H : (r02_Value.l0 k3 a0 a1 t319 t320 t321 t322 y325 (wrap64 (x12_3 - 1))) = some (r1, r2) := by first | (rw [hy325]; with_reducible exact H) | (have H2_ := (Option.bind_some _ _).symm.trans H; rw [hy325]; with_reducible exact H2_) | (have H2_ := (Option.bind_some _ _).symm.trans H; with_reducible exact H2_) | with_reducible exact H | (rw [hy325]; exact H) | exact H
           have Ny325 := am_ hy325; clear hy325; have H' := am_ H; clear H; have p15 : 0 ≤ (x12_3 : Int) := od_ (by first | (with_reducible assumption) | assumption); have q15 : x12_3 < (a0.size : Int) := od_ (by first | (with_reducible assumption) | assumption); have hx15 := bt_at a0 x12_3; replace p15 := eq_true p15; replace q15 := eq_true q15; go_wp2_with (first | (go_at_call 49; (with_reducible refine (r02_digit.calls (bt a0 x12_3) true _ A16.out).mono ?_); rintro e w' ⟨rfl, ⟨nd, rfl⟩⟩; have p19 : 0 ≤ (x12_3 : Int) := od_ (by first | (with_reducible assumption) | assumption); have q19 : x12_3 < (a0.size : Int) := od_ (by first | (with_reducible assumption) | assumption); have hx19 := bt_at a0 x12_3; replace p19 := eq_true p19; replace q19 := eq_true q19) | ((with_reducible refine gate_builtin (b := .append) (xs := #[.tmp 88, .tmp 94]) rfl ?_); (try (refine gate_guard (by rfl) ?_; dsimp only)); at_builtin; refine Kd.R_append (Kd.int .i64) (w0 := w) w.heap.size rfl (.tmp 88) (.tmp 94) 84 3 (.int .i64 0) 8 rfl Try.underlying84 info3 rfl (by decide) (by omega) u11 x11_3 (((bt a0 x12_3) - 48) % 256) [.int .i64 (((bt a0 x12_3) - 48) % 256)] (fun _ => True) (fun _ => False) rfl rfl ?aP (fun _ hk => hk.elim) ?aF ?aO ?aB ?aS ?aL ?_; (case aP => exact rfl); (case aB => exact bel_); (case aF => exact (fun _ _ => trivial)); (case aO => exact (row_ HO_11)); (case aS => exact (below_size bel_)); (case aL => have := LMc20.out; omega); intro v326 w21 ho hb hg hat; rw [← Ny325.out] at ho; have n0_ := am_ (hb); have n1_ := am_ (ho); clear HB; clear HO_11; have HB := n0_; have HO327 := n1_; clear n0_ n1_; clear ho hb hg hat))
           go_roundg k3
           case measure => have := HJ2.out; have := HJ7.out; have := HK3.out; omega
           case rel => exact ⟨(y325), (wrap64 (x12_3 - 1)), rfs_, H', ⟨by have := HJ2.out; have := HJ7.out; have := HK3.out; omega⟩, ⟨by (with_reducible repeat (first | apply Kd.R_alloc | apply Kd.R_drewN | apply Kd.R_drew)); exact HO327.out⟩, ⟨bel_⟩⟩
          rw [if_neg c20] at H; exact absurd H (by simp)
         rw [if_neg c18] at H; have c18b0 : decide (x12_3 < (wrap64 (t319 + t320))) = false := df_ c18; clear c18; by_cases c22 : x12_3 > (wrap64 (t319 + t320))
         ·rw [if_pos c22] at H; have c22b0 : decide ((wrap64 (t319 + t320)) < x12_3) = true := dt_ c22; clear c22; by_cases c23 : x12_3 ≤ (wrap64 ((wrap64 (t319 + t320)) + t321))
          ·rw [if_pos c23] at H; have c23b0 : decide (x12_3 ≤ (wrap64 ((wrap64 (t319 + t320)) + t321))) = true := dt_ c23; clear c23; by_cases c25 : x11_3.length < 17592186044416
           ·rw [if_pos c25] at H; have LMc25 := am_ c25; clear c25; obtain ⟨y328, hy328⟩ : ∃ y_ : List Int, y_ = (x11_3 ++ [((bt a0 x12_3) - 48) % 256]) := ⟨_, rfl⟩
            replace H : (r02_Value.l0 k3 a0 a1 t319 t320 t321 t322 y328 (wrap64 (x12_3 - 1))) = some (r1, r2) := by first | (rw [hy328]; with_reducible exact H) | (have H2_ := (Option.bind_some _ _).symm.trans H; rw [hy328]; with_reducible exact H2_) | (have H2_ := (Option.bind_some _ _).symm.trans H; with_reducible exact H2_) | with_reducible exact H | (rw [hy328]; exact H) | exact H
            have Ny328 := am_ hy328; clear hy328; have H' := am_ H; clear H; have p15 : 0 ≤ (x12_3 : Int) := od_ (by first | (with_reducible assumption) | assumption); have q15 : x12_3 < (a0.size : Int) := od_ (by first | (with_reducible assumption) | assumption); have hx15 := bt_at a0 x12_3; replace p15 := eq_true p15; replace q15 := eq_true q15; go_wp2_with (first | (go_at_call 49; (with_reducible refine (r02_digit.calls (bt a0 x12_3) true _ A16.out).mono ?_); rintro e w' ⟨rfl, ⟨nd, rfl⟩⟩; have p24 : 0 ≤ (x12_3 : Int) := od_ (by first | (with_reducible assumption) | assumption); have q24 : x12_3 < (a0.size : Int) := od_ (by first | (with_reducible assumption) | assumption); have hx24 := bt_at a0 x12_3; replace p24 := eq_true p24; replace q24 := eq_true q24) | ((with_reducible refine gate_builtin (b := .append) (xs := #[.tmp 88, .tmp 94]) rfl ?_); (try (refine gate_guard (by rfl) ?_; dsimp only)); at_builtin; refine Kd.R_append (Kd.int .i64) (w0 := w) w.heap.size rfl (.tmp 88) (.tmp 94) 84 3 (.int .i64 0) 8 rfl Try.underlying84 info3 rfl (by decide) (by omega) u11 x11_3 (((bt a0 x12_3) - 48) % 256) [.int .i64 (((bt a0 x12_3) - 48) % 256)] (fun _ => True) (fun _ => False) rfl rfl ?aP (fun _ hk => hk.elim) ?aF ?aO ?aB ?aS ?aL ?_; (case aP => exact rfl); (case aB => exact bel_); (case aF => exact (fun _ _ => trivial)); (case aO => exact (row_ HO_11)); (case aS => exact (below_size bel_)); (case aL => have := LMc25.out; omega); intro v329 w26 ho hb hg hat; rw [← Ny328.out] at ho; have n0_ := am_ (hb); have n1_ := am_ (ho); clear HB; clear HO_11; have HB := n0_; have HO330 := n1_; clear n0_ n1_; clear ho hb hg hat))
            go_roundg k3
            case measure => have := HJ2.out; have := HJ7.out; have := HK3.out; omega
            case rel => exact ⟨(y328), (wrap64 (x12_3 - 1)), rfs_, H', ⟨by have := HJ2.out; have := HJ7.out; have := HK3.out; omega⟩, ⟨by (with_reducible repeat (first | apply Kd.R_alloc | apply Kd.R_drewN | apply Kd.R_drew)); exact HO330.out⟩, ⟨bel_⟩⟩
           rw [if_neg c25] at H; exact absurd H (by simp)
          rw [if_neg c23] at H; have c23b0 : decide (x12_3 ≤ (wrap64 ((wrap64 (t319 + t320)) + t321))) = false := df_ c23; clear c23; have H' := am_ H; clear H; have p15 : 0 ≤ (x12_3 : Int) := od_ (by first | (with_reducible assumption) | assumption); have q15 : x12_3 < (a0.size : Int) := od_ (by first | (with_reducible assumption) | assumption); have hx15 := bt_at a0 x12_3; replace p15 := eq_true p15; replace q15 := eq_true q15; go_wp2_with (first | (go_at_call 49; (with_reducible refine (r02_digit.calls (bt a0 x12_3) true _ A16.out).mono ?_); rintro e w' ⟨rfl, ⟨nd, rfl⟩⟩))
          go_roundg k3
          case measure => have := HJ2.out; have := HJ7.out; have := HK3.out; omega
          case rel => exact ⟨(x11_3), (wrap64 (x12_3 - 1)), rfs_, H', ⟨by have := HJ2.out; have := HJ7.out; have := HK3.out; omega⟩, ⟨by (with_reducible repeat (first | apply Kd.R_alloc | apply Kd.R_drewN | apply Kd.R_drew)); exact HO_11.out⟩, ⟨bel_⟩⟩
         rw [if_neg c22] at H; have c22b0 : decide ((wrap64 (t319 + t320)) < x12_3) = false := df_ c22; clear c22; have H' := am_ H; clear H; have p15 : 0 ≤ (x12_3 : Int) := od_ (by first | (with_reducible assumption) | assumption); have q15 : x12_3 < (a0.size : Int) := od_ (by first | (with_reducible assumption) | assumption); have hx15 := bt_at a0 x12_3; replace p15 := eq_true p15; replace q15 := eq_true q15; go_wp2_with (first | (go_at_call 49; (with_reducible refine (r02_digit.calls (bt a0 x12_3) true _ A16.out).mono ?_); rintro e w' ⟨rfl, ⟨nd, rfl⟩⟩))
         go_roundg k3
         case measure => have := HJ2.out; have := HJ7.out; have := HK3.out; omega
         case rel => exact ⟨(x11_3), (wrap64 (x12_3 - 1)), rfs_, H', ⟨by have := HJ2.out; have := HJ7.out; have := HK3.out; omega⟩, ⟨by (with_reducible repeat (first | apply Kd.R_alloc | apply Kd.R_drewN | apply Kd.R_drew)); exact HO_11.out⟩, ⟨bel_⟩⟩
        replace c17 := Bool.eq_false_iff.mpr c17; subst c17; rw [if_neg (show ¬ (false = true) by decide)] at H; have H' := am_ H; clear H; have p15 : 0 ≤ (x12_3 : Int) := od_ (by first | (with_reducible assumption) | assumption); have q15 : x12_3 < (a0.size : Int) := od_ (by first | (with_reducible assumption) | assumption); have hx15 := bt_at a0 x12_3; replace p15 := eq_true p15; replace q15 := eq_true q15; go_wp2_with (first | (go_at_call 49; (with_reducible refine (r02_digit.calls (bt a0 x12_3) false _ A16.out).mono ?_); rintro e w' ⟨rfl, ⟨nd, rfl⟩⟩))
        go_roundg k3
        case measure => have := HJ2.out; have := HJ7.out; have := HK3.out; omega
        case rel => exact ⟨(x11_3), (wrap64 (x12_3 - 1)), rfs_, H', ⟨by have := HJ2.out; have := HJ7.out; have := HK3.out; omega⟩, ⟨by (with_reducible repeat (first | apply Kd.R_alloc | apply Kd.R_drewN | apply Kd.R_drew)); exact HO_11.out⟩, ⟨bel_⟩⟩
       rw [if_neg c14] at H; exact absurd H (by simp)
      rw [if_neg c13] at H; have c13b0 : decide (x12_3 < (a0.size : Int)) = false := df_ c13; clear c13; have H' := am_ H; clear H; go_wp2; go_roundg k3
      case measure => have := HJ2.out; have := HJ7.out; have := HK3.out; omega
      case rel => exact ⟨(x11_3), (wrap64 (x12_3 - 1)), rfs_, H', ⟨by have := HJ2.out; have := HJ7.out; have := HK3.out; omega⟩, ⟨by (with_reducible repeat (first | apply Kd.R_alloc | apply Kd.R_drewN | apply Kd.R_drew)); exact HO_11.out⟩, ⟨bel_⟩⟩
     rw [if_neg c12] at H; have c12b0 : decide (t319 ≤ x12_3) = false := df_ c12; clear c12; replace H := bs_ H; obtain ⟨t331, A270, H⟩ := H; try dsimp only at H
     have A27 := am_ A270; clear A270; replace H := bs_ H; obtain ⟨t334, A280, H⟩ := H; try dsimp only at H
     have A28 := am_ A280; clear A280; replace H := bs_ H; obtain ⟨t335, A290, H⟩ := H; try dsimp only at H
     have A29 := am_ A290; clear A290; by_cases c30 : t335 > 68719476736
     ·rw [if_pos c30] at H; have c30b0 : decide (68719476736 < t335) = true := dt_ c30; clear c30; simp only [Option.some.injEq, Prod.mk.injEq] at H; obtain ⟨rfl, rfl⟩ := H; obtain ⟨Ao31, co31, eo31⟩ := Kd.R_slice HO_11.out; subst eo31; go_wp2_with (first | ((with_reducible refine gate_callee (f := 51) rfl ?_); refine goesL_ (some 98) rfl rfl Try.func51 (by kernel_rfl) rfl #[.slice Ao31 x11_3.length co31, .int .i64 a1] rfl goa_ ?_; (with_reducible refine (r02_scaled.calls k3 _ _ x11_3 a1 t331 _ ?side1 ?side2 A27.out).mono ?_); (case side1 => repeat (first | exact (Kd.R_reads' HO_11.out).2.2 | (with_reducible refine Kd.C_alloc ?_ _) | (with_reducible refine Kd.C_drewN ?_ _) | (with_reducible refine Kd.C_drew ?_))); (case side2 => exact (Kd.R_reads' HO_11.out).2.1); rintro e w32 ⟨v332, rfl, ho0, hb⟩; refine ⟨_, rfl, ?_⟩; have HO333 := am_ (Kd.R_lower (Kd.R_new' ho0 (Kd.R_lt (row_ HO_11))) (below_size bel_)); replace HO_11 := am_ (Kd.R_elder' (row_ HO_11) (Kd.R_base ho0) hb); replace HB := am_ (below_step bel_ hb); (try clear hb); (try clear hb2); (try clear hk); (try clear hi); (try clear ho0)) | ((with_reducible refine gate_callee (f := 52) rfl ?_); refine goesL_ (some 102) rfl rfl Try.func52 (by kernel_rfl) rfl #[.string a0, .int .i64 t322] rfl goa_ ?_; (with_reducible refine (r02_exponent.calls k3 a0 t322 t334 _ A28.out).mono ?_); rintro e w33 ⟨rfl, hb⟩; refine ⟨_, rfl, ?_⟩; replace HO_11 := am_ (Kd.R_below (row_ HO_11) hb); replace HO333 := am_ (Kd.R_below (row_ HO333) hb); replace HB := am_ (below_step bel_ hb); clear hb; obtain ⟨Ao34, co34, eo34⟩ := Kd.R_slice HO333.out; subst eo34) | ((with_reducible refine gate_callee (f := 50) rfl ?_); refine goesL_ (some 104) rfl rfl Try.func50 (by kernel_rfl) rfl #[.slice Ao34 t331.length co34, .int .i64 (wrap64 (t321 - t334))] rfl goa_ ?_; (with_reducible refine (r02_round.calls k3 _ _ t331 (wrap64 (t321 - t334)) t335 _ ?side1 ?side2 A29.out).mono ?_); (case side1 => repeat (first | exact (Kd.R_reads' HO333.out).2.2 | (with_reducible refine Kd.C_alloc ?_ _) | (with_reducible refine Kd.C_drewN ?_ _) | (with_reducible refine Kd.C_drew ?_))); (case side2 => exact (Kd.R_reads' HO333.out).2.1); rintro e w35 ⟨rfl, hb⟩; refine ⟨_, rfl, ?_⟩; replace HO_11 := am_ (Kd.R_below (row_ HO_11) hb); replace HO333 := am_ (Kd.R_below (row_ HO333) hb); replace HB := am_ (below_step bel_ hb); clear hb))
      go_ret2
      exact ⟨rsl_, bel_⟩
     rw [if_neg c30] at H; have c30b0 : decide (68719476736 < t335) = false := df_ c30; clear c30; by_cases c36 : 0 < (a0.size : Int)
     ·rw [if_pos c36] at H; have c36b0 : decide (0 < (a0.size : Int)) = true := dt_ c36; have c36b1 : decide (0 < a0.size) = true := dt_ (by omega); clear c36; by_cases c38 : (bt a0 0) = 45
      ·rw [if_pos c38] at H; have c38b0 : ((bt a0 0) == 45) = true := beq_iff_eq.mpr c38; have c38b1 : ((bt a0 0) != 45) = false := bne_eq_false_iff_eq.mpr c38; clear c38; simp only [Option.some.injEq, Prod.mk.injEq] at H; obtain ⟨rfl, rfl⟩ := H; obtain ⟨Ao39, co39, eo39⟩ := Kd.R_slice HO_11.out; subst eo39; go_wp2_with (first | ((with_reducible refine gate_callee (f := 51) rfl ?_); refine goesL_ (some 98) rfl rfl Try.func51 (by kernel_rfl) rfl #[.slice Ao39 x11_3.length co39, .int .i64 a1] rfl goa_ ?_; (with_reducible refine (r02_scaled.calls k3 _ _ x11_3 a1 t331 _ ?side1 ?side2 A27.out).mono ?_); (case side1 => repeat (first | exact (Kd.R_reads' HO_11.out).2.2 | (with_reducible refine Kd.C_alloc ?_ _) | (with_reducible refine Kd.C_drewN ?_ _) | (with_reducible refine Kd.C_drew ?_))); (case side2 => exact (Kd.R_reads' HO_11.out).2.1); rintro e w40 ⟨v332, rfl, ho0, hb⟩; refine ⟨_, rfl, ?_⟩; have HO333 := am_ (Kd.R_lower (Kd.R_new' ho0 (Kd.R_lt (row_ HO_11))) (below_size bel_)); replace HO_11 := am_ (Kd.R_elder' (row_ HO_11) (Kd.R_base ho0) hb); replace HB := am_ (below_step bel_ hb); (try clear hb); (try clear hb2); (try clear hk); (try clear hi); (try clear ho0)) | ((with_reducible refine gate_callee (f := 52) rfl ?_); refine goesL_ (some 102) rfl rfl Try.func52 (by kernel_rfl) rfl #[.string a0, .int .i64 t322] rfl goa_ ?_; (with_reducible refine (r02_exponent.calls k3 a0 t322 t334 _ A28.out).mono ?_); rintro e w41 ⟨rfl, hb⟩; refine ⟨_, rfl, ?_⟩; replace HO_11 := am_ (Kd.R_below (row_ HO_11) hb); replace HO333 := am_ (Kd.R_below (row_ HO333) hb); replace HB := am_ (below_step bel_ hb); clear hb; obtain ⟨Ao42, co42, eo42⟩ := Kd.R_slice HO333.out; subst eo42) | ((with_reducible refine gate_callee (f := 50) rfl ?_); refine goesL_ (some 104) rfl rfl Try.func50 (by kernel_rfl) rfl #[.slice Ao42 t331.length co42, .int .i64 (wrap64 (t321 - t334))] rfl goa_ ?_; (with_reducible refine (r02_round.calls k3 _ _ t331 (wrap64 (t321 - t334)) t335 _ ?side1 ?side2 A29.out).mono ?_); (case side1 => repeat (first | exact (Kd.R_reads' HO333.out).2.2 | (with_reducible refine Kd.C_alloc ?_ _) | (with_reducible refine Kd.C_drewN ?_ _) | (with_reducible refine Kd.C_drew ?_))); (case side2 => exact (Kd.R_reads' HO333.out).2.1); rintro e w43 ⟨rfl, hb⟩; refine ⟨_, rfl, ?_⟩; replace HO_11 := am_ (Kd.R_below (row_ HO_11) hb); replace HO333 := am_ (Kd.R_below (row_ HO333) hb); replace HB := am_ (below_step bel_ hb); clear hb; have p37 : 0 ≤ (0 : Int) := (by omega); have q37 : 0 < a0.size := (by have : (0 : Int) < (a0.size : Int) := od_ (by first | (with_reducible assumption) | assumption); omega); have hx37 : ∀ h : 0 < a0.size, ((a0[0]'h).toNat : Int) = bt a0 0 := bt_at a0 0; clear p37; have qi37 : (0 < (a0.size : Int)) = True := eq_true (od_ (by first | (with_reducible assumption) | assumption)); replace q37 := eq_true q37))
       go_ret2
       exact ⟨rsl_, bel_⟩
      rw [if_neg c38] at H; have c38b0 : ((bt a0 0) == 45) = false := beq_eq_false_iff_ne.mpr c38; have c38b1 : ((bt a0 0) != 45) = true := bne_iff_ne.mpr c38; simp only [Option.some.injEq, Prod.mk.injEq] at H; obtain ⟨rfl, rfl⟩ := H; obtain ⟨Ao44, co44, eo44⟩ := Kd.R_slice HO_11.out; subst eo44; go_wp2_with (first | ((with_reducible refine gate_callee (f := 51) rfl ?_); refine goesL_ (some 98) rfl rfl Try.func51 (by kernel_rfl) rfl #[.slice Ao44 x11_3.length co44, .int .i64 a1] rfl goa_ ?_; (with_reducible refine (r02_scaled.calls k3 _ _ x11_3 a1 t331 _ ?side1 ?side2 A27.out).mono ?_); (case side1 => repeat (first | exact (Kd.R_reads' HO_11.out).2.2 | (with_reducible refine Kd.C_alloc ?_ _) | (with_reducible refine Kd.C_drewN ?_ _) | (with_reducible refine Kd.C_drew ?_))); (case side2 => exact (Kd.R_reads' HO_11.out).2.1); rintro e w45 ⟨v332, rfl, ho0, hb⟩; refine ⟨_, rfl, ?_⟩; have HO333 := am_ (Kd.R_lower (Kd.R_new' ho0 (Kd.R_lt (row_ HO_11))) (below_size bel_)); replace HO_11 := am_ (Kd.R_elder' (row_ HO_11) (Kd.R_base ho0) hb); replace HB := am_ (below_step bel_ hb); (try clear hb); (try clear hb2); (try clear hk); (try clear hi); (try clear ho0)) | ((with_reducible refine gate_callee (f := 52) rfl ?_); refine goesL_ (some 102) rfl rfl Try.func52 (by kernel_rfl) rfl #[.string a0, .int .i64 t322] rfl goa_ ?_; (with_reducible refine (r02_exponent.calls k3 a0 t322 t334 _ A28.out).mono ?_); rintro e w46 ⟨rfl, hb⟩; refine ⟨_, rfl, ?_⟩; replace HO_11 := am_ (Kd.R_below (row_ HO_11) hb); replace HO333 := am_ (Kd.R_below (row_ HO333) hb); replace HB := am_ (below_step bel_ hb); clear hb; obtain ⟨Ao47, co47, eo47⟩ := Kd.R_slice HO333.out; subst eo47) | ((with_reducible refine gate_callee (f := 50) rfl ?_); refine goesL_ (some 104) rfl rfl Try.func50 (by kernel_rfl) rfl #[.slice Ao47 t331.length co47, .int .i64 (wrap64 (t321 - t334))] rfl goa_ ?_; (with_reducible refine (r02_round.calls k3 _ _ t331 (wrap64 (t321 - t334)) t335 _ ?side1 ?side2 A29.out).mono ?_); (case side1 => repeat (first | exact (Kd.R_reads' HO333.out).2.2 | (with_reducible refine Kd.C_alloc ?_ _) | (with_reducible refine Kd.C_drewN ?_ _) | (with_reducible refine Kd.C_drew ?_))); (case side2 => exact (Kd.R_reads' HO333.out).2.1); rintro e w48 ⟨rfl, hb⟩; refine ⟨_, rfl, ?_⟩; replace HO_11 := am_ (Kd.R_below (row_ HO_11) hb); replace HO333 := am_ (Kd.R_below (row_ HO333) hb); replace HB := am_ (below_step bel_ hb); clear hb; have p37 : 0 ≤ (0 : Int) := (by omega); have q37 : 0 < a0.size := (by have : (0 : Int) < (a0.size : Int) := od_ (by first | (with_reducible assumption) | assumption); omega); have hx37 : ∀ h : 0 < a0.size, ((a0[0]'h).toNat : Int) = bt a0 0 := bt_at a0 0; clear p37; have qi37 : (0 < (a0.size : Int)) = True := eq_true (od_ (by first | (with_reducible assumption) | assumption)); replace q37 := eq_true q37))
      go_ret2
      exact ⟨rsl_, bel_⟩
     rw [if_neg c36] at H; exact absurd H (by simp)


/-! ### r05_Integer: function 22 -/
def r05_Integer.l0 : Nat → Int → Int → Int → Int → ByteArray → ByteArray → Option (Int × Int × Int)
 | 0, _, _, _, _, _, _ => none
 | k + 1, x1, x8, x341000, x341001, x341002, x341003 => if x8 < (x341003.size : Int) then (if 0 ≤ x8 then (if (bt x341003 x8) = 46 then (some (0, x1, 50)) else (if (bt x341003 x8) = 101 then (some (0, x1, 50)) else (if (bt x341003 x8) = 69 then (some (0, x1, 50)) else (r05_Integer.l0 k x1 (wrap64 (x8 + 1)) x341000 x341001 x341002 x341003)))) else (none)) else ((r02_Value.f k x341003 1).bind fun bt341 => (if bt341.2 = 10 then (some (0, x1, 10)) else (if bt341.2 = 0 then (some (bt341.1, wrap64 (x1 + 1), 0)) else (some (0, x1, 50)))))
def r05_Integer.f (k : Nat) (l0 : List (S43)) (a1 : Int) : Option (Int × Int × Int) := (r05_Word.f l0 a1).bind fun bt336 => (if bt336.1 = 3 then (r05_Integer.l0 k a1 0 bt336.1 bt336.2.1 bt336.2.2.1 bt336.2.2.2) else (some (0, a1, 50)))
theorem r05_Integer.mono_l : ∀ k, (∀ y0 y1 y2 y3 y4 y5, LeO (r05_Integer.l0 k y0 y1 y2 y3 y4 y5) (r05_Integer.l0 (k + 1) y0 y1 y2 y3 y4 y5))
 | 0 => fun _ _ _ _ _ _ r h => by simp [r05_Integer.l0] at h
 | k + 1 => by
  have ih0 := r05_Integer.mono_l k; intro y0 y1 y2 y3 y4 y5; unfold r05_Integer.l0; repeat' first
  | (with_reducible exact ih0 _ _ _ _ _ _)
  | (with_reducible exact r02_Value.mono _ _ _)
  | (with_reducible first | exact LeO.refl _ | exact LeO.none _ | refine LeO.ite ?_ ?_ | refine LeO.bind ?_ (fun _ => ?_))
theorem r05_Integer.mono : ∀ a0 a1 k, LeO (r05_Integer.f k a0 a1) (r05_Integer.f (k + 1) a0 a1) := by
 intro a0 a1 k; have ih0 := r05_Integer.mono_l k; unfold r05_Integer.f; repeat' first
   | (with_reducible exact ih0 _ _ _ _ _ _)
   | (with_reducible exact r02_Value.mono _ _ _)
   | (with_reducible first | exact LeO.refl _ | exact LeO.none _ | refine LeO.ite ?_ ?_ | refine LeO.bind ?_ (fun _ => ?_))
set_option maxHeartbeats 8000000 in
theorem r05_Integer.calls (k : Nat) (A0 : Option Addr) (c0 : Nat) (l0 : List (S43)) (a1 : Int) (r1 : Int) (r2 : Int) (r3 : Int) (w : World) (hr0 : Kd.C k43 w A0 l0.length l0) (hc0 : l0.length ≤ c0) (h : r05_Integer.f k l0 a1 = some (r1, r2, r3)) :
  Calls Try.prog 22 #[.slice A0 l0.length c0, .int .i64 a1] w fun e w' => e = .returned (.tuple #[.int .i64 r1, .int .i64 r2, .int .i64 r3]) ∧ Below w.heap.size w w' := by
 have hu43 := Try.underlying43; have HR0 := am_ hr0; have HC0 := am_ hc0; clear hr0 hc0; have HB := am_ (Below.refl w.heap.size w); have H : ((r05_Word.f l0 a1).bind fun bt336 => (if bt336.1 = 3 then (r05_Integer.l0 k a1 0 bt336.1 bt336.2.1 bt336.2.2.1 bt336.2.2.2) else (some (0, a1, 50)))) = some (r1, r2, r3) := h; clear h; replace H := bs_ H; obtain ⟨⟨t336, t337, t338, t339⟩, A30, H⟩ := H; try dsimp only at H
 have A3 := am_ A30; clear A30; by_cases c4 : t336 = 3
 ·rw [if_pos c4] at H; have c4b0 : (t336 == 3) = true := beq_iff_eq.mpr c4; have c4b1 : (t336 != 3) = false := bne_eq_false_iff_eq.mpr c4; clear c4; have H' := am_ H; clear H; go_enter Try.func22, Try.ntmps22
  go_wp2_with (first | ((with_reducible refine gate_callee (f := 33) rfl ?_); refine goesL_ (some 13) rfl rfl Try.func33 (by kernel_rfl) rfl #[.slice A0 l0.length c0, .int .i64 a1] rfl goa_ ?_; (with_reducible refine (r05_Word.calls _ _ l0 a1 t336 t337 t338 t339 _ ?side1 ?side2 A3.out).mono ?_); (case side1 => exact cin_); (case side2 => exact HC0.out); rintro e w5 ⟨rfl, hb⟩; refine ⟨_, rfl, ?_⟩; replace HB := am_ (below_step bel_ hb); clear hb) | ((with_reducible refine gate_dst (N := 7) rfl ?_); refine box_event ?hg (N := 7) ?hd (cs := #[.int .i64 0, .int .i64 0, .string (⟨#[]⟩ : ByteArray), .string (⟨#[]⟩ : ByteArray)]) (t := 43) ?hr ?_; (case hd => rfl); (case hg => rfl); (case hr => first | (go_simp; done) | (go_simp; rfl)); intro gb340 hg w6 hbox hb; have BK340 := am_ (hbox); have GW340 := am_ ((bsz_ hg : w.heap.size ≤ gb340)); have GE340 := am_ ((bsz_ hg : w.heap.size ≤ gb340)); replace HB := am_ (below_step bel_ hb); clear hb hbox hg; obtain ⟨hcz7_0, hcz7_1, hcz7_2, hcz7_3⟩ := c4_ BK340; obtain ⟨hfz7_0, hfz7_1, hfz7_2, hfz7_3⟩ := f4_ BK340))
  go_loopg [8] k (fun kq v8 w' => ∃ (x8_1 : Int), v8 = .int .i64 x8_1 ∧ Aside0 (r05_Integer.l0 kq a1 x8_1 t336 t337 t338 t339 = some (r1, r2, r3)) ∧ Aside0 (kq ≤ k) ∧ Aside0 (w'.heap[gb340]? = some (.cells #[.int .i64 t336, .int .i64 t337, .string t338, .string t339] 43 (0, 0))) ∧ Aside0 (Below w.heap.size w w'))
  case atStart => exact ⟨(0), rfs_, H', ⟨Nat.le_refl _⟩, ⟨bch_⟩, ⟨bel_⟩⟩
  case round =>
   clear H'; try clear c4b0
   try clear c4b1
   try clear hcz7_0
   try clear hcz7_1
   try clear hcz7_2
   try clear hcz7_3
   try clear hfz7_0
   try clear hfz7_1
   try clear hfz7_2
   try clear hfz7_3
   obtain ⟨x8_1, rfl, HA, HK1, BK340, HB⟩ := hrel
   cases gk with
   | zero => exact absurd HA.out (by simp [r05_Integer.l0])
   | succ k1 =>
    have H := HA.out; clear HA; simp only [r05_Integer.l0] at H; by_cases c8 : x8_1 < (t339.size : Int)
    ·rw [if_pos c8] at H; have c8b0 : decide (x8_1 < (t339.size : Int)) = true := dt_ c8; clear c8; by_cases c9 : 0 ≤ x8_1
     ·rw [if_pos c9] at H; have c9b0 : decide (0 ≤ x8_1) = true := dt_ c9; clear c9; by_cases c11 : (bt t339 x8_1) = 46
      ·rw [if_pos c11] at H; have c11b0 : ((bt t339 x8_1) == 46) = true := beq_iff_eq.mpr c11; have c11b1 : ((bt t339 x8_1) != 46) = false := bne_eq_false_iff_eq.mpr c11; clear c11; simp only [Option.some.injEq, Prod.mk.injEq] at H; obtain ⟨rfl, rfl, rfl⟩ := H; obtain ⟨hcz12_0, hcz12_1, hcz12_2, hcz12_3⟩ := c4_ BK340; obtain ⟨hfz12_0, hfz12_1, hfz12_2, hfz12_3⟩ := f4_ BK340; have p10 : 0 ≤ (x8_1 : Int) := od_ (by first | (with_reducible assumption) | assumption); have q10 : x8_1 < (t339.size : Int) := od_ (by first | (with_reducible assumption) | assumption); have hx10 := bt_at t339 x8_1; replace p10 := eq_true p10; replace q10 := eq_true q10; go_wp2; go_ret3
       exact ⟨rsl_, bel_⟩
      rw [if_neg c11] at H; have c11b0 : ((bt t339 x8_1) == 46) = false := beq_eq_false_iff_ne.mpr c11; have c11b1 : ((bt t339 x8_1) != 46) = true := bne_iff_ne.mpr c11; by_cases c14 : (bt t339 x8_1) = 101
      ·rw [if_pos c14] at H; have c14b0 : ((bt t339 x8_1) == 101) = true := beq_iff_eq.mpr c14; have c14b1 : ((bt t339 x8_1) != 101) = false := bne_eq_false_iff_eq.mpr c14; clear c14; simp only [Option.some.injEq, Prod.mk.injEq] at H; obtain ⟨rfl, rfl, rfl⟩ := H; obtain ⟨hcz15_0, hcz15_1, hcz15_2, hcz15_3⟩ := c4_ BK340; obtain ⟨hfz15_0, hfz15_1, hfz15_2, hfz15_3⟩ := f4_ BK340; have p10 : 0 ≤ (x8_1 : Int) := od_ (by first | (with_reducible assumption) | assumption); have q10 : x8_1 < (t339.size : Int) := od_ (by first | (with_reducible assumption) | assumption); have hx10 := bt_at t339 x8_1; replace p10 := eq_true p10; replace q10 := eq_true q10; have p13 : 0 ≤ (x8_1 : Int) := od_ (by first | (with_reducible assumption) | assumption); have q13 : x8_1 < (t339.size : Int) := od_ (by first | (with_reducible assumption) | assumption); have hx13 := bt_at t339 x8_1; replace p13 := eq_true p13; replace q13 := eq_true q13; go_wp2; go_ret3
       exact ⟨rsl_, bel_⟩
      rw [if_neg c14] at H; have c14b0 : ((bt t339 x8_1) == 101) = false := beq_eq_false_iff_ne.mpr c14; have c14b1 : ((bt t339 x8_1) != 101) = true := bne_iff_ne.mpr c14; by_cases c17 : (bt t339 x8_1) = 69
      ·rw [if_pos c17] at H; have c17b0 : ((bt t339 x8_1) == 69) = true := beq_iff_eq.mpr c17; have c17b1 : ((bt t339 x8_1) != 69) = false := bne_eq_false_iff_eq.mpr c17; clear c17; simp only [Option.some.injEq, Prod.mk.injEq] at H; obtain ⟨rfl, rfl, rfl⟩ := H; obtain ⟨hcz18_0, hcz18_1, hcz18_2, hcz18_3⟩ := c4_ BK340; obtain ⟨hfz18_0, hfz18_1, hfz18_2, hfz18_3⟩ := f4_ BK340; have p10 : 0 ≤ (x8_1 : Int) := od_ (by first | (with_reducible assumption) | assumption); have q10 : x8_1 < (t339.size : Int) := od_ (by first | (with_reducible assumption) | assumption); have hx10 := bt_at t339 x8_1; replace p10 := eq_true p10; replace q10 := eq_true q10; have p13 : 0 ≤ (x8_1 : Int) := od_ (by first | (with_reducible assumption) | assumption); have q13 : x8_1 < (t339.size : Int) := od_ (by first | (with_reducible assumption) | assumption); have hx13 := bt_at t339 x8_1; replace p13 := eq_true p13; replace q13 := eq_true q13; have p16 : 0 ≤ (x8_1 : Int) := od_ (by first | (with_reducible assumption) | assumption); have q16 : x8_1 < (t339.size : Int) := od_ (by first | (with_reducible assumption) | assumption); have hx16 := bt_at t339 x8_1; replace p16 := eq_true p16; replace q16 := eq_true q16; go_wp2; go_ret3
       exact ⟨rsl_, bel_⟩
      rw [if_neg c17] at H; have c17b0 : ((bt t339 x8_1) == 69) = false := beq_eq_false_iff_ne.mpr c17; have c17b1 : ((bt t339 x8_1) != 69) = true := bne_iff_ne.mpr c17; have H' := am_ H; clear H; obtain ⟨hcz19_0, hcz19_1, hcz19_2, hcz19_3⟩ := c4_ BK340; obtain ⟨hfz19_0, hfz19_1, hfz19_2, hfz19_3⟩ := f4_ BK340; have p10 : 0 ≤ (x8_1 : Int) := od_ (by first | (with_reducible assumption) | assumption); have q10 : x8_1 < (t339.size : Int) := od_ (by first | (with_reducible assumption) | assumption); have hx10 := bt_at t339 x8_1; replace p10 := eq_true p10; replace q10 := eq_true q10; have p13 : 0 ≤ (x8_1 : Int) := od_ (by first | (with_reducible assumption) | assumption); have q13 : x8_1 < (t339.size : Int) := od_ (by first | (with_reducible assumption) | assumption); have hx13 := bt_at t339 x8_1; replace p13 := eq_true p13; replace q13 := eq_true q13; have p16 : 0 ≤ (x8_1 : Int) := od_ (by first | (with_reducible assumption) | assumption); have q16 : x8_1 < (t339.size : Int) := od_ (by first | (with_reducible assumption) | assumption); have hx16 := bt_at t339 x8_1; replace p16 := eq_true p16; replace q16 := eq_true q16; go_wp2; go_roundg k1
      case measure => have := HK1.out; omega
      case rel => exact ⟨(wrap64 (x8_1 + 1)), rfs_, H', ⟨by have := HK1.out; omega⟩, ⟨blk_⟩, ⟨bel_⟩⟩
     rw [if_neg c9] at H; exact absurd H (by simp)
    rw [if_neg c8] at H; have c8b0 : decide (x8_1 < (t339.size : Int)) = false := df_ c8; clear c8; replace H := bs_ H; obtain ⟨⟨t341, t342⟩, A200, H⟩ := H; try dsimp only at H
    have A20 := am_ A200; clear A200; by_cases c21 : t342 = 10
    ·rw [if_pos c21] at H; have c21b0 : (t342 == 10) = true := beq_iff_eq.mpr c21; have c21b1 : (t342 != 10) = false := bne_eq_false_iff_eq.mpr c21; clear c21; simp only [Option.some.injEq, Prod.mk.injEq] at H; obtain ⟨rfl, rfl, rfl⟩ := H; obtain ⟨hcz22_0, hcz22_1, hcz22_2, hcz22_3⟩ := c4_ BK340; obtain ⟨hfz22_0, hfz22_1, hfz22_2, hfz22_3⟩ := f4_ BK340; go_wp2_with (first | ((with_reducible refine gate_callee (f := 36) rfl ?_); refine goesL_ (some 48) rfl rfl Try.func36 (by kernel_rfl) rfl #[.string t339, .int .i64 1] rfl goa_ ?_; (with_reducible refine (r02_Value.calls k1 t339 1 t341 t342 _ A20.out).mono ?_); rintro e w23 ⟨rfl, hb⟩; refine ⟨_, rfl, ?_⟩; replace BK340 := blb_ BK340 hb; replace HB := am_ (below_step bel_ hb); clear hb))
     go_ret3
     exact ⟨rsl_, bel_⟩
    rw [if_neg c21] at H; have c21b0 : (t342 == 10) = false := beq_eq_false_iff_ne.mpr c21; have c21b1 : (t342 != 10) = true := bne_iff_ne.mpr c21; by_cases c24 : t342 = 0
    ·rw [if_pos c24] at H; have c24b0 : (t342 == 0) = true := beq_iff_eq.mpr c24; have c24b1 : (t342 != 0) = false := bne_eq_false_iff_eq.mpr c24; clear c24; simp only [Option.some.injEq, Prod.mk.injEq] at H; obtain ⟨rfl, rfl, rfl⟩ := H; obtain ⟨hcz25_0, hcz25_1, hcz25_2, hcz25_3⟩ := c4_ BK340; obtain ⟨hfz25_0, hfz25_1, hfz25_2, hfz25_3⟩ := f4_ BK340; go_wp2_with (first | ((with_reducible refine gate_callee (f := 36) rfl ?_); refine goesL_ (some 48) rfl rfl Try.func36 (by kernel_rfl) rfl #[.string t339, .int .i64 1] rfl goa_ ?_; (with_reducible refine (r02_Value.calls k1 t339 1 t341 t342 _ A20.out).mono ?_); rintro e w26 ⟨rfl, hb⟩; refine ⟨_, rfl, ?_⟩; replace BK340 := blb_ BK340 hb; replace HB := am_ (below_step bel_ hb); clear hb))
     go_ret3
     exact ⟨rsl_, bel_⟩
    rw [if_neg c24] at H; have c24b0 : (t342 == 0) = false := beq_eq_false_iff_ne.mpr c24; have c24b1 : (t342 != 0) = true := bne_iff_ne.mpr c24; simp only [Option.some.injEq, Prod.mk.injEq] at H; obtain ⟨rfl, rfl, rfl⟩ := H; obtain ⟨hcz27_0, hcz27_1, hcz27_2, hcz27_3⟩ := c4_ BK340; obtain ⟨hfz27_0, hfz27_1, hfz27_2, hfz27_3⟩ := f4_ BK340; go_wp2_with (first | ((with_reducible refine gate_callee (f := 36) rfl ?_); refine goesL_ (some 48) rfl rfl Try.func36 (by kernel_rfl) rfl #[.string t339, .int .i64 1] rfl goa_ ?_; (with_reducible refine (r02_Value.calls k1 t339 1 t341 t342 _ A20.out).mono ?_); rintro e w28 ⟨rfl, hb⟩; refine ⟨_, rfl, ?_⟩; replace BK340 := blb_ BK340 hb; replace HB := am_ (below_step bel_ hb); clear hb))
    go_ret3
    exact ⟨rsl_, bel_⟩
 rw [if_neg c4] at H; have c4b0 : (t336 == 3) = false := beq_eq_false_iff_ne.mpr c4; have c4b1 : (t336 != 3) = true := bne_iff_ne.mpr c4; simp only [Option.some.injEq, Prod.mk.injEq] at H; obtain ⟨rfl, rfl, rfl⟩ := H; go_enter Try.func22, Try.ntmps22
 go_wp2_with (first | ((with_reducible refine gate_callee (f := 33) rfl ?_); refine goesL_ (some 13) rfl rfl Try.func33 (by kernel_rfl) rfl #[.slice A0 l0.length c0, .int .i64 a1] rfl goa_ ?_; (with_reducible refine (r05_Word.calls _ _ l0 a1 t336 t337 t338 t339 _ ?side1 ?side2 A3.out).mono ?_); (case side1 => exact cin_); (case side2 => exact HC0.out); rintro e w29 ⟨rfl, hb⟩; refine ⟨_, rfl, ?_⟩; replace HB := am_ (below_step bel_ hb); clear hb) | ((with_reducible refine gate_dst (N := 7) rfl ?_); refine box_event ?hg (N := 7) ?hd (cs := #[.int .i64 0, .int .i64 0, .string (⟨#[]⟩ : ByteArray), .string (⟨#[]⟩ : ByteArray)]) (t := 43) ?hr ?_; (case hd => rfl); (case hg => rfl); (case hr => first | (go_simp; done) | (go_simp; rfl)); intro gb340 hg w30 hbox hb; have BK340 := am_ (hbox); have GW340 := am_ ((bsz_ hg : w.heap.size ≤ gb340)); have GE340 := am_ ((bsz_ hg : w.heap.size ≤ gb340)); replace HB := am_ (below_step bel_ hb); clear hb hbox hg; obtain ⟨hcz31_0, hcz31_1, hcz31_2, hcz31_3⟩ := c4_ BK340; obtain ⟨hfz31_0, hfz31_1, hfz31_2, hfz31_3⟩ := f4_ BK340))
 go_ret3
 exact ⟨rsl_, bel_⟩

/-! ### r04_nought: function 68 -/
def r04_nought.l0 : Nat → ByteArray → Int → Option (Bool)
 | 0, _, _ => none
 | k + 1, x0, x3 => if x3 < (x0.size : Int) then (if 0 ≤ x3 then (if (bt x0 x3) = 0 then (some true) else (r04_nought.l0 k x0 (wrap64 (x3 + 1)))) else (none)) else (some false)
def r04_nought.f (k : Nat) (a0 : ByteArray) : Option (Bool) := r04_nought.l0 k a0 0
theorem r04_nought.mono_l : ∀ k, (∀ y0 y1, LeO (r04_nought.l0 k y0 y1) (r04_nought.l0 (k + 1) y0 y1))
 | 0 => fun _ _ r h => by simp [r04_nought.l0] at h
 | k + 1 => by
  have ih0 := r04_nought.mono_l k; intro y0 y1; unfold r04_nought.l0; repeat' first
  | (with_reducible exact ih0 _ _)
  | (with_reducible first | exact LeO.refl _ | exact LeO.none _ | refine LeO.ite ?_ ?_ | refine LeO.bind ?_ (fun _ => ?_))
theorem r04_nought.mono : ∀ a0 k, LeO (r04_nought.f k a0) (r04_nought.f (k + 1) a0) := by
 intro a0 k; have ih0 := r04_nought.mono_l k; unfold r04_nought.f; repeat' first
   | (with_reducible exact ih0 _ _)
   | (with_reducible first | exact LeO.refl _ | exact LeO.none _ | refine LeO.ite ?_ ?_ | refine LeO.bind ?_ (fun _ => ?_))
set_option maxHeartbeats 8000000 in
theorem r04_nought.calls (k : Nat) (a0 : ByteArray) (r : Bool) (w : World) (h : r04_nought.f k a0 = some r) :
  Calls Try.prog 68 #[.string a0] w fun e w' => e = .returned (.bool r) ∧ Drawn0 w w' := by
 have H : (r04_nought.l0 k a0 0) = some r := h; clear h; have H' := am_ H; clear H; go_enter Try.func68, Try.ntmps68
 go_wp2; go_loopg [3] k (fun kq v3 w' => ∃ (x3_1 : Int), v3 = .int .i64 x3_1 ∧ Aside0 (r04_nought.l0 kq a0 x3_1 = some r) ∧ Aside0 (kq ≤ k) ∧ Drawn0 w w')
 case atStart => exact ⟨(0), rfs_, H', ⟨Nat.le_refl _⟩, drs_⟩
 case round =>
  clear H'; obtain ⟨x3_1, rfl, HA, HK1, ⟨m1, rfl⟩⟩ := hrel
  cases gk with
  | zero => exact absurd HA.out (by simp [r04_nought.l0])
  | succ k1 =>
   have H := HA.out; clear HA; simp only [r04_nought.l0] at H; by_cases c2 : x3_1 < (a0.size : Int)
   ·rw [if_pos c2] at H; have c2b0 : decide (x3_1 < (a0.size : Int)) = true := dt_ c2; clear c2; by_cases c3 : 0 ≤ x3_1
    ·rw [if_pos c3] at H; have c3b0 : decide (0 ≤ x3_1) = true := dt_ c3; clear c3; by_cases c5 : (bt a0 x3_1) = 0
     ·rw [if_pos c5] at H; have c5b0 : ((bt a0 x3_1) == 0) = true := beq_iff_eq.mpr c5; have c5b1 : ((bt a0 x3_1) != 0) = false := bne_eq_false_iff_eq.mpr c5; clear c5; obtain rfl := si_ H; have p4 : 0 ≤ (x3_1 : Int) := od_ (by first | (with_reducible assumption) | assumption); have q4 : x3_1 < (a0.size : Int) := od_ (by first | (with_reducible assumption) | assumption); have hx4 := bt_at a0 x3_1; replace p4 := eq_true p4; replace q4 := eq_true q4; go_wp2; go_ret
      exact ⟨by first | rfl | (simp; done) | (simp [*]; done), drs_⟩
     rw [if_neg c5] at H; have c5b0 : ((bt a0 x3_1) == 0) = false := beq_eq_false_iff_ne.mpr c5; have c5b1 : ((bt a0 x3_1) != 0) = true := bne_iff_ne.mpr c5; have H' := am_ H; clear H; have p4 : 0 ≤ (x3_1 : Int) := od_ (by first | (with_reducible assumption) | assumption); have q4 : x3_1 < (a0.size : Int) := od_ (by first | (with_reducible assumption) | assumption); have hx4 := bt_at a0 x3_1; replace p4 := eq_true p4; replace q4 := eq_true q4; go_wp2; go_roundg k1
     case measure => have := HK1.out; omega
     case rel => exact ⟨(wrap64 (x3_1 + 1)), rfs_, H', ⟨by have := HK1.out; omega⟩, drs_⟩
    rw [if_neg c3] at H; exact absurd H (by simp)
   rw [if_neg c2] at H; have c2b0 : decide (x3_1 < (a0.size : Int)) = false := df_ c2; clear c2; obtain rfl := si_ H; go_wp2; go_ret
   exact ⟨by first | rfl | (simp; done) | (simp [*]; done), drs_⟩


/-! ### r04_Name: function 47 -/
def r04_Name.f (k : Nat) (a0 : ByteArray) : Option (Bool) := if a0.toList = ([] : List UInt8) then (some false) else (if (a0.size : Int) ≤ 64 then ((r04_nought.f k a0).bind fun t343 => (some (!t343))) else (some false))
theorem r04_Name.mono : ∀ a0 k, LeO (r04_Name.f k a0) (r04_Name.f (k + 1) a0) := by
 intro a0 k; unfold r04_Name.f; repeat' first
   | (with_reducible exact r04_nought.mono _ _)
   | (with_reducible first | exact LeO.refl _ | exact LeO.none _ | refine LeO.ite ?_ ?_ | refine LeO.bind ?_ (fun _ => ?_))
set_option maxHeartbeats 8000000 in
theorem r04_Name.calls (k : Nat) (a0 : ByteArray) (r : Bool) (w : World) (h : r04_Name.f k a0 = some r) :
  Calls Try.prog 47 #[.string a0] w fun e w' => e = .returned (.bool r) ∧ Drawn0 w w' := by
 have H : (if a0.toList = ([] : List UInt8) then (some false) else (if (a0.size : Int) ≤ 64 then ((r04_nought.f k a0).bind fun t343 => (some (!t343))) else (some false))) = some r := h; clear h; by_cases c2 : a0.toList = ([] : List UInt8)
 ·rw [if_pos c2] at H; have c2b0 : (a0.toList == ([] : List UInt8)) = true := beq_iff_eq.mpr c2; have c2b1 : (a0.toList != ([] : List UInt8)) = false := bne_eq_false_iff_eq.mpr c2; clear c2; obtain rfl := si_ H; go_enter Try.func47, Try.ntmps47
  go_wp2; go_ret
  exact ⟨by first | rfl | (simp; done) | (simp [*]; done), drs_⟩
 rw [if_neg c2] at H; have c2b0 : (a0.toList == ([] : List UInt8)) = false := beq_eq_false_iff_ne.mpr c2; have c2b1 : (a0.toList != ([] : List UInt8)) = true := bne_iff_ne.mpr c2; by_cases c3 : (a0.size : Int) ≤ 64
 ·rw [if_pos c3] at H; have c3b0 : decide ((a0.size : Int) ≤ 64) = true := dt_ c3; have c3b1 : decide (a0.size ≤ 64) = true := dt_ (by omega); clear c3; replace H := bs_ H; obtain ⟨t343, A40, H⟩ := H; try dsimp only at H
  have A4 := am_ A40; clear A40; obtain rfl := si_ H; go_enter Try.func47, Try.ntmps47
  go_wp2_with (first | (go_at_call 68; (with_reducible refine (r04_nought.calls k a0 t343 _ A4.out).mono ?_); rintro e w' ⟨rfl, ⟨nd, rfl⟩⟩))
  go_ret
  exact ⟨by first | rfl | (simp; done) | (simp [*]; done), drs_⟩
 rw [if_neg c3] at H; have c3b0 : decide ((a0.size : Int) ≤ 64) = false := df_ c3; have c3b1 : decide (a0.size ≤ 64) = false := df_ (by omega); clear c3; obtain rfl := si_ H; go_enter Try.func47, Try.ntmps47
 go_wp2; go_ret
 exact ⟨by first | rfl | (simp; done) | (simp [*]; done), drs_⟩

/-! ### r04_Custom: function 35 -/
def r04_Custom.l0 : Nat → ByteArray → List ByteArray → Int → Option (Bool)
 | 0, _, _, _ => none
 | k + 1, x0, x3, x4 => if x4 < (x3.length : Int) then (if 0 ≤ x4 then ((r04_Is.f k x0 (rdOf ByteArray.empty x3 x4)).bind fun t348 => (if t348 = true then (some false) else (r04_Custom.l0 k x0 x3 (wrap64 (x4 + 1))))) else (none)) else ((r04_Name.f k x0).bind fun t349 => (some t349))
def r04_Custom.f (k : Nat) (a0 : ByteArray) : Option (Bool) := r04_Custom.l0 k a0 (([(⟨#[115, 112, 97, 110]⟩ : ByteArray), (⟨#[97, 117, 116, 111]⟩ : ByteArray), (⟨#[105, 110, 105, 116, 105, 97, 108]⟩ : ByteArray), (⟨#[105, 110, 104, 101, 114, 105, 116]⟩ : ByteArray), (⟨#[117, 110, 115, 101, 116]⟩ : ByteArray), (⟨#[100, 101, 102, 97, 117, 108, 116]⟩ : ByteArray), (⟨#[114, 101, 118, 101, 114, 116]⟩ : ByteArray)] : List ByteArray)) 0
theorem r04_Custom.mono_l : ∀ k, (∀ y0 y1 y2, LeO (r04_Custom.l0 k y0 y1 y2) (r04_Custom.l0 (k + 1) y0 y1 y2))
 | 0 => fun _ _ _ r h => by simp [r04_Custom.l0] at h
 | k + 1 => by
  have ih0 := r04_Custom.mono_l k; intro y0 y1 y2; unfold r04_Custom.l0; repeat' first
  | (with_reducible exact ih0 _ _ _)
  | (with_reducible exact r04_Is.mono _ _ _)
  | (with_reducible exact r04_Name.mono _ _)
  | (with_reducible first | exact LeO.refl _ | exact LeO.none _ | refine LeO.ite ?_ ?_ | refine LeO.bind ?_ (fun _ => ?_))
theorem r04_Custom.mono : ∀ a0 k, LeO (r04_Custom.f k a0) (r04_Custom.f (k + 1) a0) := by
 intro a0 k; have ih0 := r04_Custom.mono_l k; unfold r04_Custom.f; repeat' first
   | (with_reducible exact ih0 _ _ _)
   | (with_reducible exact r04_Is.mono _ _ _)
   | (with_reducible exact r04_Name.mono _ _)
   | (with_reducible first | exact LeO.refl _ | exact LeO.none _ | refine LeO.ite ?_ ?_ | refine LeO.bind ?_ (fun _ => ?_))
set_option maxHeartbeats 8000000 in
theorem r04_Custom.calls (k : Nat) (a0 : ByteArray) (r : Bool) (w : World) (h : r04_Custom.f k a0 = some r) :
  Calls Try.prog 35 #[.string a0] w fun e w' => e = .returned (.bool r) ∧ Below w.heap.size w w' := by
 have HB := am_ (Below.refl w.heap.size w); have H : (r04_Custom.l0 k a0 (([(⟨#[115, 112, 97, 110]⟩ : ByteArray), (⟨#[97, 117, 116, 111]⟩ : ByteArray), (⟨#[105, 110, 105, 116, 105, 97, 108]⟩ : ByteArray), (⟨#[105, 110, 104, 101, 114, 105, 116]⟩ : ByteArray), (⟨#[117, 110, 115, 101, 116]⟩ : ByteArray), (⟨#[100, 101, 102, 97, 117, 108, 116]⟩ : ByteArray), (⟨#[114, 101, 118, 101, 114, 116]⟩ : ByteArray)] : List ByteArray)) 0) = some r := h; clear h; obtain ⟨y344, hy344⟩ : ∃ y_ : List ByteArray, y_ = (([(⟨#[115, 112, 97, 110]⟩ : ByteArray), (⟨#[97, 117, 116, 111]⟩ : ByteArray), (⟨#[105, 110, 105, 116, 105, 97, 108]⟩ : ByteArray), (⟨#[105, 110, 104, 101, 114, 105, 116]⟩ : ByteArray), (⟨#[117, 110, 115, 101, 116]⟩ : ByteArray), (⟨#[100, 101, 102, 97, 117, 108, 116]⟩ : ByteArray), (⟨#[114, 101, 118, 101, 114, 116]⟩ : ByteArray)] : List ByteArray)) := ⟨_, rfl⟩
 replace H : (r04_Custom.l0 k a0 y344 0) = some r := by first | (rw [hy344]; with_reducible exact H) | (have H2_ := (Option.bind_some _ _).symm.trans H; rw [hy344]; with_reducible exact H2_) | (have H2_ := (Option.bind_some _ _).symm.trans H; with_reducible exact H2_) | with_reducible exact H | (rw [hy344]; exact H) | exact H
 have Ny344 := am_ hy344; clear hy344; have H' := am_ H; clear H; go_enter Try.func35, Try.ntmps35
 go_wp2_with (first | ((with_reducible refine gate_dst (N := 5) rfl ?_); refine Kd.R_lit Kd.string _ 9 ?hg (N := 5) ?hd (xs := ([(⟨#[115, 112, 97, 110]⟩ : ByteArray), (⟨#[97, 117, 116, 111]⟩ : ByteArray), (⟨#[105, 110, 105, 116, 105, 97, 108]⟩ : ByteArray), (⟨#[105, 110, 104, 101, 114, 105, 116]⟩ : ByteArray), (⟨#[117, 110, 115, 101, 116]⟩ : ByteArray), (⟨#[100, 101, 102, 97, 117, 108, 116]⟩ : ByteArray), (⟨#[114, 101, 118, 101, 114, 116]⟩ : ByteArray)] : List ByteArray)) (inner := [.string (⟨#[115, 112, 97, 110]⟩ : ByteArray), .string (⟨#[97, 117, 116, 111]⟩ : ByteArray), .string (⟨#[105, 110, 105, 116, 105, 97, 108]⟩ : ByteArray), .string (⟨#[105, 110, 104, 101, 114, 105, 116]⟩ : ByteArray), .string (⟨#[117, 110, 115, 101, 116]⟩ : ByteArray), .string (⟨#[100, 101, 102, 97, 117, 108, 116]⟩ : ByteArray), .string (⟨#[114, 101, 118, 101, 114, 116]⟩ : ByteArray)]) (ok := fun _ => True) (okp := fun _ => True) ?hr ?hp (fun _ hk => hk) trivial (Below.refl _ _) (Nat.le_refl _) (by simp) ?_; (case hd => rfl); (case hg => rfl); (case hr => first | (go_simp; done) | (go_simp; rfl)); (case hp => exact (Reps.one (show Kd.M Kd.string _ _ _ (⟨#[115, 112, 97, 110]⟩ : ByteArray) [.string (⟨#[115, 112, 97, 110]⟩ : ByteArray)] from rfl) (Reps.one (show Kd.M Kd.string _ _ _ (⟨#[97, 117, 116, 111]⟩ : ByteArray) [.string (⟨#[97, 117, 116, 111]⟩ : ByteArray)] from rfl) (Reps.one (show Kd.M Kd.string _ _ _ (⟨#[105, 110, 105, 116, 105, 97, 108]⟩ : ByteArray) [.string (⟨#[105, 110, 105, 116, 105, 97, 108]⟩ : ByteArray)] from rfl) (Reps.one (show Kd.M Kd.string _ _ _ (⟨#[105, 110, 104, 101, 114, 105, 116]⟩ : ByteArray) [.string (⟨#[105, 110, 104, 101, 114, 105, 116]⟩ : ByteArray)] from rfl) (Reps.one (show Kd.M Kd.string _ _ _ (⟨#[117, 110, 115, 101, 116]⟩ : ByteArray) [.string (⟨#[117, 110, 115, 101, 116]⟩ : ByteArray)] from rfl) (Reps.one (show Kd.M Kd.string _ _ _ (⟨#[100, 101, 102, 97, 117, 108, 116]⟩ : ByteArray) [.string (⟨#[100, 101, 102, 97, 117, 108, 116]⟩ : ByteArray)] from rfl) (Reps.one (show Kd.M Kd.string _ _ _ (⟨#[114, 101, 118, 101, 114, 116]⟩ : ByteArray) [.string (⟨#[114, 101, 118, 101, 114, 116]⟩ : ByteArray)] from rfl) (Reps.none _ _))))))))); intro v345 w2 ho3 hb hg_ hnew_; clear hg_ hnew_; (first | rw [← Ny344.out] at ho3 | (simp only [Int.reduceToNat] at ho3; rw [← Ny344.out] at ho3)); have HO346 := am_ (Kd.R_lower ho3 (below_size bel_)); replace HB := am_ (below_step bel_ hb); clear hb ho3))
 go_loopg [4] k (fun kq v4 w' => ∃ (x4_1 : Int), v4 = .int .i64 x4_1 ∧ Aside0 (r04_Custom.l0 kq a0 y344 x4_1 = some r) ∧ Aside0 (kq ≤ k) ∧ Aside0 (Kd.R Kd.string 9 w' w.heap.size (fun _ => True) v345 y344) ∧ Aside0 (Below w.heap.size w w'))
 case atStart => exact ⟨(0), rfs_, H', ⟨Nat.le_refl _⟩, ⟨by (with_reducible repeat (first | apply Kd.R_alloc | apply Kd.R_drewN | apply Kd.R_drew)); exact HO346.out⟩, ⟨bel_⟩⟩
 case round =>
  clear H'; obtain ⟨x4_1, rfl, HA, HK1, HO_3, HB⟩ := hrel
  cases gk with
  | zero => exact absurd HA.out (by simp [r04_Custom.l0])
  | succ k1 =>
   have H := HA.out; clear HA; simp only [r04_Custom.l0] at H; by_cases c4 : x4_1 < (y344.length : Int)
   ·rw [if_pos c4] at H; have c4b0 : decide (x4_1 < (y344.length : Int)) = true := dt_ c4; clear c4; by_cases c5 : 0 ≤ x4_1
    ·rw [if_pos c5] at H; have c5b0 : decide (0 ≤ x4_1) = true := dt_ c5; clear c5; replace H := bs_ H; obtain ⟨t348, A60, H⟩ := H; try dsimp only at H
     have A6 := am_ A60; clear A60; by_cases c7 : t348 = true
     ·subst c7; rw [if_pos rfl] at H; obtain rfl := si_ H; obtain ⟨Ao8, co8, eo8⟩ := Kd.R_slice HO_3.out; subst eo8; have p347 : 0 ≤ (x4_1 : Int) := od_ (by first | (with_reducible assumption) | assumption); have q347 : x4_1 < (y344.length : Int) := od_ (by first | (with_reducible assumption) | assumption); obtain ⟨ad347, e347, hx347_0⟩ := Kd.at_string (Kd.R_reads' HO_3.out).2.2 x4_1 p347 q347; cases e347
      replace p347 := eq_true p347; replace q347 := eq_true q347; go_wp2_with (first | ((with_reducible refine gate_callee (f := 34) rfl ?_); refine goesL_ (some 17) rfl rfl Try.func34 (by kernel_rfl) rfl #[.string a0, .string (rdOf ByteArray.empty y344 x4_1)] rfl goa_ ?_; (with_reducible refine (r04_Is.calls k1 a0 (rdOf ByteArray.empty y344 x4_1) true _ A6.out).mono ?_); rintro e w9 ⟨rfl, hb⟩; refine ⟨_, rfl, ?_⟩; replace HO_3 := am_ (Kd.R_below (row_ HO_3) hb); replace HB := am_ (below_step bel_ hb); clear hb))
      go_ret
      exact ⟨rsl_, bel_⟩
     replace c7 := Bool.eq_false_iff.mpr c7; subst c7; rw [if_neg (show ¬ (false = true) by decide)] at H; have H' := am_ H; clear H; obtain ⟨Ao10, co10, eo10⟩ := Kd.R_slice HO_3.out; subst eo10; have p347 : 0 ≤ (x4_1 : Int) := od_ (by first | (with_reducible assumption) | assumption); have q347 : x4_1 < (y344.length : Int) := od_ (by first | (with_reducible assumption) | assumption); obtain ⟨ad347, e347, hx347_0⟩ := Kd.at_string (Kd.R_reads' HO_3.out).2.2 x4_1 p347 q347; cases e347
     replace p347 := eq_true p347; replace q347 := eq_true q347; go_wp2_with (first | ((with_reducible refine gate_callee (f := 34) rfl ?_); refine goesL_ (some 17) rfl rfl Try.func34 (by kernel_rfl) rfl #[.string a0, .string (rdOf ByteArray.empty y344 x4_1)] rfl goa_ ?_; (with_reducible refine (r04_Is.calls k1 a0 (rdOf ByteArray.empty y344 x4_1) false _ A6.out).mono ?_); rintro e w11 ⟨rfl, hb⟩; refine ⟨_, rfl, ?_⟩; replace HO_3 := am_ (Kd.R_below (row_ HO_3) hb); replace HB := am_ (below_step bel_ hb); clear hb))
     go_roundg k1
     case measure => have := HK1.out; omega
     case rel => exact ⟨(wrap64 (x4_1 + 1)), rfs_, H', ⟨by have := HK1.out; omega⟩, ⟨by (with_reducible repeat (first | apply Kd.R_alloc | apply Kd.R_drewN | apply Kd.R_drew)); exact HO_3.out⟩, ⟨bel_⟩⟩
    rw [if_neg c5] at H; exact absurd H (by simp)
   rw [if_neg c4] at H; have c4b0 : decide (x4_1 < (y344.length : Int)) = false := df_ c4; clear c4; replace H := bs_ H; obtain ⟨t349, A120, H⟩ := H; try dsimp only at H
   have A12 := am_ A120; clear A120; obtain rfl := si_ H; obtain ⟨Ao13, co13, eo13⟩ := Kd.R_slice HO_3.out; subst eo13; go_wp2_with (first | ((with_reducible refine gate_callee (f := 47) rfl ?_); refine goesL_ (some 19) rfl rfl Try.func47 (by kernel_rfl) rfl #[.string a0] rfl goa_ ?_; (with_reducible refine (r04_Name.calls k1 a0 t349 _ A12.out).mono ?_); rintro e w' ⟨rfl, ⟨nd, rfl⟩⟩; refine ⟨_, rfl, ?_⟩))
   go_ret
   exact ⟨rsl_, bel_⟩

/-! ### r07_kind: function 21 -/
def r07_kind.f (k : Nat) (l0 : List (S43)) (a1 : Int) : Option (Int) := (r05_Word.f l0 a1).bind fun bt350 => (if bt350.1 = 1 then ((r04_Is.f k bt350.2.2.1 (⟨#[115, 112, 97, 110]⟩ : ByteArray)).bind fun t355 => (if t355 = true then (some 3) else ((r04_Custom.f k bt350.2.2.1).bind fun t356 => (if t356 = true then (some 2) else (some 0))))) else ((r05_Integer.f k l0 a1).bind fun bt357 => (if bt357.2.2 = 0 then (some 1) else (if bt357.2.2 = 10 then (some 1) else (some 0)))))
theorem r07_kind.mono : ∀ a0 a1 k, LeO (r07_kind.f k a0 a1) (r07_kind.f (k + 1) a0 a1) := by
 intro a0 a1 k; unfold r07_kind.f; repeat' first
   | (with_reducible exact r04_Custom.mono _ _)
   | (with_reducible exact r04_Is.mono _ _ _)
   | (with_reducible exact r05_Integer.mono _ _ _)
   | (with_reducible first | exact LeO.refl _ | exact LeO.none _ | refine LeO.ite ?_ ?_ | refine LeO.bind ?_ (fun _ => ?_))
set_option maxHeartbeats 8000000 in
theorem r07_kind.calls (k : Nat) (A0 : Option Addr) (c0 : Nat) (l0 : List (S43)) (a1 : Int) (r : Int) (w : World) (hr0 : Kd.C k43 w A0 l0.length l0) (hc0 : l0.length ≤ c0) (h : r07_kind.f k l0 a1 = some r) :
  Calls Try.prog 21 #[.slice A0 l0.length c0, .int .i64 a1] w fun e w' => e = .returned (.int .i64 r) ∧ Below w.heap.size w w' := by
 have hu43 := Try.underlying43; have HR0 := am_ hr0; have HC0 := am_ hc0; clear hr0 hc0; have HB := am_ (Below.refl w.heap.size w); have H : ((r05_Word.f l0 a1).bind fun bt350 => (if bt350.1 = 1 then ((r04_Is.f k bt350.2.2.1 (⟨#[115, 112, 97, 110]⟩ : ByteArray)).bind fun t355 => (if t355 = true then (some 3) else ((r04_Custom.f k bt350.2.2.1).bind fun t356 => (if t356 = true then (some 2) else (some 0))))) else ((r05_Integer.f k l0 a1).bind fun bt357 => (if bt357.2.2 = 0 then (some 1) else (if bt357.2.2 = 10 then (some 1) else (some 0)))))) = some r := h; clear h; replace H := bs_ H; obtain ⟨⟨t350, t351, t352, t353⟩, A30, H⟩ := H; try dsimp only at H
 have A3 := am_ A30; clear A30; by_cases c4 : t350 = 1
 ·rw [if_pos c4] at H; have c4b0 : (t350 == 1) = true := beq_iff_eq.mpr c4; have c4b1 : (t350 != 1) = false := bne_eq_false_iff_eq.mpr c4; clear c4; replace H := bs_ H; obtain ⟨t355, A50, H⟩ := H; try dsimp only at H
  have A5 := am_ A50; clear A50; by_cases c6 : t355 = true
  ·subst c6; rw [if_pos rfl] at H; obtain rfl := si_ H; go_enter Try.func21, Try.ntmps21
   go_wp2_with (first | ((with_reducible refine gate_callee (f := 33) rfl ?_); refine goesL_ (some 11) rfl rfl Try.func33 (by kernel_rfl) rfl #[.slice A0 l0.length c0, .int .i64 a1] rfl goa_ ?_; (with_reducible refine (r05_Word.calls _ _ l0 a1 t350 t351 t352 t353 _ ?side1 ?side2 A3.out).mono ?_); (case side1 => exact cin_); (case side2 => exact HC0.out); rintro e w7 ⟨rfl, hb⟩; refine ⟨_, rfl, ?_⟩; replace HB := am_ (below_step bel_ hb); clear hb) | ((with_reducible refine gate_dst (N := 5) rfl ?_); refine box_event ?hg (N := 5) ?hd (cs := #[.int .i64 0, .int .i64 0, .string (⟨#[]⟩ : ByteArray), .string (⟨#[]⟩ : ByteArray)]) (t := 43) ?hr ?_; (case hd => rfl); (case hg => rfl); (case hr => first | (go_simp; done) | (go_simp; rfl)); intro gb354 hg w8 hbox hb; have BK354 := am_ (hbox); have GW354 := am_ ((bsz_ hg : w.heap.size ≤ gb354)); have GE354 := am_ ((bsz_ hg : w.heap.size ≤ gb354)); replace HB := am_ (below_step bel_ hb); clear hb hbox hg; obtain ⟨hcz9_0, hcz9_1, hcz9_2, hcz9_3⟩ := c4_ BK354; obtain ⟨hfz9_0, hfz9_1, hfz9_2, hfz9_3⟩ := f4_ BK354) | ((with_reducible refine gate_callee (f := 34) rfl ?_); refine goesL_ (some 17) rfl rfl Try.func34 (by kernel_rfl) rfl #[.string t352, .string (⟨#[115, 112, 97, 110]⟩ : ByteArray)] rfl goa_ ?_; (with_reducible refine (r04_Is.calls k t352 (⟨#[115, 112, 97, 110]⟩ : ByteArray) true _ A5.out).mono ?_); rintro e w10 ⟨rfl, hb⟩; refine ⟨_, rfl, ?_⟩; replace BK354 := am_ (blk_below (g := gb354) (o := .cells #[.int .i64 t350, .int .i64 t351, .string t352, .string t353] 43 (0, 0)) (bch_) hb); replace HB := am_ (below_step bel_ hb); clear hb))
   go_ret
   exact ⟨rsl_, bel_⟩
  replace c6 := Bool.eq_false_iff.mpr c6; subst c6; rw [if_neg (show ¬ (false = true) by decide)] at H; replace H := bs_ H; obtain ⟨t356, A110, H⟩ := H; try dsimp only at H
  have A11 := am_ A110; clear A110; by_cases c12 : t356 = true
  ·subst c12; rw [if_pos rfl] at H; obtain rfl := si_ H; go_enter Try.func21, Try.ntmps21
   go_wp2_with (first | ((with_reducible refine gate_callee (f := 33) rfl ?_); refine goesL_ (some 11) rfl rfl Try.func33 (by kernel_rfl) rfl #[.slice A0 l0.length c0, .int .i64 a1] rfl goa_ ?_; (with_reducible refine (r05_Word.calls _ _ l0 a1 t350 t351 t352 t353 _ ?side1 ?side2 A3.out).mono ?_); (case side1 => exact cin_); (case side2 => exact HC0.out); rintro e w13 ⟨rfl, hb⟩; refine ⟨_, rfl, ?_⟩; replace HB := am_ (below_step bel_ hb); clear hb) | ((with_reducible refine gate_dst (N := 5) rfl ?_); refine box_event ?hg (N := 5) ?hd (cs := #[.int .i64 0, .int .i64 0, .string (⟨#[]⟩ : ByteArray), .string (⟨#[]⟩ : ByteArray)]) (t := 43) ?hr ?_; (case hd => rfl); (case hg => rfl); (case hr => first | (go_simp; done) | (go_simp; rfl)); intro gb354 hg w14 hbox hb; have BK354 := am_ (hbox); have GW354 := am_ ((bsz_ hg : w.heap.size ≤ gb354)); have GE354 := am_ ((bsz_ hg : w.heap.size ≤ gb354)); replace HB := am_ (below_step bel_ hb); clear hb hbox hg; obtain ⟨hcz15_0, hcz15_1, hcz15_2, hcz15_3⟩ := c4_ BK354; obtain ⟨hfz15_0, hfz15_1, hfz15_2, hfz15_3⟩ := f4_ BK354) | ((with_reducible refine gate_callee (f := 34) rfl ?_); refine goesL_ (some 17) rfl rfl Try.func34 (by kernel_rfl) rfl #[.string t352, .string (⟨#[115, 112, 97, 110]⟩ : ByteArray)] rfl goa_ ?_; (with_reducible refine (r04_Is.calls k t352 (⟨#[115, 112, 97, 110]⟩ : ByteArray) false _ A5.out).mono ?_); rintro e w16 ⟨rfl, hb⟩; refine ⟨_, rfl, ?_⟩; replace BK354 := am_ (blk_below (g := gb354) (o := .cells #[.int .i64 t350, .int .i64 t351, .string t352, .string t353] 43 (0, 0)) (bch_) hb); replace HB := am_ (below_step bel_ hb); clear hb; obtain ⟨hcz17_0, hcz17_1, hcz17_2, hcz17_3⟩ := c4_ BK354; obtain ⟨hfz17_0, hfz17_1, hfz17_2, hfz17_3⟩ := f4_ BK354) | ((with_reducible refine gate_callee (f := 35) rfl ?_); refine goesL_ (some 20) rfl rfl Try.func35 (by kernel_rfl) rfl #[.string t352] rfl goa_ ?_; (with_reducible refine (r04_Custom.calls k t352 true _ A11.out).mono ?_); rintro e w18 ⟨rfl, hb⟩; refine ⟨_, rfl, ?_⟩; replace BK354 := blb_ BK354 hb; replace HB := am_ (below_step bel_ hb); clear hb))
   go_ret
   exact ⟨rsl_, bel_⟩
  replace c12 := Bool.eq_false_iff.mpr c12; subst c12; rw [if_neg (show ¬ (false = true) by decide)] at H; obtain rfl := si_ H; go_enter Try.func21, Try.ntmps21
  go_wp2_with (first | ((with_reducible refine gate_callee (f := 33) rfl ?_); refine goesL_ (some 11) rfl rfl Try.func33 (by kernel_rfl) rfl #[.slice A0 l0.length c0, .int .i64 a1] rfl goa_ ?_; (with_reducible refine (r05_Word.calls _ _ l0 a1 t350 t351 t352 t353 _ ?side1 ?side2 A3.out).mono ?_); (case side1 => exact cin_); (case side2 => exact HC0.out); rintro e w19 ⟨rfl, hb⟩; refine ⟨_, rfl, ?_⟩; replace HB := am_ (below_step bel_ hb); clear hb) | ((with_reducible refine gate_dst (N := 5) rfl ?_); refine box_event ?hg (N := 5) ?hd (cs := #[.int .i64 0, .int .i64 0, .string (⟨#[]⟩ : ByteArray), .string (⟨#[]⟩ : ByteArray)]) (t := 43) ?hr ?_; (case hd => rfl); (case hg => rfl); (case hr => first | (go_simp; done) | (go_simp; rfl)); intro gb354 hg w20 hbox hb; have BK354 := am_ (hbox); have GW354 := am_ ((bsz_ hg : w.heap.size ≤ gb354)); have GE354 := am_ ((bsz_ hg : w.heap.size ≤ gb354)); replace HB := am_ (below_step bel_ hb); clear hb hbox hg; obtain ⟨hcz21_0, hcz21_1, hcz21_2, hcz21_3⟩ := c4_ BK354; obtain ⟨hfz21_0, hfz21_1, hfz21_2, hfz21_3⟩ := f4_ BK354) | ((with_reducible refine gate_callee (f := 34) rfl ?_); refine goesL_ (some 17) rfl rfl Try.func34 (by kernel_rfl) rfl #[.string t352, .string (⟨#[115, 112, 97, 110]⟩ : ByteArray)] rfl goa_ ?_; (with_reducible refine (r04_Is.calls k t352 (⟨#[115, 112, 97, 110]⟩ : ByteArray) false _ A5.out).mono ?_); rintro e w22 ⟨rfl, hb⟩; refine ⟨_, rfl, ?_⟩; replace BK354 := am_ (blk_below (g := gb354) (o := .cells #[.int .i64 t350, .int .i64 t351, .string t352, .string t353] 43 (0, 0)) (bch_) hb); replace HB := am_ (below_step bel_ hb); clear hb; obtain ⟨hcz23_0, hcz23_1, hcz23_2, hcz23_3⟩ := c4_ BK354; obtain ⟨hfz23_0, hfz23_1, hfz23_2, hfz23_3⟩ := f4_ BK354) | ((with_reducible refine gate_callee (f := 35) rfl ?_); refine goesL_ (some 20) rfl rfl Try.func35 (by kernel_rfl) rfl #[.string t352] rfl goa_ ?_; (with_reducible refine (r04_Custom.calls k t352 false _ A11.out).mono ?_); rintro e w24 ⟨rfl, hb⟩; refine ⟨_, rfl, ?_⟩; replace BK354 := blb_ BK354 hb; replace HB := am_ (below_step bel_ hb); clear hb))
  go_ret
  exact ⟨rsl_, bel_⟩
 rw [if_neg c4] at H; have c4b0 : (t350 == 1) = false := beq_eq_false_iff_ne.mpr c4; have c4b1 : (t350 != 1) = true := bne_iff_ne.mpr c4; replace H := bs_ H; obtain ⟨⟨t357, t358, t359⟩, A250, H⟩ := H; try dsimp only at H
 have A25 := am_ A250; clear A250; by_cases c26 : t359 = 0
 ·rw [if_pos c26] at H; have c26b0 : (t359 == 0) = true := beq_iff_eq.mpr c26; have c26b1 : (t359 != 0) = false := bne_eq_false_iff_eq.mpr c26; clear c26; obtain rfl := si_ H; go_enter Try.func21, Try.ntmps21
  go_wp2_with (first | ((with_reducible refine gate_callee (f := 33) rfl ?_); refine goesL_ (some 11) rfl rfl Try.func33 (by kernel_rfl) rfl #[.slice A0 l0.length c0, .int .i64 a1] rfl goa_ ?_; (with_reducible refine (r05_Word.calls _ _ l0 a1 t350 t351 t352 t353 _ ?side1 ?side2 A3.out).mono ?_); (case side1 => exact cin_); (case side2 => exact HC0.out); rintro e w27 ⟨rfl, hb⟩; refine ⟨_, rfl, ?_⟩; replace HB := am_ (below_step bel_ hb); clear hb) | ((with_reducible refine gate_dst (N := 5) rfl ?_); refine box_event ?hg (N := 5) ?hd (cs := #[.int .i64 0, .int .i64 0, .string (⟨#[]⟩ : ByteArray), .string (⟨#[]⟩ : ByteArray)]) (t := 43) ?hr ?_; (case hd => rfl); (case hg => rfl); (case hr => first | (go_simp; done) | (go_simp; rfl)); intro gb354 hg w28 hbox hb; have BK354 := am_ (hbox); have GW354 := am_ ((bsz_ hg : w.heap.size ≤ gb354)); have GE354 := am_ ((bsz_ hg : w.heap.size ≤ gb354)); replace HB := am_ (below_step bel_ hb); clear hb hbox hg; obtain ⟨hcz29_0, hcz29_1, hcz29_2, hcz29_3⟩ := c4_ BK354; obtain ⟨hfz29_0, hfz29_1, hfz29_2, hfz29_3⟩ := f4_ BK354) | ((with_reducible refine gate_callee (f := 22) rfl ?_); refine goesL_ (some 24) rfl rfl Try.func22 (by kernel_rfl) rfl #[.slice A0 l0.length c0, .int .i64 a1] rfl goa_ ?_; (with_reducible refine (r05_Integer.calls k _ _ l0 a1 t357 t358 t359 _ ?side1 ?side2 A25.out).mono ?_); (case side1 => exact Kd.C_below HR0.out bel_); (case side2 => exact HC0.out); rintro e w30 ⟨rfl, hb⟩; refine ⟨_, rfl, ?_⟩; replace BK354 := am_ (blk_below (g := gb354) (o := .cells #[.int .i64 t350, .int .i64 t351, .string t352, .string t353] 43 (0, 0)) (bch_) hb); replace HB := am_ (below_step bel_ hb); clear hb))
  go_ret
  exact ⟨rsl_, bel_⟩
 rw [if_neg c26] at H; have c26b0 : (t359 == 0) = false := beq_eq_false_iff_ne.mpr c26; have c26b1 : (t359 != 0) = true := bne_iff_ne.mpr c26; by_cases c31 : t359 = 10
 ·rw [if_pos c31] at H; have c31b0 : (t359 == 10) = true := beq_iff_eq.mpr c31; have c31b1 : (t359 != 10) = false := bne_eq_false_iff_eq.mpr c31; clear c31; obtain rfl := si_ H; go_enter Try.func21, Try.ntmps21
  go_wp2_with (first | ((with_reducible refine gate_callee (f := 33) rfl ?_); refine goesL_ (some 11) rfl rfl Try.func33 (by kernel_rfl) rfl #[.slice A0 l0.length c0, .int .i64 a1] rfl goa_ ?_; (with_reducible refine (r05_Word.calls _ _ l0 a1 t350 t351 t352 t353 _ ?side1 ?side2 A3.out).mono ?_); (case side1 => exact cin_); (case side2 => exact HC0.out); rintro e w32 ⟨rfl, hb⟩; refine ⟨_, rfl, ?_⟩; replace HB := am_ (below_step bel_ hb); clear hb) | ((with_reducible refine gate_dst (N := 5) rfl ?_); refine box_event ?hg (N := 5) ?hd (cs := #[.int .i64 0, .int .i64 0, .string (⟨#[]⟩ : ByteArray), .string (⟨#[]⟩ : ByteArray)]) (t := 43) ?hr ?_; (case hd => rfl); (case hg => rfl); (case hr => first | (go_simp; done) | (go_simp; rfl)); intro gb354 hg w33 hbox hb; have BK354 := am_ (hbox); have GW354 := am_ ((bsz_ hg : w.heap.size ≤ gb354)); have GE354 := am_ ((bsz_ hg : w.heap.size ≤ gb354)); replace HB := am_ (below_step bel_ hb); clear hb hbox hg; obtain ⟨hcz34_0, hcz34_1, hcz34_2, hcz34_3⟩ := c4_ BK354; obtain ⟨hfz34_0, hfz34_1, hfz34_2, hfz34_3⟩ := f4_ BK354) | ((with_reducible refine gate_callee (f := 22) rfl ?_); refine goesL_ (some 24) rfl rfl Try.func22 (by kernel_rfl) rfl #[.slice A0 l0.length c0, .int .i64 a1] rfl goa_ ?_; (with_reducible refine (r05_Integer.calls k _ _ l0 a1 t357 t358 t359 _ ?side1 ?side2 A25.out).mono ?_); (case side1 => exact Kd.C_below HR0.out bel_); (case side2 => exact HC0.out); rintro e w35 ⟨rfl, hb⟩; refine ⟨_, rfl, ?_⟩; replace BK354 := am_ (blk_below (g := gb354) (o := .cells #[.int .i64 t350, .int .i64 t351, .string t352, .string t353] 43 (0, 0)) (bch_) hb); replace HB := am_ (below_step bel_ hb); clear hb))
  go_ret
  exact ⟨rsl_, bel_⟩
 rw [if_neg c31] at H; have c31b0 : (t359 == 10) = false := beq_eq_false_iff_ne.mpr c31; have c31b1 : (t359 != 10) = true := bne_iff_ne.mpr c31; obtain rfl := si_ H; go_enter Try.func21, Try.ntmps21
 go_wp2_with (first | ((with_reducible refine gate_callee (f := 33) rfl ?_); refine goesL_ (some 11) rfl rfl Try.func33 (by kernel_rfl) rfl #[.slice A0 l0.length c0, .int .i64 a1] rfl goa_ ?_; (with_reducible refine (r05_Word.calls _ _ l0 a1 t350 t351 t352 t353 _ ?side1 ?side2 A3.out).mono ?_); (case side1 => exact cin_); (case side2 => exact HC0.out); rintro e w36 ⟨rfl, hb⟩; refine ⟨_, rfl, ?_⟩; replace HB := am_ (below_step bel_ hb); clear hb) | ((with_reducible refine gate_dst (N := 5) rfl ?_); refine box_event ?hg (N := 5) ?hd (cs := #[.int .i64 0, .int .i64 0, .string (⟨#[]⟩ : ByteArray), .string (⟨#[]⟩ : ByteArray)]) (t := 43) ?hr ?_; (case hd => rfl); (case hg => rfl); (case hr => first | (go_simp; done) | (go_simp; rfl)); intro gb354 hg w37 hbox hb; have BK354 := am_ (hbox); have GW354 := am_ ((bsz_ hg : w.heap.size ≤ gb354)); have GE354 := am_ ((bsz_ hg : w.heap.size ≤ gb354)); replace HB := am_ (below_step bel_ hb); clear hb hbox hg; obtain ⟨hcz38_0, hcz38_1, hcz38_2, hcz38_3⟩ := c4_ BK354; obtain ⟨hfz38_0, hfz38_1, hfz38_2, hfz38_3⟩ := f4_ BK354) | ((with_reducible refine gate_callee (f := 22) rfl ?_); refine goesL_ (some 24) rfl rfl Try.func22 (by kernel_rfl) rfl #[.slice A0 l0.length c0, .int .i64 a1] rfl goa_ ?_; (with_reducible refine (r05_Integer.calls k _ _ l0 a1 t357 t358 t359 _ ?side1 ?side2 A25.out).mono ?_); (case side1 => exact Kd.C_below HR0.out bel_); (case side2 => exact HC0.out); rintro e w39 ⟨rfl, hb⟩; refine ⟨_, rfl, ?_⟩; replace BK354 := am_ (blk_below (g := gb354) (o := .cells #[.int .i64 t350, .int .i64 t351, .string t352, .string t353] 43 (0, 0)) (bch_) hb); replace HB := am_ (below_step bel_ hb); clear hb))
 go_ret
 exact ⟨rsl_, bel_⟩

end Go.Proofs.Ytofdhdafabmhmaa.PLr
end
