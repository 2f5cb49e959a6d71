-- Written by a program of this session (wip/p2) out of the translation; Lean checks it.
import Derived.Test.YtdjfdhnmbimkoaaSq
import Derived.Test.YtdjfdhnmbimkoaaPRsx0
import Derived.Test.YtdjfdhnmbimkoaaPRsx15
namespace Go.Proofs.Ytdjfdhnmbimkoaa.PRs
open Go.RowKit Go.Proofs.YtdjfdhnmbimkoaaW.PrintWords Go.Proofs.YtdjfdhnmbimkoaaW.PrintLast Go.Proofs.YtdjfdhnmbimkoaaW.PrintMore
attribute [local go_sem] max2_int min2_int max_two min_two max_three min_three max_four min_four   -- for this text's walks alone
set_option linter.unusedVariables false
set_option linter.unusedSimpArgs false
open Go.Proofs.Ytdjfdhnmbimkoaa.Opn Go.Proofs.Ytdjfdhnmbimkoaa.Giv

/-! ### parterreref16_Along: function 19 -/
mutual
def parterreref16_Along.j0 : Nat → List (List ByteArray) → ByteArray → Int → Int → Bool → Option (Int)
 | 0, _, _, _, _, _ => none
 | k + 1, x0, x1, x2, x3, x32 => if x32 = true then (some x2) else (parterreref16_Along.l0 k x0 x1 x3 x2)
def parterreref16_Along.l0 : Nat → List (List ByteArray) → ByteArray → Int → Int → Option (Int)
 | 0, _, _, _, _ => none
 | k + 1, x0, x1, x3, x9 => if x3 > 0 then (if (wrap64 (x9 + 1)) ≥ (x0.length : Int) then (parterreref16_Along.l0 k x0 x1 (wrap64 (x3 - 1)) (wrap64 (x9 + 1))) else (if (wrap64 (x9 + 1)) ≥ 0 then (if 0 ≤ (wrap64 (x9 + 1)) then (if (wrap64 (x9 + 1)) < (x0.length : Int) then ((parterreref16_has.f k (rd_L1 x0 (wrap64 (x9 + 1))) x1).bind fun t279 => (if t279 = true then (parterreref16_Along.l0 k x0 x1 (wrap64 (x3 - 1)) (wrap64 (x9 + 1))) else (parterreref16_Along.l0 k x0 x1 x3 (wrap64 (x9 + 1))))) else (none)) else (none)) else (parterreref16_Along.l0 k x0 x1 x3 (wrap64 (x9 + 1))))) else (parterreref16_Along.l1 k x0 x1 x3 x9)
def parterreref16_Along.l1 : Nat → List (List ByteArray) → ByteArray → Int → Int → Option (Int)
 | 0, _, _, _, _ => none
 | k + 1, x0, x1, x3, x9 => if x3 < 0 then (if (wrap64 (x9 - 1)) < 0 then (parterreref16_Along.l1 k x0 x1 (wrap64 (x3 + 1)) (wrap64 (x9 - 1))) else (if (wrap64 (x9 - 1)) < (x0.length : Int) then (if 0 ≤ (wrap64 (x9 - 1)) then ((parterreref16_has.f k (rd_L1 x0 (wrap64 (x9 - 1))) x1).bind fun t281 => (if t281 = true then (parterreref16_Along.l1 k x0 x1 (wrap64 (x3 + 1)) (wrap64 (x9 - 1))) else (parterreref16_Along.l1 k x0 x1 x3 (wrap64 (x9 - 1))))) else (none)) else (parterreref16_Along.l1 k x0 x1 x3 (wrap64 (x9 - 1))))) else (some x9)
end
def parterreref16_Along.f (k : Nat) (l0 : List (List ByteArray)) (a1 : ByteArray) (a2 : Int) (a3 : Int) : Option (Int) := if a3 = 0 then (parterreref16_Along.j0 k l0 a1 a2 a3 true) else (if (l0.length : Int) = 0 then (parterreref16_Along.j0 k l0 a1 a2 a3 true) else (if a3 > 10000 then (parterreref16_Along.j0 k l0 a1 a2 a3 true) else (if a3 < (-10000) then (parterreref16_Along.j0 k l0 a1 a2 a3 true) else (if a2 > 30000 then (parterreref16_Along.j0 k l0 a1 a2 a3 true) else (parterreref16_Along.j0 k l0 a1 a2 a3 (decide (a2 < (-30000))))))))
theorem parterreref16_Along.mono_l : ∀ k, (∀ y0 y1 y2 y3 y4, LeO (parterreref16_Along.j0 k y0 y1 y2 y3 y4) (parterreref16_Along.j0 (k + 1) y0 y1 y2 y3 y4)) ∧ (∀ y0 y1 y2 y3, LeO (parterreref16_Along.l0 k y0 y1 y2 y3) (parterreref16_Along.l0 (k + 1) y0 y1 y2 y3)) ∧ (∀ y0 y1 y2 y3, LeO (parterreref16_Along.l1 k y0 y1 y2 y3) (parterreref16_Along.l1 (k + 1) y0 y1 y2 y3))
 | 0 => ⟨fun _ _ _ _ _ r h => by simp [parterreref16_Along.j0] at h, fun _ _ _ _ r h => by simp [parterreref16_Along.l0] at h, fun _ _ _ _ r h => by simp [parterreref16_Along.l1] at h⟩
 | k + 1 => by
  obtain ⟨ih0, ih1, ih2⟩ := parterreref16_Along.mono_l k
  refine ⟨?_, ?_, ?_⟩
  ·intro y0 y1 y2 y3 y4
   unfold parterreref16_Along.j0
   repeat' first
   | (with_reducible exact ih0 _ _ _ _ _)
   | (with_reducible exact ih1 _ _ _ _)
   | (with_reducible exact ih2 _ _ _ _)
   | (with_reducible exact parterreref16_has.mono _ _ _)
   | (with_reducible exact LeO.refl _)
   | (with_reducible exact LeO.none _)
   | (with_reducible refine LeO.ite ?_ ?_)
   | (with_reducible refine LeO.bind ?_ (fun _ => ?_))
  ·intro y0 y1 y2 y3
   unfold parterreref16_Along.l0
   repeat' first
   | (with_reducible exact ih0 _ _ _ _ _)
   | (with_reducible exact ih1 _ _ _ _)
   | (with_reducible exact ih2 _ _ _ _)
   | (with_reducible exact parterreref16_has.mono _ _ _)
   | (with_reducible exact LeO.refl _)
   | (with_reducible exact LeO.none _)
   | (with_reducible refine LeO.ite ?_ ?_)
   | (with_reducible refine LeO.bind ?_ (fun _ => ?_))
  ·intro y0 y1 y2 y3
   unfold parterreref16_Along.l1
   repeat' first
   | (with_reducible exact ih0 _ _ _ _ _)
   | (with_reducible exact ih1 _ _ _ _)
   | (with_reducible exact ih2 _ _ _ _)
   | (with_reducible exact parterreref16_has.mono _ _ _)
   | (with_reducible exact LeO.refl _)
   | (with_reducible exact LeO.none _)
   | (with_reducible refine LeO.ite ?_ ?_)
   | (with_reducible refine LeO.bind ?_ (fun _ => ?_))
theorem parterreref16_Along.mono : ∀ a0 a1 a2 a3 k, LeO (parterreref16_Along.f k a0 a1 a2 a3) (parterreref16_Along.f (k + 1) a0 a1 a2 a3) := by
 intro a0 a1 a2 a3 k
 obtain ⟨ih0, ih1, ih2⟩ := parterreref16_Along.mono_l k
 unfold parterreref16_Along.f
 repeat' first
   | (with_reducible exact ih0 _ _ _ _ _)
   | (with_reducible exact ih1 _ _ _ _)
   | (with_reducible exact ih2 _ _ _ _)
   | (with_reducible exact parterreref16_has.mono _ _ _)
   | (with_reducible exact LeO.refl _)
   | (with_reducible exact LeO.none _)
   | (with_reducible refine LeO.ite ?_ ?_)
   | (with_reducible refine LeO.bind ?_ (fun _ => ?_))
set_option maxHeartbeats 8000000 in
set_option maxRecDepth 100000 in
theorem parterreref16_Along.calls (k : Nat) (A0 : Option Addr) (c0 : Nat) (l0 : List (List ByteArray)) (a1 : ByteArray) (a2 : Int) (a3 : Int) (r : Int) (w : World) (hr0 : Kd.C (Kd.slice 9 Kd.string) w A0 l0.length l0) (hc0 : l0.length ≤ c0) (h : parterreref16_Along.f k l0 a1 a2 a3 = some r) :
  Calls Try.prog 19 #[.slice A0 l0.length c0, .string a1, .int .i64 a2, .int .i64 a3] w fun e w' => e = .returned (.int .i64 r) ∧ Drawn0 w w' := by
 have HR0 := Aside0.mk hr0
 have HC0 := Aside0.mk hc0
 clear hr0 hc0
 have H : (if a3 = 0 then (parterreref16_Along.j0 k l0 a1 a2 a3 true) else (if (l0.length : Int) = 0 then (parterreref16_Along.j0 k l0 a1 a2 a3 true) else (if a3 > 10000 then (parterreref16_Along.j0 k l0 a1 a2 a3 true) else (if a3 < (-10000) then (parterreref16_Along.j0 k l0 a1 a2 a3 true) else (if a2 > 30000 then (parterreref16_Along.j0 k l0 a1 a2 a3 true) else (parterreref16_Along.j0 k l0 a1 a2 a3 (decide (a2 < (-30000))))))))) = some r := h
 clear h
 have HC5 := Aside0.mk H
 clear H
 go_enter Try.func19, Try.ntmps19
 go_upto_region 1 with (fail)
 go_cut [32] (fun v32 wc => ∃ (kq : Nat) (x32_4 : Bool), v32 = .bool x32_4 ∧ Aside0 (parterreref16_Along.j0 kq l0 a1 a2 a3 x32_4 = some r) ∧ Aside0 (kq ≤ k) ∧ Drawn0 w wc)
 case first =>
  have H := HC5.out
  clear HC5
  by_cases c6 : a3 = 0
  ·rw [if_pos c6] at H
   have c6b0 : (a3 == 0) = true := beq_iff_eq.mpr c6
   have c6b1 : (a3 != 0) = false := bne_eq_false_iff_eq.mpr c6
   clear c6
   (first | rw [c6b0] | (simp only [i64_w, i32_w]; rw [c6b0]) | skip)
   have H' := Aside0.mk H
   clear H
   go_wp2
   go_meet
   case rel => exact ⟨_, (true), rfs_, H', ⟨ole_⟩, by repeat (first | exact Drawn0.refl _ | apply Drawn0.step)⟩
  ·rw [if_neg c6] at H
   have c6b0 : (a3 == 0) = false := beq_eq_false_iff_ne.mpr c6
   have c6b1 : (a3 != 0) = true := bne_iff_ne.mpr c6
   (first | rw [c6b0] | (simp only [i64_w, i32_w]; rw [c6b0]) | skip)
   by_cases c7 : (l0.length : Int) = 0
   ·rw [if_pos c7] at H
    have c7b0 : ((l0.length : Int) == 0) = true := beq_iff_eq.mpr c7
    have c7b1 : ((l0.length : Int) != 0) = false := bne_eq_false_iff_eq.mpr c7
    clear c7
    have H' := Aside0.mk H
    clear H
    go_wp2
    go_meet
    case rel => exact ⟨_, (true), rfs_, H', ⟨ole_⟩, by repeat (first | exact Drawn0.refl _ | apply Drawn0.step)⟩
   ·rw [if_neg c7] at H
    have c7b0 : ((l0.length : Int) == 0) = false := beq_eq_false_iff_ne.mpr c7
    have c7b1 : ((l0.length : Int) != 0) = true := bne_iff_ne.mpr c7
    have c7b2 : ¬ (l0 = []) := fun h_ => c7 (by rw [h_]; rfl)
    by_cases c8 : a3 > 10000
    ·rw [if_pos c8] at H
     have c8b0 : decide (10000 < a3) = true := decide_eq_true c8
     clear c8
     have H' := Aside0.mk H
     clear H
     go_wp2
     go_meet
     case rel => exact ⟨_, (true), rfs_, H', ⟨ole_⟩, by repeat (first | exact Drawn0.refl _ | apply Drawn0.step)⟩
    ·rw [if_neg c8] at H
     have c8b0 : decide (10000 < a3) = false := decide_eq_false c8
     clear c8
     by_cases c9 : a3 < (-10000)
     ·rw [if_pos c9] at H
      have c9b0 : decide (a3 < (-10000)) = true := decide_eq_true c9
      clear c9
      have H' := Aside0.mk H
      clear H
      go_wp2
      go_meet
      case rel => exact ⟨_, (true), rfs_, H', ⟨ole_⟩, by repeat (first | exact Drawn0.refl _ | apply Drawn0.step)⟩
     ·rw [if_neg c9] at H
      have c9b0 : decide (a3 < (-10000)) = false := decide_eq_false c9
      clear c9
      by_cases c10 : a2 > 30000
      ·rw [if_pos c10] at H
       have c10b0 : decide (30000 < a2) = true := decide_eq_true c10
       clear c10
       have H' := Aside0.mk H
       clear H
       go_wp2
       go_meet
       case rel => exact ⟨_, (true), rfs_, H', ⟨ole_⟩, by repeat (first | exact Drawn0.refl _ | apply Drawn0.step)⟩
      ·rw [if_neg c10] at H
       have c10b0 : decide (30000 < a2) = false := decide_eq_false c10
       clear c10
       have H' := Aside0.mk H
       clear H
       go_wp2
       go_meet
       case rel => exact ⟨_, (decide (a2 < (-30000))), rfs_, H', ⟨ole_⟩, by repeat (first | exact Drawn0.refl _ | apply Drawn0.step)⟩
 case rest =>
  clear HC5
  try clear c1
  try clear p2
  try clear c6
  try clear c6b0
  try clear c6b1
  try clear c7
  try clear c7b0
  try clear c7b1
  try clear c7b2
  try clear c8
  try clear c8b0
  try clear c9
  try clear c9b0
  try clear c10
  try clear c10b0
  obtain ⟨kq, x32_4, rfl, HA, HJ4, ⟨mc4, rfl⟩⟩ := hcut
  cases kq with
  | zero => exact absurd HA.out (by simp [parterreref16_Along.j0])
  | succ kj4 =>
   have H := HA.out
   clear HA
   simp only [parterreref16_Along.j0] at H
   by_cases c11 : x32_4 = true
   ·subst c11
    rw [if_pos rfl] at H
    obtain rfl := Option.some.inj H
    go_wp2
    go_ret
    exact ⟨by first | rfl | (simp; done) | (simp [*]; done), by repeat (first | exact Drawn0.refl _ | apply Drawn0.step)⟩
   ·replace c11 := Bool.eq_false_iff.mpr c11
    subst c11
    rw [if_neg (show ¬ (false = true) by decide)] at H
    have H' := Aside0.mk H
    clear H
    go_wp2
    go_loopg [3, 9] kj4 (fun kq v3 v9 w' => ∃ (x3_2 : Int) (x9_2 : Int), v3 = .int .i64 x3_2 ∧ v9 = .int .i64 x9_2 ∧ Aside0 (parterreref16_Along.l0 kq l0 a1 x3_2 x9_2 = some r) ∧ Aside0 (kq ≤ kj4) ∧ Drawn0 w w')
    case atStart => exact ⟨(a3), (a2), rfs_, rfs_, H', ⟨Nat.le_refl _⟩, by repeat (first | exact Drawn0.refl _ | apply Drawn0.step)⟩
    case round =>
     clear H'
     try clear c1
     try clear p2
     try clear c4
     try clear c6
     try clear c6b0
     try clear c6b1
     try clear c7
     try clear c7b0
     try clear c7b1
     try clear c7b2
     try clear c8
     try clear c8b0
     try clear c9
     try clear c9b0
     try clear c10
     try clear c10b0
     try clear c11
     try clear p2
     obtain ⟨x3_2, x9_2, rfl, rfl, HA, HK2, ⟨m2, rfl⟩⟩ := hrel
     cases gk with
     | zero => exact absurd HA.out (by simp [parterreref16_Along.l0])
     | succ k2 =>
      have H := HA.out
      clear HA
      simp only [parterreref16_Along.l0] at H
      by_cases c12 : x3_2 > 0
      ·rw [if_pos c12] at H
       have c12b0 : decide (0 < x3_2) = true := decide_eq_true c12
       clear c12
       by_cases c13 : (wrap64 (x9_2 + 1)) ≥ (l0.length : Int)
       ·rw [if_pos c13] at H
        have c13b0 : decide ((l0.length : Int) ≤ (wrap64 (x9_2 + 1))) = true := decide_eq_true c13
        clear c13
        have H' := Aside0.mk H
        clear H
        go_wp2
        go_roundg k2
        case measure => have := HJ4.out; have := HK2.out; omega
        case rel => exact ⟨(wrap64 (x3_2 - 1)), (wrap64 (x9_2 + 1)), rfs_, rfs_, H', ⟨by have := HJ4.out; have := HK2.out; omega⟩, by repeat (first | exact Drawn0.refl _ | apply Drawn0.step)⟩
       ·rw [if_neg c13] at H
        have c13b0 : decide ((l0.length : Int) ≤ (wrap64 (x9_2 + 1))) = false := decide_eq_false c13
        clear c13
        by_cases c14 : (wrap64 (x9_2 + 1)) ≥ 0
        ·rw [if_pos c14] at H
         have c14b0 : decide (0 ≤ (wrap64 (x9_2 + 1))) = true := decide_eq_true c14
         clear c14
         obtain ⟨ji15, hji15⟩ : ∃ j_ : Int, (wrap64 (x9_2 + 1)) = j_ := ⟨_, rfl⟩
         replace H : (if 0 ≤ (ji15) then (if (ji15) < (l0.length : Int) then ((parterreref16_has.f k2 (rd_L1 l0 (ji15)) a1).bind fun t279 => (if t279 = true then (parterreref16_Along.l0 k2 l0 a1 (wrap64 (x3_2 - 1)) ji15) else (parterreref16_Along.l0 k2 l0 a1 x3_2 ji15))) else (none)) else (none)) = some r := by first | (rw [hji15] at H; exact H) | (simp only [hji15] at H ⊢; exact H)
         (try rw [hji15] at c13b0)
         (try rw [hji15] at c14b0)
         have hji15w : (IntKind.i64.wrap (x9_2 + 1)) = ji15 := (i64_w _).trans hji15
         by_cases c16 : 0 ≤ (ji15)
         ·rw [if_pos c16] at H
          have c16b0 : decide (0 ≤ (ji15)) = true := decide_eq_true c16
          clear c16
          by_cases c17 : (ji15) < (l0.length : Int)
          ·rw [if_pos c17] at H
           have c17b0 : decide ((ji15) < (l0.length : Int)) = true := decide_eq_true c17
           clear c17
           replace H := Option.bind_eq_some_iff.mp H
           obtain ⟨t279, A180, H⟩ := H
           try dsimp only at H
           have A18 := Aside0.mk A180
           clear A180
           by_cases c19 : t279 = true
           ·subst c19
            rw [if_pos rfl] at H
            have H' := Aside0.mk H
            clear H
            have p278 : 0 ≤ ((ji15) : Int) := of_decide_eq_true (by first | (with_reducible assumption) | assumption)
            have q278 : (ji15) < (l0.length : Int) := of_decide_eq_true (by first | (with_reducible assumption) | assumption)
            obtain ⟨ad278, A278_0, c278_0, e278, hx278_0, hl278_0, hi278_0⟩ := at_L1 HR0.out (ji15) p278 q278
            cases e278
            have HR278_0 := Aside0.mk hi278_0
            have HC278_0 := Aside0.mk hl278_0
            clear hi278_0 hl278_0
            replace p278 := eq_true p278
            replace q278 := eq_true q278
            go_wp2_with (first | (go_at_call 66; (with_reducible refine (parterreref16_has.calls k2 _ _ (rd_L1 l0 (ji15)) a1 true _ ?side1 ?side2 A18.out).mono ?_); (case side1 => repeat (first | exact HR278_0.out | (with_reducible refine Kd.C_alloc ?_ _) | (with_reducible refine Kd.C_drewN ?_ _) | (with_reducible refine Kd.C_drew ?_))); (case side2 => exact HC278_0.out); rintro e w' ⟨rfl, ⟨nd, rfl⟩⟩))
            go_roundg k2
            case measure => have := HJ4.out; have := HK2.out; omega
            case rel => exact ⟨(wrap64 (x3_2 - 1)), (ji15), rfs_, (by first | rfl | (simp; done) | (simp only [← hji15] <;> (first | rfl | simp)) | (simp [*]; done)), H', ⟨by have := HJ4.out; have := HK2.out; omega⟩, by repeat (first | exact Drawn0.refl _ | apply Drawn0.step)⟩
           ·replace c19 := Bool.eq_false_iff.mpr c19
            subst c19
            rw [if_neg (show ¬ (false = true) by decide)] at H
            have H' := Aside0.mk H
            clear H
            have p278 : 0 ≤ ((ji15) : Int) := of_decide_eq_true (by first | (with_reducible assumption) | assumption)
            have q278 : (ji15) < (l0.length : Int) := of_decide_eq_true (by first | (with_reducible assumption) | assumption)
            obtain ⟨ad278, A278_0, c278_0, e278, hx278_0, hl278_0, hi278_0⟩ := at_L1 HR0.out (ji15) p278 q278
            cases e278
            have HR278_0 := Aside0.mk hi278_0
            have HC278_0 := Aside0.mk hl278_0
            clear hi278_0 hl278_0
            replace p278 := eq_true p278
            replace q278 := eq_true q278
            go_wp2_with (first | (go_at_call 66; (with_reducible refine (parterreref16_has.calls k2 _ _ (rd_L1 l0 (ji15)) a1 false _ ?side1 ?side2 A18.out).mono ?_); (case side1 => repeat (first | exact HR278_0.out | (with_reducible refine Kd.C_alloc ?_ _) | (with_reducible refine Kd.C_drewN ?_ _) | (with_reducible refine Kd.C_drew ?_))); (case side2 => exact HC278_0.out); rintro e w' ⟨rfl, ⟨nd, rfl⟩⟩))
            go_roundg k2
            case measure => have := HJ4.out; have := HK2.out; omega
            case rel => exact ⟨(x3_2), (ji15), rfs_, (by first | rfl | (simp; done) | (simp only [← hji15] <;> (first | rfl | simp)) | (simp [*]; done)), H', ⟨by have := HJ4.out; have := HK2.out; omega⟩, by repeat (first | exact Drawn0.refl _ | apply Drawn0.step)⟩
          ·rw [if_neg c17] at H
           exact absurd H (by simp)
         ·rw [if_neg c16] at H
          exact absurd H (by simp)
        ·rw [if_neg c14] at H
         have c14b0 : decide (0 ≤ (wrap64 (x9_2 + 1))) = false := decide_eq_false c14
         clear c14
         have H' := Aside0.mk H
         clear H
         go_wp2
         go_roundg k2
         case measure => have := HJ4.out; have := HK2.out; omega
         case rel => exact ⟨(x3_2), (wrap64 (x9_2 + 1)), rfs_, rfs_, H', ⟨by have := HJ4.out; have := HK2.out; omega⟩, by repeat (first | exact Drawn0.refl _ | apply Drawn0.step)⟩
      ·rw [if_neg c12] at H
       have c12b0 : decide (0 < x3_2) = false := decide_eq_false c12
       clear c12
       have H' := Aside0.mk H
       clear H
       go_wp2
       go_loopg [3, 9] k2 (fun kq v3 v9 w' => ∃ (x3_3 : Int) (x9_3 : Int), v3 = .int .i64 x3_3 ∧ v9 = .int .i64 x9_3 ∧ Aside0 (parterreref16_Along.l1 kq l0 a1 x3_3 x9_3 = some r) ∧ Aside0 (kq ≤ k2) ∧ Drawn0 w w')
       case atStart => exact ⟨(x3_2), (x9_2), rfs_, rfs_, H', ⟨Nat.le_refl _⟩, by repeat (first | exact Drawn0.refl _ | apply Drawn0.step)⟩
       case round =>
        clear H'
        try clear c1
        try clear c2
        try clear p2
        try clear q2
        try clear hx2
        try clear c4
        try clear c6
        try clear c6b0
        try clear c6b1
        try clear p6
        try clear c7
        try clear c7b0
        try clear c7b1
        try clear c7b2
        try clear c8
        try clear c8b0
        try clear c9
        try clear c9b0
        try clear c10
        try clear c10b0
        try clear c11
        try clear c12
        try clear c12b0
        try clear c13
        try clear c13b0
        try clear c14
        try clear c14b0
        try clear c16
        try clear c16b0
        try clear c17
        try clear c17b0
        try clear c19
        try clear hx278_0
        try clear p2
        try clear p278
        try clear q278
        obtain ⟨x3_3, x9_3, rfl, rfl, HA, HK3, ⟨m3, rfl⟩⟩ := hrel
        cases gk with
        | zero => exact absurd HA.out (by simp [parterreref16_Along.l1])
        | succ k3 =>
         have H := HA.out
         clear HA
         simp only [parterreref16_Along.l1] at H
         by_cases c20 : x3_3 < 0
         ·rw [if_pos c20] at H
          have c20b0 : decide (x3_3 < 0) = true := decide_eq_true c20
          clear c20
          by_cases c21 : (wrap64 (x9_3 - 1)) < 0
          ·rw [if_pos c21] at H
           have c21b0 : decide ((wrap64 (x9_3 - 1)) < 0) = true := decide_eq_true c21
           clear c21
           have H' := Aside0.mk H
           clear H
           go_wp2
           go_roundg k3
           case measure => have := HJ4.out; have := HK2.out; have := HK3.out; omega
           case rel => exact ⟨(wrap64 (x3_3 + 1)), (wrap64 (x9_3 - 1)), rfs_, rfs_, H', ⟨by have := HJ4.out; have := HK2.out; have := HK3.out; omega⟩, by repeat (first | exact Drawn0.refl _ | apply Drawn0.step)⟩
          ·rw [if_neg c21] at H
           have c21b0 : decide ((wrap64 (x9_3 - 1)) < 0) = false := decide_eq_false c21
           clear c21
           by_cases c22 : (wrap64 (x9_3 - 1)) < (l0.length : Int)
           ·rw [if_pos c22] at H
            have c22b0 : decide ((wrap64 (x9_3 - 1)) < (l0.length : Int)) = true := decide_eq_true c22
            clear c22
            obtain ⟨ji23, hji23⟩ : ∃ j_ : Int, (wrap64 (x9_3 - 1)) = j_ := ⟨_, rfl⟩
            replace H : (if 0 ≤ (ji23) then ((parterreref16_has.f k3 (rd_L1 l0 (ji23)) a1).bind fun t281 => (if t281 = true then (parterreref16_Along.l1 k3 l0 a1 (wrap64 (x3_3 + 1)) ji23) else (parterreref16_Along.l1 k3 l0 a1 x3_3 ji23))) else (none)) = some r := by first | (rw [hji23] at H; exact H) | (simp only [hji23] at H ⊢; exact H)
            (try rw [hji23] at c21b0)
            (try rw [hji23] at c22b0)
            have hji23w : (IntKind.i64.wrap (x9_3 - 1)) = ji23 := (i64_w _).trans hji23
            by_cases c24 : 0 ≤ (ji23)
            ·rw [if_pos c24] at H
             have c24b0 : decide (0 ≤ (ji23)) = true := decide_eq_true c24
             clear c24
             replace H := Option.bind_eq_some_iff.mp H
             obtain ⟨t281, A250, H⟩ := H
             try dsimp only at H
             have A25 := Aside0.mk A250
             clear A250
             by_cases c26 : t281 = true
             ·subst c26
              rw [if_pos rfl] at H
              have H' := Aside0.mk H
              clear H
              have p280 : 0 ≤ ((ji23) : Int) := of_decide_eq_true (by first | (with_reducible assumption) | assumption)
              have q280 : (ji23) < (l0.length : Int) := of_decide_eq_true (by first | (with_reducible assumption) | assumption)
              obtain ⟨ad280, A280_0, c280_0, e280, hx280_0, hl280_0, hi280_0⟩ := at_L1 HR0.out (ji23) p280 q280
              cases e280
              have HR280_0 := Aside0.mk hi280_0
              have HC280_0 := Aside0.mk hl280_0
              clear hi280_0 hl280_0
              replace p280 := eq_true p280
              replace q280 := eq_true q280
              go_wp2_with (first | (go_at_call 66; (with_reducible refine (parterreref16_has.calls k3 _ _ (rd_L1 l0 (ji23)) a1 true _ ?side1 ?side2 A25.out).mono ?_); (case side1 => repeat (first | exact HR280_0.out | (with_reducible refine Kd.C_alloc ?_ _) | (with_reducible refine Kd.C_drewN ?_ _) | (with_reducible refine Kd.C_drew ?_))); (case side2 => exact HC280_0.out); rintro e w' ⟨rfl, ⟨nd, rfl⟩⟩))
              go_roundg k3
              case measure => have := HJ4.out; have := HK2.out; have := HK3.out; omega
              case rel => exact ⟨(wrap64 (x3_3 + 1)), (ji23), rfs_, (by first | rfl | (simp; done) | (simp only [← hji23] <;> (first | rfl | simp)) | (simp [*]; done)), H', ⟨by have := HJ4.out; have := HK2.out; have := HK3.out; omega⟩, by repeat (first | exact Drawn0.refl _ | apply Drawn0.step)⟩
             ·replace c26 := Bool.eq_false_iff.mpr c26
              subst c26
              rw [if_neg (show ¬ (false = true) by decide)] at H
              have H' := Aside0.mk H
              clear H
              have p280 : 0 ≤ ((ji23) : Int) := of_decide_eq_true (by first | (with_reducible assumption) | assumption)
              have q280 : (ji23) < (l0.length : Int) := of_decide_eq_true (by first | (with_reducible assumption) | assumption)
              obtain ⟨ad280, A280_0, c280_0, e280, hx280_0, hl280_0, hi280_0⟩ := at_L1 HR0.out (ji23) p280 q280
              cases e280
              have HR280_0 := Aside0.mk hi280_0
              have HC280_0 := Aside0.mk hl280_0
              clear hi280_0 hl280_0
              replace p280 := eq_true p280
              replace q280 := eq_true q280
              go_wp2_with (first | (go_at_call 66; (with_reducible refine (parterreref16_has.calls k3 _ _ (rd_L1 l0 (ji23)) a1 false _ ?side1 ?side2 A25.out).mono ?_); (case side1 => repeat (first | exact HR280_0.out | (with_reducible refine Kd.C_alloc ?_ _) | (with_reducible refine Kd.C_drewN ?_ _) | (with_reducible refine Kd.C_drew ?_))); (case side2 => exact HC280_0.out); rintro e w' ⟨rfl, ⟨nd, rfl⟩⟩))
              go_roundg k3
              case measure => have := HJ4.out; have := HK2.out; have := HK3.out; omega
              case rel => exact ⟨(x3_3), (ji23), rfs_, (by first | rfl | (simp; done) | (simp only [← hji23] <;> (first | rfl | simp)) | (simp [*]; done)), H', ⟨by have := HJ4.out; have := HK2.out; have := HK3.out; omega⟩, by repeat (first | exact Drawn0.refl _ | apply Drawn0.step)⟩
            ·rw [if_neg c24] at H
             exact absurd H (by simp)
           ·rw [if_neg c22] at H
            have c22b0 : decide ((wrap64 (x9_3 - 1)) < (l0.length : Int)) = false := decide_eq_false c22
            clear c22
            have H' := Aside0.mk H
            clear H
            go_wp2
            go_roundg k3
            case measure => have := HJ4.out; have := HK2.out; have := HK3.out; omega
            case rel => exact ⟨(x3_3), (wrap64 (x9_3 - 1)), rfs_, rfs_, H', ⟨by have := HJ4.out; have := HK2.out; have := HK3.out; omega⟩, by repeat (first | exact Drawn0.refl _ | apply Drawn0.step)⟩
         ·rw [if_neg c20] at H
          have c20b0 : decide (x3_3 < 0) = false := decide_eq_false c20
          clear c20
          obtain rfl := Option.some.inj H
          go_wp2
          go_ret
          exact ⟨by first | rfl | (simp; done) | (simp [*]; done), by repeat (first | exact Drawn0.refl _ | apply Drawn0.step)⟩

end Go.Proofs.Ytdjfdhnmbimkoaa.PRs
