-- Written by a program of this session (wip/p2) out of the translation; Lean checks it.
import Derived.Test.YtfccpnpocfjbcaaDoorPNux0
import Derived.Test.YtfccpnpocfjbcaaDoorPNux9
namespace Go.Proofs.YtfccpnpocfjbcaaDoor.PNu
open Go.RowKit Go.Proofs.YtfccpnpocfjbcaaDoorW.PrintWords Go.Proofs.YtfccpnpocfjbcaaDoorW.PrintLast Go.Proofs.YtfccpnpocfjbcaaDoorW.PrintMore
attribute [local go_sem] max2_int min2_int max_two min_two max_three min_three max_four min_four   -- for this text's walks alone
set_option linter.unusedVariables false
set_option linter.unusedSimpArgs false
open Go.Proofs.YtfccpnpocfjbcaaDoor.Opn Go.Proofs.YtfccpnpocfjbcaaDoor.Giv

/-! ### parterreref02_Parts: function 25 -/
mutual
def parterreref02_Parts.j0 : Nat → ByteArray → Int → Int → Int → Int → Bool → Option (Int × Int × Int × Int × Int)
  | 0, _, _, _, _, _, _ => none
  | k + 1, x0, x7, x8, x9, x10, x30 => if x30 = true then ((parterreref02_digits.f k x0 (wrap64 (x9 + 1))).bind fun t142 => (if t142 > 0 then (parterreref02_Parts.j1 k x0 x7 x8 (wrap64 ((wrap64 (x9 + 1)) + t142)) t142) else (parterreref02_Parts.j1 k x0 x7 x8 x9 t142))) else (parterreref02_Parts.j1 k x0 x7 x8 x9 x10)
def parterreref02_Parts.j1 : Nat → ByteArray → Int → Int → Int → Int → Option (Int × Int × Int × Int × Int)
  | 0, _, _, _, _, _ => none
  | k + 1, x0, x7, x8, x9, x10 => if (wrap64 (x8 + x10)) = 0 then (some (0, 0, 0, 0, 0)) else (if x9 < (x0.size : Int) then (if 0 ≤ x9 then (if (bt x0 x9) = 101 then (parterreref02_Parts.j2 k x0 x7 x8 x9 x10 true) else (parterreref02_Parts.j2 k x0 x7 x8 x9 x10 ((bt x0 x9) == 69))) else (none)) else (parterreref02_Parts.j2 k x0 x7 x8 x9 x10 false))
def parterreref02_Parts.j2 : Nat → ByteArray → Int → Int → Int → Int → Bool → Option (Int × Int × Int × Int × Int)
  | 0, _, _, _, _, _, _ => none
  | k + 1, x0, x7, x8, x9, x10, x60 => if x60 = true then ((parterreref02_sign.f x0 (wrap64 (x9 + 1))).bind fun t143 => ((parterreref02_digits.f k x0 (wrap64 ((wrap64 (x9 + 1)) + t143))).bind fun t144 => (if t144 > 0 then (some (x7, x8, x10, wrap64 (x9 + 1), wrap64 ((wrap64 ((wrap64 (x9 + 1)) + t143)) + t144))) else (some (x7, x8, x10, 0, x9))))) else (some (x7, x8, x10, 0, x9))
end
def parterreref02_Parts.f (k : Nat) (a0 : ByteArray) : Option (Int × Int × Int × Int × Int) := (parterreref02_sign.f a0 0).bind fun t140 => ((parterreref02_digits.f k a0 t140).bind fun t141 => (if (wrap64 (t140 + t141)) < (a0.size : Int) then (if 0 ≤ (wrap64 (t140 + t141)) then (parterreref02_Parts.j0 k a0 t140 t141 (wrap64 (t140 + t141)) 0 ((bt a0 (wrap64 (t140 + t141))) == 46)) else (none)) else (parterreref02_Parts.j0 k a0 t140 t141 (wrap64 (t140 + t141)) 0 false)))
theorem parterreref02_Parts.mono_l : ∀ k, (∀ y0 y1 y2 y3 y4 y5, LeO (parterreref02_Parts.j0 k y0 y1 y2 y3 y4 y5) (parterreref02_Parts.j0 (k + 1) y0 y1 y2 y3 y4 y5)) ∧ (∀ y0 y1 y2 y3 y4, LeO (parterreref02_Parts.j1 k y0 y1 y2 y3 y4) (parterreref02_Parts.j1 (k + 1) y0 y1 y2 y3 y4)) ∧ (∀ y0 y1 y2 y3 y4 y5, LeO (parterreref02_Parts.j2 k y0 y1 y2 y3 y4 y5) (parterreref02_Parts.j2 (k + 1) y0 y1 y2 y3 y4 y5))
  | 0 => ⟨fun _ _ _ _ _ _ r h => by simp [parterreref02_Parts.j0] at h, fun _ _ _ _ _ r h => by simp [parterreref02_Parts.j1] at h, fun _ _ _ _ _ _ r h => by simp [parterreref02_Parts.j2] at h⟩
  | k + 1 => by
    obtain ⟨ih0, ih1, ih2⟩ := parterreref02_Parts.mono_l k
    refine ⟨?_, ?_, ?_⟩
    · intro y0 y1 y2 y3 y4 y5
      unfold parterreref02_Parts.j0
      repeat' first
      | (with_reducible exact ih0 _ _ _ _ _ _)
      | (with_reducible exact ih1 _ _ _ _ _)
      | (with_reducible exact ih2 _ _ _ _ _ _)
      | (with_reducible exact parterreref02_digits.mono _ _ _)
      | (with_reducible exact LeO.refl _)
      | (with_reducible exact LeO.none _)
      | (with_reducible refine LeO.ite ?_ ?_)
      | (with_reducible refine LeO.bind ?_ (fun _ => ?_))
      | exact ih0 _ _ _ _ _ _
      | exact ih1 _ _ _ _ _
      | exact ih2 _ _ _ _ _ _
      | exact parterreref02_digits.mono _ _ _
      | exact LeO.none _
      | refine LeO.ite ?_ ?_
      | refine LeO.bind ?_ (fun _ => ?_)
    · intro y0 y1 y2 y3 y4
      unfold parterreref02_Parts.j1
      repeat' first
      | (with_reducible exact ih0 _ _ _ _ _ _)
      | (with_reducible exact ih1 _ _ _ _ _)
      | (with_reducible exact ih2 _ _ _ _ _ _)
      | (with_reducible exact parterreref02_digits.mono _ _ _)
      | (with_reducible exact LeO.refl _)
      | (with_reducible exact LeO.none _)
      | (with_reducible refine LeO.ite ?_ ?_)
      | (with_reducible refine LeO.bind ?_ (fun _ => ?_))
      | exact ih0 _ _ _ _ _ _
      | exact ih1 _ _ _ _ _
      | exact ih2 _ _ _ _ _ _
      | exact parterreref02_digits.mono _ _ _
      | exact LeO.none _
      | refine LeO.ite ?_ ?_
      | refine LeO.bind ?_ (fun _ => ?_)
    · intro y0 y1 y2 y3 y4 y5
      unfold parterreref02_Parts.j2
      repeat' first
      | (with_reducible exact ih0 _ _ _ _ _ _)
      | (with_reducible exact ih1 _ _ _ _ _)
      | (with_reducible exact ih2 _ _ _ _ _ _)
      | (with_reducible exact parterreref02_digits.mono _ _ _)
      | (with_reducible exact LeO.refl _)
      | (with_reducible exact LeO.none _)
      | (with_reducible refine LeO.ite ?_ ?_)
      | (with_reducible refine LeO.bind ?_ (fun _ => ?_))
      | exact ih0 _ _ _ _ _ _
      | exact ih1 _ _ _ _ _
      | exact ih2 _ _ _ _ _ _
      | exact parterreref02_digits.mono _ _ _
      | exact LeO.none _
      | refine LeO.ite ?_ ?_
      | refine LeO.bind ?_ (fun _ => ?_)
theorem parterreref02_Parts.mono : ∀ a0 k, LeO (parterreref02_Parts.f k a0) (parterreref02_Parts.f (k + 1) a0) := by
  intro a0 k
  obtain ⟨ih0, ih1, ih2⟩ := parterreref02_Parts.mono_l k
  unfold parterreref02_Parts.f
  repeat' first
      | (with_reducible exact ih0 _ _ _ _ _ _)
      | (with_reducible exact ih1 _ _ _ _ _)
      | (with_reducible exact ih2 _ _ _ _ _ _)
      | (with_reducible exact parterreref02_digits.mono _ _ _)
      | (with_reducible exact LeO.refl _)
      | (with_reducible exact LeO.none _)
      | (with_reducible refine LeO.ite ?_ ?_)
      | (with_reducible refine LeO.bind ?_ (fun _ => ?_))
      | exact ih0 _ _ _ _ _ _
      | exact ih1 _ _ _ _ _
      | exact ih2 _ _ _ _ _ _
      | exact parterreref02_digits.mono _ _ _
      | exact LeO.none _
      | refine LeO.ite ?_ ?_
      | refine LeO.bind ?_ (fun _ => ?_)
set_option maxHeartbeats 8000000 in
set_option maxRecDepth 100000 in
theorem parterreref02_Parts.calls (k : Nat) (a0 : ByteArray) (r1 : Int) (r2 : Int) (r3 : Int) (r4 : Int) (r5 : Int) (w : World) (h : parterreref02_Parts.f k a0 = some (r1, r2, r3, r4, r5)) :
    Calls Tryd.prog 25 #[.string a0] w fun e w' => e = .returned (.tuple #[.int .i64 r1, .int .i64 r2, .int .i64 r3, .int .i64 r4, .int .i64 r5]) ∧ Drawn0 w w' := by
  have H : ((parterreref02_sign.f a0 0).bind fun t140 => ((parterreref02_digits.f k a0 t140).bind fun t141 => (if (wrap64 (t140 + t141)) < (a0.size : Int) then (if 0 ≤ (wrap64 (t140 + t141)) then (parterreref02_Parts.j0 k a0 t140 t141 (wrap64 (t140 + t141)) 0 ((bt a0 (wrap64 (t140 + t141))) == 46)) else (none)) else (parterreref02_Parts.j0 k a0 t140 t141 (wrap64 (t140 + t141)) 0 false)))) = some (r1, r2, r3, r4, r5) := h
  clear h
  replace H := Option.bind_eq_some_iff.mp H
  obtain ⟨t140, A20, H⟩ := H
  replace H : ((parterreref02_digits.f k a0 t140).bind fun t141 => (if (wrap64 (t140 + t141)) < (a0.size : Int) then (if 0 ≤ (wrap64 (t140 + t141)) then (parterreref02_Parts.j0 k a0 t140 t141 (wrap64 (t140 + t141)) 0 ((bt a0 (wrap64 (t140 + t141))) == 46)) else (none)) else (parterreref02_Parts.j0 k a0 t140 t141 (wrap64 (t140 + t141)) 0 false))) = some (r1, r2, r3, r4, r5) := H
  have A2 := Aside0.mk A20
  clear A20
  replace H := Option.bind_eq_some_iff.mp H
  obtain ⟨t141, A30, H⟩ := H
  replace H : (if (wrap64 (t140 + t141)) < (a0.size : Int) then (if 0 ≤ (wrap64 (t140 + t141)) then (parterreref02_Parts.j0 k a0 t140 t141 (wrap64 (t140 + t141)) 0 ((bt a0 (wrap64 (t140 + t141))) == 46)) else (none)) else (parterreref02_Parts.j0 k a0 t140 t141 (wrap64 (t140 + t141)) 0 false)) = some (r1, r2, r3, r4, r5) := H
  have A3 := Aside0.mk A30
  clear A30
  have HC4 := Aside0.mk H
  clear H
  go_enter Tryd.func25, Tryd.ntmps25
  go_upto_region 5 with (first | ((with_reducible refine gate_callee (f := 44) rfl ?_); refine goesL_ (some 14) rfl rfl Tryd.func44 (by kernel_rfl) rfl #[.string a0, .int .i64 0] rfl (by (try simp only [List.map_toArray, List.map_cons, List.map_nil]); first | done | rfl | (simp only [List.length_drop, List.length_take]; rfl)) ?_; (with_reducible refine (parterreref02_sign.calls a0 0 t140 _ A2.out).mono ?_); rintro e w' ⟨rfl, ⟨nd, rfl⟩⟩; refine ⟨_, rfl, ?_⟩) | ((with_reducible refine gate_callee (f := 45) rfl ?_); refine goesL_ (some 17) rfl rfl Tryd.func45 (by kernel_rfl) rfl #[.string a0, .int .i64 t140] rfl (by (try simp only [List.map_toArray, List.map_cons, List.map_nil]); first | done | rfl | (simp only [List.length_drop, List.length_take]; rfl)) ?_; (with_reducible refine (parterreref02_digits.calls k a0 t140 t141 _ A3.out).mono ?_); rintro e w' ⟨rfl, ⟨nd, rfl⟩⟩; refine ⟨_, rfl, ?_⟩))
  (try simp only [Act.put, List.setIfInBounds_toArray, List.set_cons_zero, List.set_cons_succ])
  go_cut [30] (fun v30 wc => ∃ (kq : Nat) (x30_3 : Bool), v30 = .bool x30_3 ∧ Aside0 (parterreref02_Parts.j0 kq a0 t140 t141 (wrap64 (t140 + t141)) 0 x30_3 = some (r1, r2, r3, r4, r5)) ∧ Aside0 (kq ≤ k) ∧ Drawn0 w wc)
  case first =>
    have H := HC4.out
    clear HC4
    by_cases c5 : (wrap64 (t140 + t141)) < (a0.size : Int)
    · rw [if_pos c5] at H
      have c5b0 : decide ((wrap64 (t140 + t141)) < (a0.size : Int)) = true := decide_eq_true c5
      clear c5
      (first | rw [c5b0] | (simp only [i64_w, i32_w]; rw [c5b0]) | skip)
      obtain ⟨ji6, hji6⟩ : ∃ j_ : Int, (wrap64 (t140 + t141)) = j_ := ⟨_, rfl⟩
      replace H : (if 0 ≤ (ji6) then (parterreref02_Parts.j0 k a0 t140 t141 ji6 0 ((bt a0 (ji6)) == 46)) else (none)) = some (r1, r2, r3, r4, r5) := by first | (rw [hji6] at H; exact H) | (simp only [hji6] at H ⊢; exact H)
      (try rw [hji6] at c5b0)
      have hji6w : (IntKind.i64.wrap (t140 + t141)) = ji6 := (i64_w _).trans hji6
      by_cases c7 : 0 ≤ (ji6)
      · rw [if_pos c7] at H
        have c7b0 : decide (0 ≤ (ji6)) = true := decide_eq_true c7
        clear c7
        have H' := Aside0.mk H
        clear H
        have p8 : 0 ≤ ((ji6) : Int) := of_decide_eq_true (by first | (with_reducible assumption) | assumption)
        have q8 : (ji6) < (a0.size : Int) := of_decide_eq_true (by first | (with_reducible assumption) | assumption)
        have hx8 := bt_at a0 (ji6)
        replace p8 := eq_true p8
        replace q8 := eq_true q8
        go_wp2
        go_meet
        case rel => exact ⟨_, (((bt a0 (ji6)) == 46)), (by first | rfl | (simp; done) | (simp only [← hji6] <;> (first | rfl | simp)) | (simp [*]; done)), (by first | exact H' | (subst_vars; exact H')), ⟨by first | omega | exact Nat.le_refl _⟩, by repeat (first | exact Drawn0.refl _ | apply Drawn0.step)⟩
      · rw [if_neg c7] at H
        exact absurd H (by simp)
    · rw [if_neg c5] at H
      have c5b0 : decide ((wrap64 (t140 + t141)) < (a0.size : Int)) = false := decide_eq_false c5
      clear c5
      (first | rw [c5b0] | (simp only [i64_w, i32_w]; rw [c5b0]) | skip)
      have H' := Aside0.mk H
      clear H
      go_wp2
      go_meet
      case rel => exact ⟨_, (false), (by first | rfl | (simp; done) | (simp [*]; done)), (by first | exact H' | (subst_vars; exact H')), ⟨by first | omega | exact Nat.le_refl _⟩, by repeat (first | exact Drawn0.refl _ | apply Drawn0.step)⟩
  case rest =>
    clear HC4
    try clear c2
    try clear p2
    try clear c4
    try clear c5
    try clear c5b0
    try clear p6
    try clear c7
    try clear c7b0
    try clear p8
    try clear q8
    try clear hx8
    try clear p8
    try clear q8
    obtain ⟨kq, x30_3, rfl, HA, HJ3, ⟨mc3, rfl⟩⟩ := hcut
    cases kq with
    | zero => exact absurd HA.out (by simp [parterreref02_Parts.j0])
    | succ kj3 =>
      have H := HA.out
      clear HA
      simp only [parterreref02_Parts.j0] at H
      have HC9 := Aside0.mk H
      clear H
      go_upto_if 30 with (fail)
      go_cut [9, 10] (fun v9 v10 wc => ∃ (kq : Nat) (x9_8 : Int) (x10_8 : Int), v9 = .int .i64 x9_8 ∧ v10 = .int .i64 x10_8 ∧ Aside0 (parterreref02_Parts.j1 kq a0 t140 t141 x9_8 x10_8 = some (r1, r2, r3, r4, r5)) ∧ Aside0 (kq ≤ kj3) ∧ Drawn0 w wc)
      case first =>
        have H := HC9.out
        clear HC9
        by_cases c10 : x30_3 = true
        · subst c10
          have H1 : ((parterreref02_digits.f kj3 a0 (wrap64 ((wrap64 (t140 + t141)) + 1))).bind fun t142 => (if t142 > 0 then (parterreref02_Parts.j1 kj3 a0 t140 t141 (wrap64 ((wrap64 ((wrap64 (t140 + t141)) + 1)) + t142)) t142) else (parterreref02_Parts.j1 kj3 a0 t140 t141 (wrap64 (t140 + t141)) t142))) = some (r1, r2, r3, r4, r5) := by rw [if_pos rfl] at H; exact H
          clear H
          have H := H1
          clear H1
          replace H := Option.bind_eq_some_iff.mp H
          obtain ⟨t142, A110, H⟩ := H
          replace H : (if t142 > 0 then (parterreref02_Parts.j1 kj3 a0 t140 t141 (wrap64 ((wrap64 ((wrap64 (t140 + t141)) + 1)) + t142)) t142) else (parterreref02_Parts.j1 kj3 a0 t140 t141 (wrap64 (t140 + t141)) t142)) = some (r1, r2, r3, r4, r5) := H
          have A11 := Aside0.mk A110
          clear A110
          by_cases c12 : t142 > 0
          · rw [if_pos c12] at H
            have c12b0 : decide (0 < t142) = true := decide_eq_true c12
            clear c12
            (first | rw [c12b0] | (simp only [i64_w, i32_w]; rw [c12b0]) | skip)
            have H' := Aside0.mk H
            clear H
            go_wp2_with (first | ((with_reducible refine gate_callee (f := 45) rfl ?_); refine goesL_ (some 34) rfl rfl Tryd.func45 (by kernel_rfl) rfl #[.string a0, .int .i64 (wrap64 ((wrap64 (t140 + t141)) + 1))] rfl (by (try simp only [List.map_toArray, List.map_cons, List.map_nil]); first | done | rfl | (simp only [List.length_drop, List.length_take]; rfl)) ?_; (with_reducible refine (parterreref02_digits.calls kj3 a0 (wrap64 ((wrap64 (t140 + t141)) + 1)) t142 _ A11.out).mono ?_); rintro e w' ⟨rfl, ⟨nd, rfl⟩⟩; refine ⟨_, rfl, ?_⟩))
            go_meet
            case rel => exact ⟨_, (wrap64 ((wrap64 ((wrap64 (t140 + t141)) + 1)) + t142)), (t142), (by first | rfl | (simp; done) | (simp [*]; done)), (by first | rfl | (simp; done) | (simp [*]; done)), H', ⟨by have := HJ3.out; first | omega | exact Nat.le_refl _⟩, by repeat (first | exact Drawn0.refl _ | apply Drawn0.step)⟩
          · rw [if_neg c12] at H
            have c12b0 : decide (0 < t142) = false := decide_eq_false c12
            clear c12
            (first | rw [c12b0] | (simp only [i64_w, i32_w]; rw [c12b0]) | skip)
            have H' := Aside0.mk H
            clear H
            go_wp2_with (first | ((with_reducible refine gate_callee (f := 45) rfl ?_); refine goesL_ (some 34) rfl rfl Tryd.func45 (by kernel_rfl) rfl #[.string a0, .int .i64 (wrap64 ((wrap64 (t140 + t141)) + 1))] rfl (by (try simp only [List.map_toArray, List.map_cons, List.map_nil]); first | done | rfl | (simp only [List.length_drop, List.length_take]; rfl)) ?_; (with_reducible refine (parterreref02_digits.calls kj3 a0 (wrap64 ((wrap64 (t140 + t141)) + 1)) t142 _ A11.out).mono ?_); rintro e w' ⟨rfl, ⟨nd, rfl⟩⟩; refine ⟨_, rfl, ?_⟩))
            go_meet
            case rel => exact ⟨_, ((wrap64 (t140 + t141))), (t142), (by first | rfl | (simp; done) | (simp [*]; done)), (by first | rfl | (simp; done) | (simp [*]; done)), H', ⟨by have := HJ3.out; first | omega | exact Nat.le_refl _⟩, by repeat (first | exact Drawn0.refl _ | apply Drawn0.step)⟩
        · replace c10 := Bool.eq_false_iff.mpr c10
          subst c10
          have H1 : (parterreref02_Parts.j1 kj3 a0 t140 t141 (wrap64 (t140 + t141)) 0) = some (r1, r2, r3, r4, r5) := by rw [if_neg (show ¬ (false = true) by decide)] at H; exact H
          clear H
          have H := H1
          clear H1
          have H' := Aside0.mk H
          clear H
          go_wp2
          go_meet
          case rel => exact ⟨_, ((wrap64 (t140 + t141))), (0), (by first | rfl | (simp; done) | (simp [*]; done)), (by first | rfl | (simp; done) | (simp [*]; done)), H', ⟨by have := HJ3.out; first | omega | exact Nat.le_refl _⟩, by repeat (first | exact Drawn0.refl _ | apply Drawn0.step)⟩
      case rest =>
        clear HC9
        try clear c1
        try clear c2
        try clear p2
        try clear c3
        try clear c4
        try clear c5
        try clear c5b0
        try clear p6
        try clear c7
        try clear c7b0
        try clear p8
        try clear q8
        try clear hx8
        try clear c10
        try clear c12
        try clear c12b0
        try clear p2
        try clear p6
        try clear p8
        try clear q8
        obtain ⟨kq, x9_8, x10_8, rfl, rfl, HA, HJ8, ⟨mc8, rfl⟩⟩ := hcut
        cases kq with
        | zero => exact absurd HA.out (by simp [parterreref02_Parts.j1])
        | succ kj8 =>
          have H := HA.out
          clear HA
          simp only [parterreref02_Parts.j1] at H
          by_cases c13 : (wrap64 (t141 + x10_8)) = 0
          · rw [if_pos c13] at H
            have c13b0 : ((wrap64 (t141 + x10_8)) == 0) = true := beq_iff_eq.mpr c13
            have c13b1 : ((wrap64 (t141 + x10_8)) != 0) = false := bne_eq_false_iff_eq.mpr c13
            clear c13
            simp only [Option.some.injEq, Prod.mk.injEq] at H
            obtain ⟨rfl, rfl, rfl, rfl, rfl⟩ := H
            go_wp2
            refine bodyPost_ret (results_list (rs := [.tmp 2, .tmp 3, .tmp 4, .tmp 5, .tmp 6]) rfl (by simp) (.tmp (.tmp (.tmp (.tmp (.tmp .nil)))))) rfl ?_
            exact ⟨by first | rfl | (simp; done) | (simp [*]; done), by repeat (first | exact Drawn0.refl _ | apply Drawn0.step)⟩
          · rw [if_neg c13] at H
            have c13b0 : ((wrap64 (t141 + x10_8)) == 0) = false := beq_eq_false_iff_ne.mpr c13
            have c13b1 : ((wrap64 (t141 + x10_8)) != 0) = true := bne_iff_ne.mpr c13
            have HC14 := Aside0.mk H
            clear H
            go_upto_region 11 with (fail)
            go_cut [60] (fun v60 wc => ∃ (kq : Nat) (x60_13 : Bool), v60 = .bool x60_13 ∧ Aside0 (parterreref02_Parts.j2 kq a0 t140 t141 x9_8 x10_8 x60_13 = some (r1, r2, r3, r4, r5)) ∧ Aside0 (kq ≤ kj8) ∧ Drawn0 w wc)
            case first =>
              have H := HC14.out
              clear HC14
              by_cases c15 : x9_8 < (a0.size : Int)
              · rw [if_pos c15] at H
                have c15b0 : decide (x9_8 < (a0.size : Int)) = true := decide_eq_true c15
                clear c15
                (first | rw [c15b0] | (simp only [i64_w, i32_w]; rw [c15b0]) | skip)
                by_cases c16 : 0 ≤ x9_8
                · rw [if_pos c16] at H
                  have c16b0 : decide (0 ≤ x9_8) = true := decide_eq_true c16
                  clear c16
                  by_cases c18 : (bt a0 x9_8) = 101
                  · rw [if_pos c18] at H
                    have c18b0 : ((bt a0 x9_8) == 101) = true := beq_iff_eq.mpr c18
                    have c18b1 : ((bt a0 x9_8) != 101) = false := bne_eq_false_iff_eq.mpr c18
                    clear c18
                    have H' := Aside0.mk H
                    clear H
                    have p17 : 0 ≤ (x9_8 : Int) := of_decide_eq_true (by first | (with_reducible assumption) | assumption)
                    have q17 : x9_8 < (a0.size : Int) := of_decide_eq_true (by first | (with_reducible assumption) | assumption)
                    have hx17 := bt_at a0 x9_8
                    replace p17 := eq_true p17
                    replace q17 := eq_true q17
                    go_wp2
                    go_meet
                    case rel => exact ⟨_, (true), (by first | rfl | (simp; done) | (simp [*]; done)), H', ⟨by have := HJ3.out; have := HJ8.out; first | omega | exact Nat.le_refl _⟩, by repeat (first | exact Drawn0.refl _ | apply Drawn0.step)⟩
                  · rw [if_neg c18] at H
                    have c18b0 : ((bt a0 x9_8) == 101) = false := beq_eq_false_iff_ne.mpr c18
                    have c18b1 : ((bt a0 x9_8) != 101) = true := bne_iff_ne.mpr c18
                    have H' := Aside0.mk H
                    clear H
                    have p17 : 0 ≤ (x9_8 : Int) := of_decide_eq_true (by first | (with_reducible assumption) | assumption)
                    have q17 : x9_8 < (a0.size : Int) := of_decide_eq_true (by first | (with_reducible assumption) | assumption)
                    have hx17 := bt_at a0 x9_8
                    replace p17 := eq_true p17
                    replace q17 := eq_true q17
                    have p19 : 0 ≤ (x9_8 : Int) := of_decide_eq_true (by first | (with_reducible assumption) | assumption)
                    have q19 : x9_8 < (a0.size : Int) := of_decide_eq_true (by first | (with_reducible assumption) | assumption)
                    have hx19 := bt_at a0 x9_8
                    replace p19 := eq_true p19
                    replace q19 := eq_true q19
                    go_wp2
                    go_meet
                    case rel => exact ⟨_, (((bt a0 x9_8) == 69)), (by first | rfl | (simp; done) | (simp [*]; done)), H', ⟨by have := HJ3.out; have := HJ8.out; first | omega | exact Nat.le_refl _⟩, by repeat (first | exact Drawn0.refl _ | apply Drawn0.step)⟩
                · rw [if_neg c16] at H
                  exact absurd H (by simp)
              · rw [if_neg c15] at H
                have c15b0 : decide (x9_8 < (a0.size : Int)) = false := decide_eq_false c15
                clear c15
                (first | rw [c15b0] | (simp only [i64_w, i32_w]; rw [c15b0]) | skip)
                have H' := Aside0.mk H
                clear H
                go_wp2
                go_meet
                case rel => exact ⟨_, (false), (by first | rfl | (simp; done) | (simp [*]; done)), H', ⟨by have := HJ3.out; have := HJ8.out; first | omega | exact Nat.le_refl _⟩, by repeat (first | exact Drawn0.refl _ | apply Drawn0.step)⟩
            case rest =>
              clear HC14
              try clear c1
              try clear p1
              try clear q1
              try clear hx1
              try clear c2
              try clear p2
              try clear c3
              try clear c4
              try clear c5
              try clear c5b0
              try clear p6
              try clear c7
              try clear c7b0
              try clear c8
              try clear p8
              try clear q8
              try clear hx8
              try clear c10
              try clear c12
              try clear c12b0
              try clear c13
              try clear c13b0
              try clear c13b1
              try clear c15
              try clear c15b0
              try clear c16
              try clear c16b0
              try clear p17
              try clear q17
              try clear hx17
              try clear c18
              try clear c18b0
              try clear c18b1
              try clear p19
              try clear q19
              try clear hx19
              try clear p17
              try clear p19
              try clear p2
              try clear p6
              try clear p8
              try clear q17
              try clear q19
              try clear q8
              obtain ⟨kq, x60_13, rfl, HA, HJ13, ⟨mc13, rfl⟩⟩ := hcut
              cases kq with
              | zero => exact absurd HA.out (by simp [parterreref02_Parts.j2])
              | succ kj13 =>
                have H := HA.out
                clear HA
                simp only [parterreref02_Parts.j2] at H
                by_cases c20 : x60_13 = true
                · subst c20
                  have H1 : ((parterreref02_sign.f a0 (wrap64 (x9_8 + 1))).bind fun t143 => ((parterreref02_digits.f kj13 a0 (wrap64 ((wrap64 (x9_8 + 1)) + t143))).bind fun t144 => (if t144 > 0 then (some (t140, t141, x10_8, wrap64 (x9_8 + 1), wrap64 ((wrap64 ((wrap64 (x9_8 + 1)) + t143)) + t144))) else (some (t140, t141, x10_8, 0, x9_8))))) = some (r1, r2, r3, r4, r5) := by rw [if_pos rfl] at H; exact H
                  clear H
                  have H := H1
                  clear H1
                  replace H := Option.bind_eq_some_iff.mp H
                  obtain ⟨t143, A210, H⟩ := H
                  replace H : ((parterreref02_digits.f kj13 a0 (wrap64 ((wrap64 (x9_8 + 1)) + t143))).bind fun t144 => (if t144 > 0 then (some (t140, t141, x10_8, wrap64 (x9_8 + 1), wrap64 ((wrap64 ((wrap64 (x9_8 + 1)) + t143)) + t144))) else (some (t140, t141, x10_8, 0, x9_8)))) = some (r1, r2, r3, r4, r5) := H
                  have A21 := Aside0.mk A210
                  clear A210
                  replace H := Option.bind_eq_some_iff.mp H
                  obtain ⟨t144, A220, H⟩ := H
                  replace H : (if t144 > 0 then (some (t140, t141, x10_8, wrap64 (x9_8 + 1), wrap64 ((wrap64 ((wrap64 (x9_8 + 1)) + t143)) + t144))) else (some (t140, t141, x10_8, 0, x9_8))) = some (r1, r2, r3, r4, r5) := H
                  have A22 := Aside0.mk A220
                  clear A220
                  by_cases c23 : t144 > 0
                  · rw [if_pos c23] at H
                    have c23b0 : decide (0 < t144) = true := decide_eq_true c23
                    clear c23
                    simp only [Option.some.injEq, Prod.mk.injEq] at H
                    obtain ⟨rfl, rfl, rfl, rfl, rfl⟩ := H
                    go_wp2_with (first | ((with_reducible refine gate_callee (f := 44) rfl ?_); refine goesL_ (some 64) rfl rfl Tryd.func44 (by kernel_rfl) rfl #[.string a0, .int .i64 (wrap64 (x9_8 + 1))] rfl (by (try simp only [List.map_toArray, List.map_cons, List.map_nil]); first | done | rfl | (simp only [List.length_drop, List.length_take]; rfl)) ?_; (with_reducible refine (parterreref02_sign.calls a0 (wrap64 (x9_8 + 1)) t143 _ A21.out).mono ?_); rintro e w' ⟨rfl, ⟨nd, rfl⟩⟩; refine ⟨_, rfl, ?_⟩) | ((with_reducible refine gate_callee (f := 45) rfl ?_); refine goesL_ (some 70) rfl rfl Tryd.func45 (by kernel_rfl) rfl #[.string a0, .int .i64 (wrap64 ((wrap64 (x9_8 + 1)) + t143))] rfl (by (try simp only [List.map_toArray, List.map_cons, List.map_nil]); first | done | rfl | (simp only [List.length_drop, List.length_take]; rfl)) ?_; (with_reducible refine (parterreref02_digits.calls kj13 a0 (wrap64 ((wrap64 (x9_8 + 1)) + t143)) t144 _ A22.out).mono ?_); rintro e w' ⟨rfl, ⟨nd, rfl⟩⟩; refine ⟨_, rfl, ?_⟩))
                    refine bodyPost_ret (results_list (rs := [.tmp 2, .tmp 3, .tmp 4, .tmp 5, .tmp 6]) rfl (by simp) (.tmp (.tmp (.tmp (.tmp (.tmp .nil)))))) rfl ?_
                    exact ⟨by first | rfl | (simp; done) | (simp [*]; done), by repeat (first | exact Drawn0.refl _ | apply Drawn0.step)⟩
                  · rw [if_neg c23] at H
                    have c23b0 : decide (0 < t144) = false := decide_eq_false c23
                    clear c23
                    simp only [Option.some.injEq, Prod.mk.injEq] at H
                    obtain ⟨rfl, rfl, rfl, rfl, rfl⟩ := H
                    go_wp2_with (first | ((with_reducible refine gate_callee (f := 44) rfl ?_); refine goesL_ (some 64) rfl rfl Tryd.func44 (by kernel_rfl) rfl #[.string a0, .int .i64 (wrap64 (x9_8 + 1))] rfl (by (try simp only [List.map_toArray, List.map_cons, List.map_nil]); first | done | rfl | (simp only [List.length_drop, List.length_take]; rfl)) ?_; (with_reducible refine (parterreref02_sign.calls a0 (wrap64 (x9_8 + 1)) t143 _ A21.out).mono ?_); rintro e w' ⟨rfl, ⟨nd, rfl⟩⟩; refine ⟨_, rfl, ?_⟩) | ((with_reducible refine gate_callee (f := 45) rfl ?_); refine goesL_ (some 70) rfl rfl Tryd.func45 (by kernel_rfl) rfl #[.string a0, .int .i64 (wrap64 ((wrap64 (x9_8 + 1)) + t143))] rfl (by (try simp only [List.map_toArray, List.map_cons, List.map_nil]); first | done | rfl | (simp only [List.length_drop, List.length_take]; rfl)) ?_; (with_reducible refine (parterreref02_digits.calls kj13 a0 (wrap64 ((wrap64 (x9_8 + 1)) + t143)) t144 _ A22.out).mono ?_); rintro e w' ⟨rfl, ⟨nd, rfl⟩⟩; refine ⟨_, rfl, ?_⟩))
                    refine bodyPost_ret (results_list (rs := [.tmp 2, .tmp 3, .tmp 4, .tmp 5, .tmp 6]) rfl (by simp) (.tmp (.tmp (.tmp (.tmp (.tmp .nil)))))) rfl ?_
                    exact ⟨by first | rfl | (simp; done) | (simp [*]; done), by repeat (first | exact Drawn0.refl _ | apply Drawn0.step)⟩
                · replace c20 := Bool.eq_false_iff.mpr c20
                  subst c20
                  have H1 : (some (t140, t141, x10_8, 0, x9_8)) = some (r1, r2, r3, r4, r5) := by rw [if_neg (show ¬ (false = true) by decide)] at H; exact H
                  clear H
                  have H := H1
                  clear H1
                  simp only [Option.some.injEq, Prod.mk.injEq] at H
                  obtain ⟨rfl, rfl, rfl, rfl, rfl⟩ := H
                  go_wp2
                  refine bodyPost_ret (results_list (rs := [.tmp 2, .tmp 3, .tmp 4, .tmp 5, .tmp 6]) rfl (by simp) (.tmp (.tmp (.tmp (.tmp (.tmp .nil)))))) rfl ?_
                  exact ⟨by first | rfl | (simp; done) | (simp [*]; done), by repeat (first | exact Drawn0.refl _ | apply Drawn0.step)⟩

end Go.Proofs.YtfccpnpocfjbcaaDoor.PNu
