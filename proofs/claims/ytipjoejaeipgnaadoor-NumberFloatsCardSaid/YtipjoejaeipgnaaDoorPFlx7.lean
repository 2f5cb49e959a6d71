-- Written by a program of this session (wip/p2) out of the translation; Lean checks it.
import Derived.Test.YtipjoejaeipgnaaDoorSq
import Derived.Test.YtipjoejaeipgnaaDoorPFlx0
import Derived.Test.YtipjoejaeipgnaaDoorPFlx1
import Derived.Test.YtipjoejaeipgnaaDoorPFlx6
namespace Go.Proofs.YtipjoejaeipgnaaDoor.PFl
open Go.RowKit Go.Proofs.YtipjoejaeipgnaaDoorW.PrintWords Go.Proofs.YtipjoejaeipgnaaDoorW.PrintLast Go.Proofs.YtipjoejaeipgnaaDoorW.PrintMore
attribute [local go_sem] max2_int min2_int max_two min_two max_three min_three max_four min_four   -- for this text's walks alone
set_option linter.unusedVariables false
set_option linter.unusedSimpArgs false
open Go.Proofs.YtipjoejaeipgnaaDoor.Opn Go.Proofs.YtipjoejaeipgnaaDoor.Giv

/-! ### number_Text: function 19 -/
mutual
def number_Text.j0 : Nat → Int → Int → Bool → Option (ByteArray)
 | 0, _, _, _ => none
 | k + 1, x0, x1, x14 => if x14 = true then (some (⟨#[]⟩ : ByteArray)) else (if x0 < 0 then (number_Text.j1 k (wrap64 (-x0)) x1 (⟨#[45]⟩ : ByteArray)) else (number_Text.j1 k x0 x1 (⟨#[]⟩ : ByteArray)))
def number_Text.j1 : Nat → Int → Int → ByteArray → Option (ByteArray)
 | 0, _, _, _ => none
 | k + 1, x0, x1, x5 => if x1 = 0 then (none) else ((strconv_Itoa.f (wrap64 (Int.tdiv x0 x1))).bind fun t126 => (if x5.size + t126.size ≤ 9223372036854775807 then (if (Int.tmod x0 x1) > 0 then (if (x5 ++ t126).size + 1 ≤ 9223372036854775807 then (number_Text.j2 k x1 ((x5 ++ t126) ++ (⟨#[46]⟩ : ByteArray)) (Int.tmod x0 x1)) else (none)) else (number_Text.j2 k x1 (x5 ++ t126) (Int.tmod x0 x1))) else (none)))
def number_Text.j2 : Nat → Int → ByteArray → Int → Option (ByteArray)
 | 0, _, _, _ => none
 | k + 1, x1, x5, x6 => number_Text.l0 k x1 x5 x6
def number_Text.l0 : Nat → Int → ByteArray → Int → Option (ByteArray)
 | 0, _, _, _ => none
 | k + 1, x1, x5, x6 => if x6 > 0 then (if x1 = 0 then (none) else ((strconv_Itoa.f (wrap64 (Int.tdiv (wrap64 (x6 * 10)) x1))).bind fun t127 => (if x5.size + t127.size ≤ 9223372036854775807 then (number_Text.l0 k x1 (x5 ++ t127) (Int.tmod (wrap64 (x6 * 10)) x1)) else (none)))) else (some x5)
end
def number_Text.f (k : Nat) (a0 : Int) (a1 : Int) : Option (ByteArray) := (fixed_Is.f a0).bind fun t124 => (if t124 = true then ((number_isScale.f a1).bind fun t125 => (number_Text.j0 k a0 a1 (!t125))) else (number_Text.j0 k a0 a1 true))
theorem number_Text.mono_l : ∀ k, (∀ y0 y1 y2, LeO (number_Text.j0 k y0 y1 y2) (number_Text.j0 (k + 1) y0 y1 y2)) ∧ (∀ y0 y1 y2, LeO (number_Text.j1 k y0 y1 y2) (number_Text.j1 (k + 1) y0 y1 y2)) ∧ (∀ y0 y1 y2, LeO (number_Text.j2 k y0 y1 y2) (number_Text.j2 (k + 1) y0 y1 y2)) ∧ (∀ y0 y1 y2, LeO (number_Text.l0 k y0 y1 y2) (number_Text.l0 (k + 1) y0 y1 y2))
 | 0 => ⟨fun _ _ _ r h => by simp [number_Text.j0] at h, fun _ _ _ r h => by simp [number_Text.j1] at h, fun _ _ _ r h => by simp [number_Text.j2] at h, fun _ _ _ r h => by simp [number_Text.l0] at h⟩
 | k + 1 => by
  obtain ⟨ih0, ih1, ih2, ih3⟩ := number_Text.mono_l k
  refine ⟨?_, ?_, ?_, ?_⟩
  ·intro y0 y1 y2
   unfold number_Text.j0
   repeat' first
   | (with_reducible exact ih0 _ _ _)
   | (with_reducible exact ih1 _ _ _)
   | (with_reducible exact ih2 _ _ _)
   | (with_reducible exact ih3 _ _ _)
   | (with_reducible exact LeO.refl _)
   | (with_reducible exact LeO.none _)
   | (with_reducible refine LeO.ite ?_ ?_)
   | (with_reducible refine LeO.bind ?_ (fun _ => ?_))
  ·intro y0 y1 y2
   unfold number_Text.j1
   repeat' first
   | (with_reducible exact ih0 _ _ _)
   | (with_reducible exact ih1 _ _ _)
   | (with_reducible exact ih2 _ _ _)
   | (with_reducible exact ih3 _ _ _)
   | (with_reducible exact LeO.refl _)
   | (with_reducible exact LeO.none _)
   | (with_reducible refine LeO.ite ?_ ?_)
   | (with_reducible refine LeO.bind ?_ (fun _ => ?_))
  ·intro y0 y1 y2
   unfold number_Text.j2
   repeat' first
   | (with_reducible exact ih0 _ _ _)
   | (with_reducible exact ih1 _ _ _)
   | (with_reducible exact ih2 _ _ _)
   | (with_reducible exact ih3 _ _ _)
   | (with_reducible exact LeO.refl _)
   | (with_reducible exact LeO.none _)
   | (with_reducible refine LeO.ite ?_ ?_)
   | (with_reducible refine LeO.bind ?_ (fun _ => ?_))
  ·intro y0 y1 y2
   unfold number_Text.l0
   repeat' first
   | (with_reducible exact ih0 _ _ _)
   | (with_reducible exact ih1 _ _ _)
   | (with_reducible exact ih2 _ _ _)
   | (with_reducible exact ih3 _ _ _)
   | (with_reducible exact LeO.refl _)
   | (with_reducible exact LeO.none _)
   | (with_reducible refine LeO.ite ?_ ?_)
   | (with_reducible refine LeO.bind ?_ (fun _ => ?_))
theorem number_Text.mono : ∀ a0 a1 k, LeO (number_Text.f k a0 a1) (number_Text.f (k + 1) a0 a1) := by
 intro a0 a1 k
 obtain ⟨ih0, ih1, ih2, ih3⟩ := number_Text.mono_l k
 unfold number_Text.f
 repeat' first
   | (with_reducible exact ih0 _ _ _)
   | (with_reducible exact ih1 _ _ _)
   | (with_reducible exact ih2 _ _ _)
   | (with_reducible exact ih3 _ _ _)
   | (with_reducible exact LeO.refl _)
   | (with_reducible exact LeO.none _)
   | (with_reducible refine LeO.ite ?_ ?_)
   | (with_reducible refine LeO.bind ?_ (fun _ => ?_))
set_option maxHeartbeats 8000000 in
set_option maxRecDepth 100000 in
theorem number_Text.calls (k : Nat) (a0 : Int) (a1 : Int) (r : ByteArray) (w : World) (h : number_Text.f k a0 a1 = some r) :
  Calls Tryd.prog 19 #[.int .i64 a0, .int .i64 a1] w fun e w' => e = .returned (.string r) ∧ Drawn0 w w' := by
 have H : ((fixed_Is.f a0).bind fun t124 => (if t124 = true then ((number_isScale.f a1).bind fun t125 => (number_Text.j0 k a0 a1 (!t125))) else (number_Text.j0 k a0 a1 true))) = some r := h
 clear h
 have HC3 := Aside0.mk H
 clear H
 go_enter Tryd.func19, Tryd.ntmps19
 go_upto_region 1 with (fail)
 go_cut [14] (fun v14 wc => ∃ (kq : Nat) (x14_2 : Bool), v14 = .bool x14_2 ∧ Aside0 (number_Text.j0 kq a0 a1 x14_2 = some r) ∧ Aside0 (kq ≤ k) ∧ Drawn0 w wc)
 case first =>
  have H := HC3.out
  clear HC3
  replace H := Option.bind_eq_some_iff.mp H
  obtain ⟨t124, A40, H⟩ := H
  try dsimp only at H
  have A4 := Aside0.mk A40
  clear A40
  by_cases c5 : t124 = true
  ·subst c5
   rw [if_pos rfl] at H
   replace H := Option.bind_eq_some_iff.mp H
   obtain ⟨t125, A60, H⟩ := H
   try dsimp only at H
   have A6 := Aside0.mk A60
   clear A60
   have H' := Aside0.mk H
   clear H
   go_wp2_with (first | ((with_reducible refine gate_callee (f := 12) rfl ?_); refine goesL_ (some 8) rfl rfl Tryd.func12 (by kernel_rfl) rfl #[.int .i64 a0] rfl goa_ ?_; (with_reducible refine (fixed_Is.calls a0 true _ A4.out).mono ?_); rintro e w' ⟨rfl, ⟨nd, rfl⟩⟩; refine ⟨_, rfl, ?_⟩) | (go_at_call 23; (with_reducible refine (number_isScale.calls a1 t125 _ A6.out).mono ?_); rintro e w' ⟨rfl, ⟨nd, rfl⟩⟩))
   go_meet
   case rel => exact ⟨_, (!t125), rfs_, (by first | exact H' | (subst_vars; exact H')), ⟨ole_⟩, by repeat (first | exact Drawn0.refl _ | apply Drawn0.step)⟩
  ·replace c5 := Bool.eq_false_iff.mpr c5
   subst c5
   rw [if_neg (show ¬ (false = true) by decide)] at H
   have H' := Aside0.mk H
   clear H
   go_wp2_with (first | ((with_reducible refine gate_callee (f := 12) rfl ?_); refine goesL_ (some 8) rfl rfl Tryd.func12 (by kernel_rfl) rfl #[.int .i64 a0] rfl goa_ ?_; (with_reducible refine (fixed_Is.calls a0 false _ A4.out).mono ?_); rintro e w' ⟨rfl, ⟨nd, rfl⟩⟩; refine ⟨_, rfl, ?_⟩))
   go_meet
   case rel => exact ⟨_, (true), rfs_, (by first | exact H' | (subst_vars; exact H')), ⟨ole_⟩, by repeat (first | exact Drawn0.refl _ | apply Drawn0.step)⟩
 case rest =>
  clear HC3
  try clear c1
  try clear p2
  try clear c5
  obtain ⟨kq, x14_2, rfl, HA, HJ2, ⟨mc2, rfl⟩⟩ := hcut
  cases kq with
  | zero => exact absurd HA.out (by simp [number_Text.j0])
  | succ kj2 =>
   have H := HA.out
   clear HA
   simp only [number_Text.j0] at H
   by_cases c7 : x14_2 = true
   ·subst c7
    rw [if_pos rfl] at H
    obtain rfl := Option.some.inj H
    go_wp2
    go_ret
    exact ⟨by first | rfl | (simp; done) | (simp [*]; done), by repeat (first | exact Drawn0.refl _ | apply Drawn0.step)⟩
   ·replace c7 := Bool.eq_false_iff.mpr c7
    subst c7
    rw [if_neg (show ¬ (false = true) by decide)] at H
    have HC8 := Aside0.mk H
    clear H
    go_upto_if 16 with (fail)
    go_cut [0, 5] (fun v0 v5 wc => ∃ (kq : Nat) (x0_7 : Int) (x5_7 : ByteArray), v0 = .int .i64 x0_7 ∧ v5 = .string x5_7 ∧ Aside0 (number_Text.j1 kq x0_7 a1 x5_7 = some r) ∧ Aside0 (kq ≤ kj2) ∧ Drawn0 w wc)
    case first =>
     have H := HC8.out
     clear HC8
     by_cases c9 : a0 < 0
     ·rw [if_pos c9] at H
      have c9b0 : decide (a0 < 0) = true := decide_eq_true c9
      clear c9
      (first | rw [c9b0] | (simp only [i64_w, i32_w]; rw [c9b0]) | skip)
      have H' := Aside0.mk H
      clear H
      go_wp2
      go_meet
      case rel => exact ⟨_, (wrap64 (-a0)), ((⟨#[45]⟩ : ByteArray)), rfs_, rfs_, H', ⟨by have := HJ2.out; first | omega | exact Nat.le_refl _⟩, by repeat (first | exact Drawn0.refl _ | apply Drawn0.step)⟩
     ·rw [if_neg c9] at H
      have c9b0 : decide (a0 < 0) = false := decide_eq_false c9
      clear c9
      (first | rw [c9b0] | (simp only [i64_w, i32_w]; rw [c9b0]) | skip)
      have H' := Aside0.mk H
      clear H
      go_wp2
      go_meet
      case rel => exact ⟨_, (a0), ((⟨#[]⟩ : ByteArray)), rfs_, rfs_, H', ⟨by have := HJ2.out; first | omega | exact Nat.le_refl _⟩, by repeat (first | exact Drawn0.refl _ | apply Drawn0.step)⟩
    case rest =>
     clear HC8
     try clear c1
     try clear c2
     try clear p2
     try clear c5
     try clear p6
     try clear c7
     try clear c9
     try clear c9b0
     try clear p2
     obtain ⟨kq, x0_7, x5_7, rfl, rfl, HA, HJ7, ⟨mc7, rfl⟩⟩ := hcut
     cases kq with
     | zero => exact absurd HA.out (by simp [number_Text.j1])
     | succ kj7 =>
      have H := HA.out
      clear HA
      simp only [number_Text.j1] at H
      by_cases c10 : a1 = 0
      ·rw [if_pos c10] at H
       exact absurd H (by simp)
      ·rw [if_neg c10] at H
       have c10b0 : (a1 == 0) = false := beq_eq_false_iff_ne.mpr c10
       have c10b1 : (a1 != 0) = true := bne_iff_ne.mpr c10
       replace H := Option.bind_eq_some_iff.mp H
       obtain ⟨t126, A110, H⟩ := H
       try dsimp only at H
       have A11 := Aside0.mk A110
       clear A110
       by_cases c12 : x5_7.size + t126.size ≤ 9223372036854775807
       ·rw [if_pos c12] at H
        have c12b0 := eq_true c12
        have c12b1 : decide (x5_7.size + t126.size ≤ 9223372036854775807) = true := decide_eq_true c12
        try have c12b2 : (9223372036854775807 < x5_7.size + t126.size) = False := eq_false (Nat.not_lt.2 c12)
        have HC13 := Aside0.mk H
        clear H
        go_upto_if 29 with (first | ((with_reducible refine gate_callee (f := 27) rfl ?_); refine goesL_ (some 23) rfl rfl Tryd.func27 (by kernel_rfl) rfl #[.int .i64 (wrap64 (Int.tdiv x0_7 a1))] rfl goa_ ?_; (with_reducible refine (strconv_Itoa.calls (wrap64 (Int.tdiv x0_7 a1)) t126 _ A11.out).mono ?_); rintro e w' ⟨rfl, ⟨nd, rfl⟩⟩; refine ⟨_, rfl, ?_⟩))
        (try simp only [Act.put, List.setIfInBounds_toArray, List.set_cons_zero, List.set_cons_succ])
        go_cut [5] (fun v5 wc => ∃ (kq : Nat) (x5_12 : ByteArray), v5 = .string x5_12 ∧ Aside0 (number_Text.j2 kq a1 x5_12 (Int.tmod x0_7 a1) = some r) ∧ Aside0 (kq ≤ kj7) ∧ Drawn0 w wc)
        case first =>
         have H := HC13.out
         clear HC13
         by_cases c14 : (Int.tmod x0_7 a1) > 0
         ·rw [if_pos c14] at H
          have c14b0 : decide (0 < (Int.tmod x0_7 a1)) = true := decide_eq_true c14
          clear c14
          (first | rw [c14b0] | (simp only [i64_w, i32_w]; rw [c14b0]) | skip)
          by_cases c15 : (x5_7 ++ t126).size + 1 ≤ 9223372036854775807
          ·rw [if_pos c15] at H
           have c15b0 := eq_true c15
           have c15b1 : decide ((x5_7 ++ t126).size + 1 ≤ 9223372036854775807) = true := decide_eq_true c15
           try have c15b2 : (9223372036854775807 < (x5_7 ++ t126).size + 1) = False := eq_false (Nat.not_lt.2 c15)
           try have c15b3 : (9223372036854775807 < x5_7.size + t126.size + 1) = False := eq_false (Nat.not_lt.2 (by rw [← ByteArray.size_append]; exact c15))
           have H' := Aside0.mk H
           clear H
           go_wp2
           go_meet
           case rel => exact ⟨_, ((x5_7 ++ t126) ++ (⟨#[46]⟩ : ByteArray)), rfs_, H', ⟨by have := HJ2.out; have := HJ7.out; first | omega | exact Nat.le_refl _⟩, by repeat (first | exact Drawn0.refl _ | apply Drawn0.step)⟩
          ·rw [if_neg c15] at H
           exact absurd H (by simp)
         ·rw [if_neg c14] at H
          have c14b0 : decide (0 < (Int.tmod x0_7 a1)) = false := decide_eq_false c14
          clear c14
          (first | rw [c14b0] | (simp only [i64_w, i32_w]; rw [c14b0]) | skip)
          have H' := Aside0.mk H
          clear H
          go_wp2
          go_meet
          case rel => exact ⟨_, (x5_7 ++ t126), rfs_, H', ⟨by have := HJ2.out; have := HJ7.out; first | omega | exact Nat.le_refl _⟩, by repeat (first | exact Drawn0.refl _ | apply Drawn0.step)⟩
        case rest =>
         clear HC13
         try clear c1
         try clear c2
         try clear p2
         try clear c5
         try clear p6
         try clear c7
         try clear c9
         try clear c9b0
         try clear c10
         try clear c10b0
         try clear c10b1
         try clear c12
         try clear c12b0
         try clear c12b1
         try clear c12b2
         try clear c14
         try clear c14b0
         try clear c15
         try clear c15b0
         try clear c15b1
         try clear c15b2
         try clear p2
         try clear p6
         obtain ⟨kq, x5_12, rfl, HA, HJ12, ⟨mc12, rfl⟩⟩ := hcut
         cases kq with
         | zero => exact absurd HA.out (by simp [number_Text.j2])
         | succ kj12 =>
          have H := HA.out
          clear HA
          simp only [number_Text.j2] at H
          have H' := Aside0.mk H
          clear H
          go_wp2
          go_loopg [5, 6] kj12 (fun kq v5 v6 w' => ∃ (x5_4 : ByteArray) (x6_4 : Int), v5 = .string x5_4 ∧ v6 = .int .i64 x6_4 ∧ Aside0 (number_Text.l0 kq a1 x5_4 x6_4 = some r) ∧ Aside0 (kq ≤ kj12) ∧ Drawn0 w w')
          case atStart => exact ⟨(x5_12), ((Int.tmod x0_7 a1)), rfs_, rfs_, H', ⟨Nat.le_refl _⟩, by repeat (first | exact Drawn0.refl _ | apply Drawn0.step)⟩
          case round =>
           clear H'
           try clear c1
           try clear c2
           try clear p2
           try clear c5
           try clear p6
           try clear c7
           try clear c9
           try clear c9b0
           try clear c10
           try clear c10b0
           try clear c10b1
           try clear c12
           try clear c12b0
           try clear c12b1
           try clear c12b2
           try clear c14
           try clear c14b0
           try clear c15
           try clear c15b0
           try clear c15b1
           try clear c15b2
           try clear p2
           try clear p6
           obtain ⟨x5_4, x6_4, rfl, rfl, HA, HK4, ⟨m4, rfl⟩⟩ := hrel
           cases gk with
           | zero => exact absurd HA.out (by simp [number_Text.l0])
           | succ k4 =>
            have H := HA.out
            clear HA
            simp only [number_Text.l0] at H
            by_cases c16 : x6_4 > 0
            ·rw [if_pos c16] at H
             have c16b0 : decide (0 < x6_4) = true := decide_eq_true c16
             clear c16
             by_cases c17 : a1 = 0
             ·rw [if_pos c17] at H
              exact absurd H (by simp)
             ·rw [if_neg c17] at H
              have c17b0 : (a1 == 0) = false := beq_eq_false_iff_ne.mpr c17
              have c17b1 : (a1 != 0) = true := bne_iff_ne.mpr c17
              replace H := Option.bind_eq_some_iff.mp H
              obtain ⟨t127, A180, H⟩ := H
              try dsimp only at H
              have A18 := Aside0.mk A180
              clear A180
              by_cases c19 : x5_4.size + t127.size ≤ 9223372036854775807
              ·rw [if_pos c19] at H
               have c19b0 := eq_true c19
               have c19b1 : decide (x5_4.size + t127.size ≤ 9223372036854775807) = true := decide_eq_true c19
               try have c19b2 : (9223372036854775807 < x5_4.size + t127.size) = False := eq_false (Nat.not_lt.2 c19)
               have H' := Aside0.mk H
               clear H
               go_wp2_with (first | ((with_reducible refine gate_callee (f := 27) rfl ?_); refine goesL_ (some 40) rfl rfl Tryd.func27 (by kernel_rfl) rfl #[.int .i64 (wrap64 (Int.tdiv (wrap64 (x6_4 * 10)) a1))] rfl goa_ ?_; (with_reducible refine (strconv_Itoa.calls (wrap64 (Int.tdiv (wrap64 (x6_4 * 10)) a1)) t127 _ A18.out).mono ?_); rintro e w' ⟨rfl, ⟨nd, rfl⟩⟩; refine ⟨_, rfl, ?_⟩))
               go_roundg k4
               case measure => have := HJ2.out; have := HJ7.out; have := HJ12.out; have := HK4.out; omega
               case rel => exact ⟨(x5_4 ++ t127), (Int.tmod (wrap64 (x6_4 * 10)) a1), rfs_, rfs_, H', ⟨by have := HJ2.out; have := HJ7.out; have := HJ12.out; have := HK4.out; omega⟩, by repeat (first | exact Drawn0.refl _ | apply Drawn0.step)⟩
              ·rw [if_neg c19] at H
               exact absurd H (by simp)
            ·rw [if_neg c16] at H
             have c16b0 : decide (0 < x6_4) = false := decide_eq_false c16
             clear c16
             obtain rfl := Option.some.inj H
             go_wp2
             go_ret
             exact ⟨by first | rfl | (simp; done) | (simp [*]; done), by repeat (first | exact Drawn0.refl _ | apply Drawn0.step)⟩
       ·rw [if_neg c12] at H
        exact absurd H (by simp)

end Go.Proofs.YtipjoejaeipgnaaDoor.PFl
