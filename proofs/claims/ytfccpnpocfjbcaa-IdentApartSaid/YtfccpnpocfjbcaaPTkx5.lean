-- Written by a program of this session (wip/p2) out of the translation; Lean checks it.
import Derived.Test.YtfccpnpocfjbcaaSq
import Derived.Test.YtfccpnpocfjbcaaPTkx0
import Derived.Test.YtfccpnpocfjbcaaPTkx2
import Derived.Test.YtfccpnpocfjbcaaPTkx4
namespace Go.Proofs.Ytfccpnpocfjbcaa.PTk
open Go.RowKit Go.Proofs.YtfccpnpocfjbcaaW.PrintWords Go.Proofs.YtfccpnpocfjbcaaW.PrintLast Go.Proofs.YtfccpnpocfjbcaaW.PrintMore
attribute [local go_sem] max2_int min2_int max_two min_two max_three min_three max_four min_four   -- for this text's walks alone
set_option linter.unusedVariables false
set_option linter.unusedSimpArgs false
open Go.Proofs.Ytfccpnpocfjbcaa.Opn Go.Proofs.Ytfccpnpocfjbcaa.Giv

/-! ### token_Hex: function 9 -/
mutual
def token_Hex.j0 : Nat → ByteArray → Int → Bool → Option (ByteArray × Int)
 | 0, _, _, _ => none
 | k + 1, x0, x1, x31 => if x31 = true then (some ((⟨#[]⟩ : ByteArray), 0)) else (token_Hex.l0 k x0 x1 0 0 0)
def token_Hex.j2 : Nat → ByteArray → Int → Int → Int → Option (ByteArray × Int)
 | 0, _, _, _, _ => none
 | k + 1, x0, x1, x6, x7 => if x7 = 0 then (if 0 ≤ (wrap64 (x1 + 1)) then (if (wrap64 (x1 + 1)) ≤ (wrap64 (x1 + 2)) then (if (wrap64 (x1 + 2)) ≤ (x0.size : Int) then (some (x0.extract ((wrap64 (x1 + 1)) : Int).toNat ((wrap64 (x1 + 2)) : Int).toNat, 2)) else (none)) else (none)) else (none)) else (if (wrap64 ((wrap64 (x1 + 1)) + x7)) < (x0.size : Int) then (if 0 ≤ (wrap64 ((wrap64 (x1 + 1)) + x7)) then ((token_blank.f (bt x0 (wrap64 ((wrap64 (x1 + 1)) + x7)))).bind fun t154 => (if t154 = true then ((token_character.f k x6).bind fun t155 => (some (t155, wrap64 ((wrap64 ((wrap64 ((wrap64 (x1 + 1)) + x7)) + 1)) - x1)))) else ((token_character.f k x6).bind fun t156 => (some (t156, wrap64 ((wrap64 ((wrap64 (x1 + 1)) + x7)) - x1)))))) else (none)) else ((token_character.f k x6).bind fun t157 => (some (t157, wrap64 ((wrap64 ((wrap64 (x1 + 1)) + x7)) - x1)))))
def token_Hex.l0 : Nat → ByteArray → Int → Int → Int → Int → Option (ByteArray × Int)
 | 0, _, _, _, _, _ => none
 | k + 1, x0, x1, x6, x7, x32 => if x32 < 6 then (if (wrap64 ((wrap64 (x1 + 1)) + x32)) ≥ (x0.size : Int) then (token_Hex.j2 k x0 x1 x6 x7) else (if 0 ≤ (wrap64 ((wrap64 (x1 + 1)) + x32)) then (if (wrap64 ((wrap64 (x1 + 1)) + x32)) < (x0.size : Int) then ((token_hex.f k (bt x0 (wrap64 ((wrap64 (x1 + 1)) + x32)))).bind fun t152 => (if t152 < 0 then (token_Hex.j2 k x0 x1 x6 x7) else ((token_hex.f k (bt x0 (wrap64 ((wrap64 (x1 + 1)) + x32)))).bind fun t153 => (token_Hex.l0 k x0 x1 (wrap64 ((wrap64 (x6 * 16)) + t153)) (wrap64 (x7 + 1)) (wrap64 (x32 + 1)))))) else (none)) else (none))) else (token_Hex.j2 k x0 x1 x6 x7)
end
def token_Hex.f (k : Nat) (a0 : ByteArray) (a1 : Int) : Option (ByteArray × Int) := if a1 < 0 then (token_Hex.j0 k a0 a1 true) else (if a1 > (wrap64 ((a0.size : Int) - 2)) then (token_Hex.j0 k a0 a1 true) else (if 0 ≤ a1 then (if a1 < (a0.size : Int) then (if (bt a0 a1) = 92 then (if 0 ≤ (wrap64 (a1 + 1)) then (if (wrap64 (a1 + 1)) < (a0.size : Int) then ((token_feed.f (bt a0 (wrap64 (a1 + 1)))).bind fun t151 => (token_Hex.j0 k a0 a1 t151)) else (none)) else (none)) else (token_Hex.j0 k a0 a1 true)) else (none)) else (none)))
theorem token_Hex.mono_l : ∀ k, (∀ y0 y1 y2, LeO (token_Hex.j0 k y0 y1 y2) (token_Hex.j0 (k + 1) y0 y1 y2)) ∧ (∀ y0 y1 y2 y3, LeO (token_Hex.j2 k y0 y1 y2 y3) (token_Hex.j2 (k + 1) y0 y1 y2 y3)) ∧ (∀ y0 y1 y2 y3 y4, LeO (token_Hex.l0 k y0 y1 y2 y3 y4) (token_Hex.l0 (k + 1) y0 y1 y2 y3 y4))
 | 0 => ⟨fun _ _ _ r h => by simp [token_Hex.j0] at h, fun _ _ _ _ r h => by simp [token_Hex.j2] at h, fun _ _ _ _ _ r h => by simp [token_Hex.l0] at h⟩
 | k + 1 => by
  obtain ⟨ih0, ih1, ih2⟩ := token_Hex.mono_l k
  refine ⟨?_, ?_, ?_⟩
  ·intro y0 y1 y2
   unfold token_Hex.j0
   repeat' first
   | (with_reducible exact ih0 _ _ _)
   | (with_reducible exact ih1 _ _ _ _)
   | (with_reducible exact ih2 _ _ _ _ _)
   | (with_reducible exact token_character.mono _ _)
   | (with_reducible exact token_hex.mono _ _)
   | (with_reducible exact LeO.refl _)
   | (with_reducible exact LeO.none _)
   | (with_reducible refine LeO.ite ?_ ?_)
   | (with_reducible refine LeO.bind ?_ (fun _ => ?_))
  ·intro y0 y1 y2 y3
   unfold token_Hex.j2
   repeat' first
   | (with_reducible exact ih0 _ _ _)
   | (with_reducible exact ih1 _ _ _ _)
   | (with_reducible exact ih2 _ _ _ _ _)
   | (with_reducible exact token_character.mono _ _)
   | (with_reducible exact token_hex.mono _ _)
   | (with_reducible exact LeO.refl _)
   | (with_reducible exact LeO.none _)
   | (with_reducible refine LeO.ite ?_ ?_)
   | (with_reducible refine LeO.bind ?_ (fun _ => ?_))
  ·intro y0 y1 y2 y3 y4
   unfold token_Hex.l0
   repeat' first
   | (with_reducible exact ih0 _ _ _)
   | (with_reducible exact ih1 _ _ _ _)
   | (with_reducible exact ih2 _ _ _ _ _)
   | (with_reducible exact token_character.mono _ _)
   | (with_reducible exact token_hex.mono _ _)
   | (with_reducible exact LeO.refl _)
   | (with_reducible exact LeO.none _)
   | (with_reducible refine LeO.ite ?_ ?_)
   | (with_reducible refine LeO.bind ?_ (fun _ => ?_))
theorem token_Hex.mono : ∀ a0 a1 k, LeO (token_Hex.f k a0 a1) (token_Hex.f (k + 1) a0 a1) := by
 intro a0 a1 k
 obtain ⟨ih0, ih1, ih2⟩ := token_Hex.mono_l k
 unfold token_Hex.f
 repeat' first
   | (with_reducible exact ih0 _ _ _)
   | (with_reducible exact ih1 _ _ _ _)
   | (with_reducible exact ih2 _ _ _ _ _)
   | (with_reducible exact token_character.mono _ _)
   | (with_reducible exact token_hex.mono _ _)
   | (with_reducible exact LeO.refl _)
   | (with_reducible exact LeO.none _)
   | (with_reducible refine LeO.ite ?_ ?_)
   | (with_reducible refine LeO.bind ?_ (fun _ => ?_))
set_option maxHeartbeats 8000000 in
set_option maxRecDepth 100000 in
theorem token_Hex.calls (k : Nat) (a0 : ByteArray) (a1 : Int) (r1 : ByteArray) (r2 : Int) (w : World) (h : token_Hex.f k a0 a1 = some (r1, r2)) :
  Calls Try.prog 9 #[.string a0, .int .i64 a1] w fun e w' => e = .returned (.tuple #[.string r1, .int .i64 r2]) ∧ Below w.heap.size w w' := by
 have HB := Aside0.mk (Below.refl w.heap.size w)
 have H : (if a1 < 0 then (token_Hex.j0 k a0 a1 true) else (if a1 > (wrap64 ((a0.size : Int) - 2)) then (token_Hex.j0 k a0 a1 true) else (if 0 ≤ a1 then (if a1 < (a0.size : Int) then (if (bt a0 a1) = 92 then (if 0 ≤ (wrap64 (a1 + 1)) then (if (wrap64 (a1 + 1)) < (a0.size : Int) then ((token_feed.f (bt a0 (wrap64 (a1 + 1)))).bind fun t151 => (token_Hex.j0 k a0 a1 t151)) else (none)) else (none)) else (token_Hex.j0 k a0 a1 true)) else (none)) else (none)))) = some (r1, r2) := h
 clear h
 have HC3 := Aside0.mk H
 clear H
 go_enter Try.func9, Try.ntmps9
 go_upto_region 1 with (fail)
 go_cut [31] (fun v31 wc => ∃ (kq : Nat) (x31_2 : Bool), v31 = .bool x31_2 ∧ Aside0 (token_Hex.j0 kq a0 a1 x31_2 = some (r1, r2)) ∧ Aside0 (kq ≤ k) ∧ Aside0 (Below w.heap.size w wc))
 case first =>
  have H := HC3.out
  clear HC3
  by_cases c4 : a1 < 0
  ·rw [if_pos c4] at H
   have c4b0 : decide (a1 < 0) = true := decide_eq_true c4
   clear c4
   (first | rw [c4b0] | (simp only [i64_w, i32_w]; rw [c4b0]) | skip)
   have H' := Aside0.mk H
   clear H
   go_wp2
   go_meet
   case rel => exact ⟨_, (true), rfs_, (by first | exact H' | (subst_vars; exact H')), ⟨ole_⟩, ⟨bel_⟩⟩
  ·rw [if_neg c4] at H
   have c4b0 : decide (a1 < 0) = false := decide_eq_false c4
   clear c4
   (first | rw [c4b0] | (simp only [i64_w, i32_w]; rw [c4b0]) | skip)
   by_cases c5 : a1 > (wrap64 ((a0.size : Int) - 2))
   ·rw [if_pos c5] at H
    have c5b0 : decide ((wrap64 ((a0.size : Int) - 2)) < a1) = true := decide_eq_true c5
    clear c5
    have H' := Aside0.mk H
    clear H
    go_wp2
    go_meet
    case rel => exact ⟨_, (true), rfs_, (by first | exact H' | (subst_vars; exact H')), ⟨ole_⟩, ⟨bel_⟩⟩
   ·rw [if_neg c5] at H
    have c5b0 : decide ((wrap64 ((a0.size : Int) - 2)) < a1) = false := decide_eq_false c5
    clear c5
    by_cases c6 : 0 ≤ a1
    ·rw [if_pos c6] at H
     have c6b0 : decide (0 ≤ a1) = true := decide_eq_true c6
     clear c6
     by_cases c7 : a1 < (a0.size : Int)
     ·rw [if_pos c7] at H
      have c7b0 : decide (a1 < (a0.size : Int)) = true := decide_eq_true c7
      clear c7
      by_cases c9 : (bt a0 a1) = 92
      ·rw [if_pos c9] at H
       have c9b0 : ((bt a0 a1) == 92) = true := beq_iff_eq.mpr c9
       have c9b1 : ((bt a0 a1) != 92) = false := bne_eq_false_iff_eq.mpr c9
       clear c9
       obtain ⟨ji10, hji10⟩ : ∃ j_ : Int, (wrap64 (a1 + 1)) = j_ := ⟨_, rfl⟩
       replace H : (if 0 ≤ (ji10) then (if (ji10) < (a0.size : Int) then ((token_feed.f (bt a0 (ji10))).bind fun t151 => (token_Hex.j0 k a0 a1 t151)) else (none)) else (none)) = some (r1, r2) := by first | (rw [hji10] at H; exact H) | (simp only [hji10] at H ⊢; exact H)
       have hji10w : (IntKind.i64.wrap (a1 + 1)) = ji10 := (i64_w _).trans hji10
       by_cases c11 : 0 ≤ (ji10)
       ·rw [if_pos c11] at H
        have c11b0 : decide (0 ≤ (ji10)) = true := decide_eq_true c11
        clear c11
        by_cases c12 : (ji10) < (a0.size : Int)
        ·rw [if_pos c12] at H
         have c12b0 : decide ((ji10) < (a0.size : Int)) = true := decide_eq_true c12
         clear c12
         replace H := Option.bind_eq_some_iff.mp H
         obtain ⟨t151, A140, H⟩ := H
         try dsimp only at H
         have A14 := Aside0.mk A140
         clear A140
         have H' := Aside0.mk H
         clear H
         have p8 : 0 ≤ (a1 : Int) := of_decide_eq_true (by first | (with_reducible assumption) | assumption)
         have q8 : a1 < (a0.size : Int) := of_decide_eq_true (by first | (with_reducible assumption) | assumption)
         have hx8 := bt_at a0 a1
         replace p8 := eq_true p8
         replace q8 := eq_true q8
         have p13 : 0 ≤ ((ji10) : Int) := of_decide_eq_true (by first | (with_reducible assumption) | assumption)
         have q13 : (ji10) < (a0.size : Int) := of_decide_eq_true (by first | (with_reducible assumption) | assumption)
         have hx13 := bt_at a0 (ji10)
         replace p13 := eq_true p13
         replace q13 := eq_true q13
         go_wp2_with (first | (go_at_call 18; (with_reducible refine (token_feed.calls (bt a0 (ji10)) t151 _ A14.out).mono ?_); rintro e w' ⟨rfl, ⟨nd, rfl⟩⟩))
         go_meet
         case rel => exact ⟨_, (t151), rfs_, (by first | exact H' | (subst_vars; exact H')), ⟨ole_⟩, ⟨bel_⟩⟩
        ·rw [if_neg c12] at H
         exact absurd H (by simp)
       ·rw [if_neg c11] at H
        exact absurd H (by simp)
      ·rw [if_neg c9] at H
       have c9b0 : ((bt a0 a1) == 92) = false := beq_eq_false_iff_ne.mpr c9
       have c9b1 : ((bt a0 a1) != 92) = true := bne_iff_ne.mpr c9
       have H' := Aside0.mk H
       clear H
       have p8 : 0 ≤ (a1 : Int) := of_decide_eq_true (by first | (with_reducible assumption) | assumption)
       have q8 : a1 < (a0.size : Int) := of_decide_eq_true (by first | (with_reducible assumption) | assumption)
       have hx8 := bt_at a0 a1
       replace p8 := eq_true p8
       replace q8 := eq_true q8
       go_wp2
       go_meet
       case rel => exact ⟨_, (true), rfs_, (by first | exact H' | (subst_vars; exact H')), ⟨ole_⟩, ⟨bel_⟩⟩
     ·rw [if_neg c7] at H
      exact absurd H (by simp)
    ·rw [if_neg c6] at H
     exact absurd H (by simp)
 case rest =>
  clear HC3
  try clear c1
  try clear p1
  try clear q1
  try clear hx1
  try clear p2
  try clear c4
  try clear c4b0
  try clear c5
  try clear c5b0
  try clear c6
  try clear c6b0
  try clear p6
  try clear c7
  try clear c7b0
  try clear p8
  try clear q8
  try clear hx8
  try clear c9
  try clear c9b0
  try clear c9b1
  try clear c11
  try clear c11b0
  try clear c12
  try clear c12b0
  try clear p13
  try clear q13
  try clear hx13
  try clear p13
  try clear p8
  try clear q13
  try clear q8
  obtain ⟨kq, x31_2, rfl, HA, HJ2, HB⟩ := hcut
  cases kq with
  | zero => exact absurd HA.out (by simp [token_Hex.j0])
  | succ kj2 =>
   have H := HA.out
   clear HA
   simp only [token_Hex.j0] at H
   by_cases c15 : x31_2 = true
   ·subst c15
    rw [if_pos rfl] at H
    simp only [Option.some.injEq, Prod.mk.injEq] at H
    obtain ⟨rfl, rfl⟩ := H
    go_wp2
    go_ret2
    exact ⟨rsl_, bel_⟩
   ·replace c15 := Bool.eq_false_iff.mpr c15
    subst c15
    rw [if_neg (show ¬ (false = true) by decide)] at H
    have HC16 := Aside0.mk H
    clear H
    go_upto_block 0 with (fail)
    go_cut [6, 7] (fun v6 v7 wc => ∃ (kq : Nat) (x6_15 : Int) (x7_15 : Int), v6 = .int .i64 x6_15 ∧ v7 = .int .i64 x7_15 ∧ Aside0 (token_Hex.j2 kq a0 a1 x6_15 x7_15 = some (r1, r2)) ∧ Aside0 (kq ≤ kj2) ∧ Aside0 (Below w.heap.size w wc))
    case first =>
     have H := HC16.out
     clear HC16
     have H' := Aside0.mk H
     clear H
     go_wp2
     go_loopg [6, 7, 32] kj2 (fun kq v6 v7 v32 w' => ∃ (x6_2 : Int) (x7_2 : Int) (x32_2 : Int), v6 = .int .i64 x6_2 ∧ v7 = .int .i64 x7_2 ∧ v32 = .int .i64 x32_2 ∧ Aside0 (token_Hex.l0 kq a0 a1 x6_2 x7_2 x32_2 = some (r1, r2)) ∧ Aside0 (kq ≤ kj2) ∧ Aside0 (Below w.heap.size w w'))
     case atStart => exact ⟨(0), (0), (0), rfs_, rfs_, rfs_, H', ⟨Nat.le_refl _⟩, ⟨bel_⟩⟩
     case round =>
      clear H'
      try clear c1
      try clear p1
      try clear q1
      try clear hx1
      try clear p2
      try clear c4
      try clear c4b0
      try clear c5
      try clear c5b0
      try clear c6
      try clear c6b0
      try clear p6
      try clear c7
      try clear c7b0
      try clear p8
      try clear q8
      try clear hx8
      try clear c9
      try clear c9b0
      try clear c9b1
      try clear c11
      try clear c11b0
      try clear c12
      try clear c12b0
      try clear p13
      try clear q13
      try clear hx13
      try clear c15
      try clear p1
      try clear p13
      try clear p2
      try clear p6
      try clear p8
      try clear q1
      try clear q13
      try clear q8
      obtain ⟨x6_2, x7_2, x32_2, rfl, rfl, rfl, HA, HK2, HB⟩ := hrel
      cases gk with
      | zero => exact absurd HA.out (by simp [token_Hex.l0])
      | succ k2 =>
       have H := HA.out
       clear HA
       simp only [token_Hex.l0] at H
       by_cases c17 : x32_2 < 6
       ·rw [if_pos c17] at H
        have c17b0 : decide (x32_2 < 6) = true := decide_eq_true c17
        clear c17
        (first | rw [c17b0] | (simp only [i64_w, i32_w]; rw [c17b0]) | skip)
        by_cases c18 : (wrap64 ((wrap64 (a1 + 1)) + x32_2)) ≥ (a0.size : Int)
        ·rw [if_pos c18] at H
         have c18b0 : decide ((a0.size : Int) ≤ (wrap64 ((wrap64 (a1 + 1)) + x32_2))) = true := decide_eq_true c18
         clear c18
         have H' := Aside0.mk H
         clear H
         go_wp2
         go_meet
         case rel => exact ⟨_, (x6_2), (x7_2), rfs_, rfs_, H', ⟨by have := HJ2.out; have := HK2.out; first | omega | exact Nat.le_refl _⟩, ⟨bel_⟩⟩
        ·rw [if_neg c18] at H
         have c18b0 : decide ((a0.size : Int) ≤ (wrap64 ((wrap64 (a1 + 1)) + x32_2))) = false := decide_eq_false c18
         clear c18
         obtain ⟨ji19, hji19⟩ : ∃ j_ : Int, (wrap64 ((wrap64 (a1 + 1)) + x32_2)) = j_ := ⟨_, rfl⟩
         replace H : (if 0 ≤ (ji19) then (if (ji19) < (a0.size : Int) then ((token_hex.f k2 (bt a0 (ji19))).bind fun t152 => (if t152 < 0 then (token_Hex.j2 k2 a0 a1 x6_2 x7_2) else ((token_hex.f k2 (bt a0 (ji19))).bind fun t153 => (token_Hex.l0 k2 a0 a1 (wrap64 ((wrap64 (x6_2 * 16)) + t153)) (wrap64 (x7_2 + 1)) (wrap64 (x32_2 + 1)))))) else (none)) else (none)) = some (r1, r2) := by first | (rw [hji19] at H; exact H) | (simp only [hji19] at H ⊢; exact H)
         (try rw [hji19] at c18b0)
         have hji19w : (IntKind.i64.wrap ((wrap64 (a1 + 1)) + x32_2)) = ji19 := (i64_w _).trans hji19
         by_cases c20 : 0 ≤ (ji19)
         ·rw [if_pos c20] at H
          have c20b0 : decide (0 ≤ (ji19)) = true := decide_eq_true c20
          clear c20
          by_cases c21 : (ji19) < (a0.size : Int)
          ·rw [if_pos c21] at H
           have c21b0 : decide ((ji19) < (a0.size : Int)) = true := decide_eq_true c21
           clear c21
           replace H := Option.bind_eq_some_iff.mp H
           obtain ⟨t152, A230, H⟩ := H
           try dsimp only at H
           have A23 := Aside0.mk A230
           clear A230
           by_cases c24 : t152 < 0
           ·rw [if_pos c24] at H
            have c24b0 : decide (t152 < 0) = true := decide_eq_true c24
            clear c24
            have H' := Aside0.mk H
            clear H
            have p22 : 0 ≤ ((ji19) : Int) := of_decide_eq_true (by first | (with_reducible assumption) | assumption)
            have q22 : (ji19) < (a0.size : Int) := of_decide_eq_true (by first | (with_reducible assumption) | assumption)
            have hx22 := bt_at a0 (ji19)
            replace p22 := eq_true p22
            replace q22 := eq_true q22
            go_wp2_with (first | (go_at_call 19; (with_reducible refine (token_hex.calls k2 (bt a0 (ji19)) t152 _ A23.out).mono ?_); rintro e w' ⟨rfl, ⟨nd, rfl⟩⟩))
            go_meet
            case rel => exact ⟨_, (x6_2), (x7_2), rfs_, rfs_, H', ⟨by have := HJ2.out; have := HK2.out; first | omega | exact Nat.le_refl _⟩, ⟨bel_⟩⟩
           ·rw [if_neg c24] at H
            have c24b0 : decide (t152 < 0) = false := decide_eq_false c24
            clear c24
            replace H := Option.bind_eq_some_iff.mp H
            obtain ⟨t153, A260, H⟩ := H
            try dsimp only at H
            have A26 := Aside0.mk A260
            clear A260
            have H' := Aside0.mk H
            clear H
            have p22 : 0 ≤ ((ji19) : Int) := of_decide_eq_true (by first | (with_reducible assumption) | assumption)
            have q22 : (ji19) < (a0.size : Int) := of_decide_eq_true (by first | (with_reducible assumption) | assumption)
            have hx22 := bt_at a0 (ji19)
            replace p22 := eq_true p22
            replace q22 := eq_true q22
            go_wp2_with (first | (go_at_call 19; (with_reducible refine (token_hex.calls k2 (bt a0 (ji19)) t152 _ A23.out).mono ?_); rintro e w' ⟨rfl, ⟨nd, rfl⟩⟩; have p25 : 0 ≤ ((ji19) : Int) := of_decide_eq_true (by first | (with_reducible assumption) | assumption); have q25 : (ji19) < (a0.size : Int) := of_decide_eq_true (by first | (with_reducible assumption) | assumption); have hx25 := bt_at a0 (ji19); replace p25 := eq_true p25; replace q25 := eq_true q25) | ((with_reducible refine gate_callee (f := 19) rfl ?_); refine goesL_ (some 60) rfl rfl Try.func19 (by kernel_rfl) rfl #[.int .u8 (bt a0 (ji19))] rfl (by (try simp only [List.map_toArray, List.map_cons, List.map_nil]); first | done | (simp only [hji19]; rfl) | rfl | (simp only [List.length_drop, List.length_take]; rfl)) ?_; (with_reducible refine (token_hex.calls k2 (bt a0 (ji19)) t153 _ A26.out).mono ?_); rintro e w' ⟨rfl, ⟨nd, rfl⟩⟩; refine ⟨_, rfl, ?_⟩))
            go_roundg k2
            case measure => have := HJ2.out; have := HK2.out; omega
            case rel => exact ⟨(wrap64 ((wrap64 (x6_2 * 16)) + t153)), (wrap64 (x7_2 + 1)), (wrap64 (x32_2 + 1)), rfs_, rfs_, rfs_, H', ⟨by have := HJ2.out; have := HK2.out; omega⟩, ⟨bel_⟩⟩
          ·rw [if_neg c21] at H
           exact absurd H (by simp)
         ·rw [if_neg c20] at H
          exact absurd H (by simp)
       ·rw [if_neg c17] at H
        have c17b0 : decide (x32_2 < 6) = false := decide_eq_false c17
        clear c17
        (first | rw [c17b0] | (simp only [i64_w, i32_w]; rw [c17b0]) | skip)
        have H' := Aside0.mk H
        clear H
        go_wp2
        go_meet
        case rel => exact ⟨_, (x6_2), (x7_2), rfs_, rfs_, H', ⟨by have := HJ2.out; have := HK2.out; first | omega | exact Nat.le_refl _⟩, ⟨bel_⟩⟩
    case rest =>
     clear HC16
     try clear c1
     try clear p1
     try clear q1
     try clear hx1
     try clear c2
     try clear p2
     try clear q2
     try clear hx2
     try clear c4
     try clear c4b0
     try clear c5
     try clear c5b0
     try clear c6
     try clear c6b0
     try clear p6
     try clear c7
     try clear c7b0
     try clear p8
     try clear q8
     try clear hx8
     try clear c9
     try clear c9b0
     try clear c9b1
     try clear c11
     try clear c11b0
     try clear c12
     try clear c12b0
     try clear p13
     try clear q13
     try clear hx13
     try clear c15
     try clear c17
     try clear c17b0
     try clear c18
     try clear c18b0
     try clear c19
     try clear c20
     try clear c20b0
     try clear c21
     try clear c21b0
     try clear p22
     try clear q22
     try clear hx22
     try clear c24
     try clear c24b0
     try clear p25
     try clear q25
     try clear hx25
     try clear p1
     try clear p13
     try clear p2
     try clear p22
     try clear p25
     try clear p6
     try clear p8
     try clear q1
     try clear q13
     try clear q22
     try clear q25
     try clear q8
     obtain ⟨kq, x6_15, x7_15, rfl, rfl, HA, HJ15, HB⟩ := hcut
     cases kq with
     | zero => exact absurd HA.out (by simp [token_Hex.j2])
     | succ kj15 =>
      have H := HA.out
      clear HA
      simp only [token_Hex.j2] at H
      by_cases c27 : x7_15 = 0
      ·rw [if_pos c27] at H
       have c27b0 : (x7_15 == 0) = true := beq_iff_eq.mpr c27
       have c27b1 : (x7_15 != 0) = false := bne_eq_false_iff_eq.mpr c27
       clear c27
       obtain ⟨ji28, hji28⟩ : ∃ j_ : Int, (wrap64 (a1 + 1)) = j_ := ⟨_, rfl⟩
       replace H : (if 0 ≤ (ji28) then (if (ji28) ≤ (wrap64 (a1 + 2)) then (if (wrap64 (a1 + 2)) ≤ (a0.size : Int) then (some (a0.extract ((ji28) : Int).toNat ((wrap64 (a1 + 2)) : Int).toNat, 2)) else (none)) else (none)) else (none)) = some (r1, r2) := by first | (rw [hji28] at H; exact H) | (simp only [hji28] at H ⊢; exact H)
       have hji28w : (IntKind.i64.wrap (a1 + 1)) = ji28 := (i64_w _).trans hji28
       by_cases c29 : 0 ≤ (ji28)
       ·rw [if_pos c29] at H
        have c29b0 := eq_true c29
        have c29b1 : decide (0 ≤ (ji28)) = true := decide_eq_true c29
        clear c29
        by_cases c30 : (ji28) ≤ (wrap64 (a1 + 2))
        ·rw [if_pos c30] at H
         have c30b0 := eq_true c30
         have c30b1 : decide ((ji28) ≤ (wrap64 (a1 + 2))) = true := decide_eq_true c30
         by_cases c31 : (wrap64 (a1 + 2)) ≤ (a0.size : Int)
         ·rw [if_pos c31] at H
          have c31b0 := eq_true c31
          have c31b1 : decide ((wrap64 (a1 + 2)) ≤ (a0.size : Int)) = true := decide_eq_true c31
          simp only [Option.some.injEq, Prod.mk.injEq] at H
          obtain ⟨rfl, rfl⟩ := H
          go_wp2
          go_ret2
          exact ⟨by first | rfl | (simp [errW_none, errW_some] <;> rfl) | (simp only [← hji28]; first | rfl | (simp [errW_none, errW_some] <;> rfl)) | (simp [*, errW_none, errW_some] <;> rfl), bel_⟩
         ·rw [if_neg c31] at H
          exact absurd H (by simp)
        ·rw [if_neg c30] at H
         exact absurd H (by simp)
       ·rw [if_neg c29] at H
        exact absurd H (by simp)
      ·rw [if_neg c27] at H
       have c27b0 : (x7_15 == 0) = false := beq_eq_false_iff_ne.mpr c27
       have c27b1 : (x7_15 != 0) = true := bne_iff_ne.mpr c27
       by_cases c32 : (wrap64 ((wrap64 (a1 + 1)) + x7_15)) < (a0.size : Int)
       ·rw [if_pos c32] at H
        have c32b0 : decide ((wrap64 ((wrap64 (a1 + 1)) + x7_15)) < (a0.size : Int)) = true := decide_eq_true c32
        clear c32
        obtain ⟨ji33, hji33⟩ : ∃ j_ : Int, (wrap64 ((wrap64 (a1 + 1)) + x7_15)) = j_ := ⟨_, rfl⟩
        replace H : (if 0 ≤ (ji33) then ((token_blank.f (bt a0 (ji33))).bind fun t154 => (if t154 = true then ((token_character.f kj15 x6_15).bind fun t155 => (some (t155, wrap64 ((wrap64 ((ji33) + 1)) - a1)))) else ((token_character.f kj15 x6_15).bind fun t156 => (some (t156, wrap64 ((ji33) - a1)))))) else (none)) = some (r1, r2) := by first | (rw [hji33] at H; exact H) | (simp only [hji33] at H ⊢; exact H)
        (try rw [hji33] at c32b0)
        have hji33w : (IntKind.i64.wrap ((wrap64 (a1 + 1)) + x7_15)) = ji33 := (i64_w _).trans hji33
        by_cases c34 : 0 ≤ (ji33)
        ·rw [if_pos c34] at H
         have c34b0 : decide (0 ≤ (ji33)) = true := decide_eq_true c34
         clear c34
         replace H := Option.bind_eq_some_iff.mp H
         obtain ⟨t154, A360, H⟩ := H
         try dsimp only at H
         have A36 := Aside0.mk A360
         clear A360
         by_cases c37 : t154 = true
         ·subst c37
          rw [if_pos rfl] at H
          replace H := Option.bind_eq_some_iff.mp H
          obtain ⟨t155, A380, H⟩ := H
          try dsimp only at H
          have A38 := Aside0.mk A380
          clear A380
          simp only [Option.some.injEq, Prod.mk.injEq] at H
          obtain ⟨rfl, rfl⟩ := H
          have p35 : 0 ≤ ((ji33) : Int) := of_decide_eq_true (by first | (with_reducible assumption) | assumption)
          have q35 : (ji33) < (a0.size : Int) := of_decide_eq_true (by first | (with_reducible assumption) | assumption)
          have hx35 := bt_at a0 (ji33)
          replace p35 := eq_true p35
          replace q35 := eq_true q35
          go_wp2_with (first | (go_at_call 20; (with_reducible refine (token_blank.calls (bt a0 (ji33)) true _ A36.out).mono ?_); rintro e w' ⟨rfl, ⟨nd, rfl⟩⟩) | ((with_reducible refine gate_callee (f := 21) rfl ?_); refine goesL_ (some 90) rfl rfl Try.func21 (by kernel_rfl) rfl #[.int .i64 x6_15] rfl goa_ ?_; (with_reducible refine (token_character.calls kj15 x6_15 t155 _ A38.out).mono ?_); rintro e w39 ⟨rfl, hb⟩; refine ⟨_, rfl, ?_⟩; have n0_ := Aside0.mk (below_step bel_ hb); clear HB; have HB := n0_; clear n0_; clear hb))
          go_ret2
          exact ⟨by first | rfl | (simp [errW_none, errW_some] <;> rfl) | (simp only [← hji33]; first | rfl | (simp [errW_none, errW_some] <;> rfl)) | (simp [*, errW_none, errW_some] <;> rfl), bel_⟩
         ·replace c37 := Bool.eq_false_iff.mpr c37
          subst c37
          rw [if_neg (show ¬ (false = true) by decide)] at H
          replace H := Option.bind_eq_some_iff.mp H
          obtain ⟨t156, A400, H⟩ := H
          try dsimp only at H
          have A40 := Aside0.mk A400
          clear A400
          simp only [Option.some.injEq, Prod.mk.injEq] at H
          obtain ⟨rfl, rfl⟩ := H
          have p35 : 0 ≤ ((ji33) : Int) := of_decide_eq_true (by first | (with_reducible assumption) | assumption)
          have q35 : (ji33) < (a0.size : Int) := of_decide_eq_true (by first | (with_reducible assumption) | assumption)
          have hx35 := bt_at a0 (ji33)
          replace p35 := eq_true p35
          replace q35 := eq_true q35
          go_wp2_with (first | (go_at_call 20; (with_reducible refine (token_blank.calls (bt a0 (ji33)) false _ A36.out).mono ?_); rintro e w' ⟨rfl, ⟨nd, rfl⟩⟩) | ((with_reducible refine gate_callee (f := 21) rfl ?_); refine goesL_ (some 90) rfl rfl Try.func21 (by kernel_rfl) rfl #[.int .i64 x6_15] rfl goa_ ?_; (with_reducible refine (token_character.calls kj15 x6_15 t156 _ A40.out).mono ?_); rintro e w41 ⟨rfl, hb⟩; refine ⟨_, rfl, ?_⟩; have n0_ := Aside0.mk (below_step bel_ hb); clear HB; have HB := n0_; clear n0_; clear hb))
          go_ret2
          exact ⟨by first | rfl | (simp [errW_none, errW_some] <;> rfl) | (simp only [← hji33]; first | rfl | (simp [errW_none, errW_some] <;> rfl)) | (simp [*, errW_none, errW_some] <;> rfl), bel_⟩
        ·rw [if_neg c34] at H
         exact absurd H (by simp)
       ·rw [if_neg c32] at H
        have c32b0 : decide ((wrap64 ((wrap64 (a1 + 1)) + x7_15)) < (a0.size : Int)) = false := decide_eq_false c32
        clear c32
        replace H := Option.bind_eq_some_iff.mp H
        obtain ⟨t157, A420, H⟩ := H
        try dsimp only at H
        have A42 := Aside0.mk A420
        clear A420
        simp only [Option.some.injEq, Prod.mk.injEq] at H
        obtain ⟨rfl, rfl⟩ := H
        go_wp2_with (first | ((with_reducible refine gate_callee (f := 21) rfl ?_); refine goesL_ (some 90) rfl rfl Try.func21 (by kernel_rfl) rfl #[.int .i64 x6_15] rfl goa_ ?_; (with_reducible refine (token_character.calls kj15 x6_15 t157 _ A42.out).mono ?_); rintro e w43 ⟨rfl, hb⟩; refine ⟨_, rfl, ?_⟩; have n0_ := Aside0.mk (below_step bel_ hb); clear HB; have HB := n0_; clear n0_; clear hb))
        go_ret2
        exact ⟨rsl_, bel_⟩

end Go.Proofs.Ytfccpnpocfjbcaa.PTk
