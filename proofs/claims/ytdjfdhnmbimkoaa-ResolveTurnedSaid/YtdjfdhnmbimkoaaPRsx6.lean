-- Written by a program of this session (wip/p2) out of the translation; Lean checks it.
import Derived.Test.YtdjfdhnmbimkoaaSq
import Derived.Test.YtdjfdhnmbimkoaaPRsx0
import Derived.Test.YtdjfdhnmbimkoaaGfind
namespace Go.Proofs.Ytdjfdhnmbimkoaa.PRs
open Go.RowKit Go.Proofs.YtdjfdhnmbimkoaaW.PrintWords Go.Proofs.YtdjfdhnmbimkoaaW.PrintLast Go.Proofs.YtdjfdhnmbimkoaaW.PrintMore
attribute [local go_sem] max2_int min2_int max_two min_two max_three min_three max_four min_four   -- for this text's walks alone
set_option linter.unusedVariables false
set_option linter.unusedSimpArgs false
open Go.Proofs.Ytdjfdhnmbimkoaa.Opn Go.Proofs.Ytdjfdhnmbimkoaa.Giv

/-! ### resolve_Clamp: function 61 -/
def resolve_Clamp.f (a0 : Int) (a1 : Int) : Option (Int × Int) := if a0 ≥ a1 then (some (0, 1)) else (if a0 ≥ 10000 then (some (9999, 10000)) else (if a1 ≤ (-10000) then (some ((-10000), (-9999))) else (some (mx a0 (-10000), mn a1 10000))))
set_option maxHeartbeats 8000000 in
set_option maxRecDepth 100000 in
theorem resolve_Clamp.calls (a0 : Int) (a1 : Int) (r1 : Int) (r2 : Int) (w : World) (h : resolve_Clamp.f a0 a1 = some (r1, r2)) :
  Calls Try.prog 61 #[.int .i64 a0, .int .i64 a1] w fun e w' => e = .returned (.tuple #[.int .i64 r1, .int .i64 r2]) ∧ Below w.heap.size w w' := by
 have HB := Aside0.mk (Below.refl w.heap.size w)
 have H : (if a0 ≥ a1 then (some (0, 1)) else (if a0 ≥ 10000 then (some (9999, 10000)) else (if a1 ≤ (-10000) then (some ((-10000), (-9999))) else (some (mx a0 (-10000), mn a1 10000))))) = some (r1, r2) := h
 clear h
 by_cases c3 : a0 ≥ a1
 ·rw [if_pos c3] at H
  have c3b0 : decide (a1 ≤ a0) = true := decide_eq_true c3
  clear c3
  simp only [Option.some.injEq, Prod.mk.injEq] at H
  obtain ⟨rfl, rfl⟩ := H
  go_enter Try.func61, Try.ntmps61
  go_wp2
  go_ret2
  exact ⟨rsl_, bel_⟩
 ·rw [if_neg c3] at H
  have c3b0 : decide (a1 ≤ a0) = false := decide_eq_false c3
  clear c3
  by_cases c4 : a0 ≥ 10000
  ·rw [if_pos c4] at H
   have c4b0 : decide (10000 ≤ a0) = true := decide_eq_true c4
   clear c4
   simp only [Option.some.injEq, Prod.mk.injEq] at H
   obtain ⟨rfl, rfl⟩ := H
   go_enter Try.func61, Try.ntmps61
   go_wp2
   go_ret2
   exact ⟨rsl_, bel_⟩
  ·rw [if_neg c4] at H
   have c4b0 : decide (10000 ≤ a0) = false := decide_eq_false c4
   clear c4
   by_cases c5 : a1 ≤ (-10000)
   ·rw [if_pos c5] at H
    have c5b0 : decide (a1 ≤ (-10000)) = true := decide_eq_true c5
    clear c5
    simp only [Option.some.injEq, Prod.mk.injEq] at H
    obtain ⟨rfl, rfl⟩ := H
    go_enter Try.func61, Try.ntmps61
    go_wp2
    go_ret2
    exact ⟨rsl_, bel_⟩
   ·rw [if_neg c5] at H
    have c5b0 : decide (a1 ≤ (-10000)) = false := decide_eq_false c5
    clear c5
    obtain ⟨ji6, hji6⟩ : ∃ j_ : Int, (mx a0 (-10000)) = j_ := ⟨_, rfl⟩
    replace H : (some (ji6, mn a1 10000)) = some (r1, r2) := by first | (rw [hji6] at H; exact H) | (simp only [hji6] at H ⊢; exact H)
    have hji6_ : (if a0 < (-10000) then (-10000) else a0) = ji6 := hji6
    obtain ⟨ji7, hji7⟩ : ∃ j_ : Int, (mn a1 10000) = j_ := ⟨_, rfl⟩
    replace H : (some (ji6, ji7)) = some (r1, r2) := by first | (rw [hji7] at H; exact H) | (simp only [hji7] at H ⊢; exact H)
    (try (have hji7h : ji7 ≤ 10000 := by (rw [← hji7]; unfold mn; (repeat' split) <;> omega)))
    (try (have hji7g : ji7 ≤ 64 := by omega))
    have hji7_ : (if 10000 < a1 then 10000 else a1) = ji7 := hji7
    simp only [Option.some.injEq, Prod.mk.injEq] at H
    obtain ⟨rfl, rfl⟩ := H
    go_enter Try.func61, Try.ntmps61
    go_wp2
    go_ret2
    exact ⟨by first | rfl | (simp [errW_none, errW_some] <;> rfl) | (simp only [← hji6, ← hji7]; first | rfl | (simp [errW_none, errW_some] <;> rfl)) | (simp [*, errW_none, errW_some] <;> rfl), bel_⟩

/-! ### names_Nth: function 20 -/
def names_Nth.j0 : Nat → List (List ByteArray) → Int → List Int → Bool → Option (Int)
 | 0, _, _, _, _ => none
 | k + 1, x0, x2, x7, x11 => if x11 = true then (some 0) else (if x2 > (x7.length : Int) then (some (wrap64 ((wrap64 ((wrap64 ((x0.length : Int) - 1)) + x2)) - (x7.length : Int)))) else (if x2 > 0 then (if 0 ≤ (wrap64 (x2 - 1)) then (if (wrap64 (x2 - 1)) < (x7.length : Int) then (some (rd x7 (wrap64 (x2 - 1)))) else (none)) else (none)) else (if (wrap64 (-x2)) > (x7.length : Int) then (some (wrap64 (x2 + (x7.length : Int)))) else (if 0 ≤ (wrap64 ((x7.length : Int) + x2)) then (if (wrap64 ((x7.length : Int) + x2)) < (x7.length : Int) then (some (rd x7 (wrap64 ((x7.length : Int) + x2)))) else (none)) else (none)))))
def names_Nth.f (k : Nat) (l0 : List (List ByteArray)) (a1 : ByteArray) (a2 : Int) : Option (Int) := (names_Find.f l0 a1).bind fun t112 => (if a2 = 0 then (names_Nth.j0 k l0 a2 t112 true) else (if (l0.length : Int) = 0 then (names_Nth.j0 k l0 a2 t112 true) else (if a2 > 10000 then (names_Nth.j0 k l0 a2 t112 true) else (names_Nth.j0 k l0 a2 t112 (decide (a2 < (-10000)))))))
theorem names_Nth.mono_l : ∀ k, (∀ y0 y1 y2 y3, LeO (names_Nth.j0 k y0 y1 y2 y3) (names_Nth.j0 (k + 1) y0 y1 y2 y3))
 | 0 => fun _ _ _ _ r h => by simp [names_Nth.j0] at h
 | k + 1 => by
  have ih0 := names_Nth.mono_l k
  ·intro y0 y1 y2 y3
   unfold names_Nth.j0
   repeat' first
   | (with_reducible exact ih0 _ _ _ _)
   | (with_reducible exact LeO.refl _)
   | (with_reducible exact LeO.none _)
   | (with_reducible refine LeO.ite ?_ ?_)
   | (with_reducible refine LeO.bind ?_ (fun _ => ?_))
theorem names_Nth.mono : ∀ a0 a1 a2 k, LeO (names_Nth.f k a0 a1 a2) (names_Nth.f (k + 1) a0 a1 a2) := by
 intro a0 a1 a2 k
 have ih0 := names_Nth.mono_l k
 unfold names_Nth.f
 repeat' first
   | (with_reducible exact ih0 _ _ _ _)
   | (with_reducible exact LeO.refl _)
   | (with_reducible exact LeO.none _)
   | (with_reducible refine LeO.ite ?_ ?_)
   | (with_reducible refine LeO.bind ?_ (fun _ => ?_))
set_option maxHeartbeats 8000000 in
set_option maxRecDepth 100000 in
theorem names_Nth.calls (k : Nat) (A0 : Option Addr) (c0 : Nat) (l0 : List (List ByteArray)) (a1 : ByteArray) (a2 : Int) (r : Int) (w : World) (hr0 : Kd.C (Kd.slice 9 Kd.string) w A0 l0.length l0) (hc0 : l0.length ≤ c0) (h : names_Nth.f k l0 a1 a2 = some r) :
  Calls Try.prog 20 #[.slice A0 l0.length c0, .string a1, .int .i64 a2] w fun e w' => e = .returned (.int .i64 r) ∧ Below w.heap.size w w' := by
 have HR0 := Aside0.mk hr0
 have HC0 := Aside0.mk hc0
 clear hr0 hc0
 have HB := Aside0.mk (Below.refl w.heap.size w)
 have H : ((names_Find.f l0 a1).bind fun t112 => (if a2 = 0 then (names_Nth.j0 k l0 a2 t112 true) else (if (l0.length : Int) = 0 then (names_Nth.j0 k l0 a2 t112 true) else (if a2 > 10000 then (names_Nth.j0 k l0 a2 t112 true) else (names_Nth.j0 k l0 a2 t112 (decide (a2 < (-10000)))))))) = some r := h
 clear h
 replace H := Option.bind_eq_some_iff.mp H
 obtain ⟨t112, A40, H⟩ := H
 try dsimp only at H
 have A4 := Aside0.mk A40
 clear A40
 have HC5 := Aside0.mk H
 clear H
 go_enter Try.func20, Try.ntmps20
 go_upto_region 2 with (first | ((with_reducible refine gate_callee (f := 24) rfl ?_); refine goesL_ (some 10) rfl rfl Try.func24 (by kernel_rfl) rfl #[.slice A0 l0.length c0, .string a1] rfl goa_ ?_; (with_reducible refine (names_Find.calls _ _ l0 a1 t112 _ ?side1 ?side2 A4.out).mono ?_); (case side1 => repeat (first | exact HR0.out | (with_reducible refine Kd.C_alloc ?_ _) | (with_reducible refine Kd.C_drewN ?_ _) | (with_reducible refine Kd.C_drew ?_))); (case side2 => exact HC0.out); rintro e w6 ⟨v113, rfl, ho0, hb⟩; refine ⟨_, rfl, ?_⟩; have n0_ := Aside0.mk (Kd.R_lower ho0 (below_size bel_)); have n1_ := Aside0.mk (below_step bel_ hb); clear HB; have HO114 := n0_; have HB := n1_; clear n0_ n1_; (try clear hb); (try clear hb2); (try clear hk); (try clear hi); (try clear ho0)))
 (try simp only [Act.put, List.setIfInBounds_toArray, List.set_cons_zero, List.set_cons_succ])
 go_cut [11] (fun v11 wc => ∃ (kq : Nat) (x11_4 : Bool), v11 = .bool x11_4 ∧ Aside0 (names_Nth.j0 kq l0 a2 t112 x11_4 = some r) ∧ Aside0 (kq ≤ k) ∧ Aside0 (Kd.R (Kd.int .i64) 3 wc w.heap.size (fun _ => True) v113 t112) ∧ Aside0 (Below w.heap.size w wc))
 case first =>
  have H := HC5.out
  clear HC5
  by_cases c7 : a2 = 0
  ·rw [if_pos c7] at H
   have c7b0 : (a2 == 0) = true := beq_iff_eq.mpr c7
   have c7b1 : (a2 != 0) = false := bne_eq_false_iff_eq.mpr c7
   clear c7
   (first | rw [c7b0] | (simp only [i64_w, i32_w]; rw [c7b0]) | skip)
   have H' := Aside0.mk H
   clear H
   go_wp2
   go_meet
   case rel => exact ⟨_, (true), rfs_, H', ⟨ole_⟩, ⟨by (with_reducible repeat (first | apply Kd.R_alloc | apply Kd.R_drewN | apply Kd.R_drew)); exact HO114.out⟩, ⟨bel_⟩⟩
  ·rw [if_neg c7] at H
   have c7b0 : (a2 == 0) = false := beq_eq_false_iff_ne.mpr c7
   have c7b1 : (a2 != 0) = true := bne_iff_ne.mpr c7
   (first | rw [c7b0] | (simp only [i64_w, i32_w]; rw [c7b0]) | skip)
   by_cases c8 : (l0.length : Int) = 0
   ·rw [if_pos c8] at H
    have c8b0 : ((l0.length : Int) == 0) = true := beq_iff_eq.mpr c8
    have c8b1 : ((l0.length : Int) != 0) = false := bne_eq_false_iff_eq.mpr c8
    clear c8
    have H' := Aside0.mk H
    clear H
    go_wp2
    go_meet
    case rel => exact ⟨_, (true), rfs_, H', ⟨ole_⟩, ⟨by (with_reducible repeat (first | apply Kd.R_alloc | apply Kd.R_drewN | apply Kd.R_drew)); exact HO114.out⟩, ⟨bel_⟩⟩
   ·rw [if_neg c8] at H
    have c8b0 : ((l0.length : Int) == 0) = false := beq_eq_false_iff_ne.mpr c8
    have c8b1 : ((l0.length : Int) != 0) = true := bne_iff_ne.mpr c8
    have c8b2 : ¬ (l0 = []) := fun h_ => c8 (by rw [h_]; rfl)
    by_cases c9 : a2 > 10000
    ·rw [if_pos c9] at H
     have c9b0 : decide (10000 < a2) = true := decide_eq_true c9
     clear c9
     have H' := Aside0.mk H
     clear H
     go_wp2
     go_meet
     case rel => exact ⟨_, (true), rfs_, H', ⟨ole_⟩, ⟨by (with_reducible repeat (first | apply Kd.R_alloc | apply Kd.R_drewN | apply Kd.R_drew)); exact HO114.out⟩, ⟨bel_⟩⟩
    ·rw [if_neg c9] at H
     have c9b0 : decide (10000 < a2) = false := decide_eq_false c9
     clear c9
     have H' := Aside0.mk H
     clear H
     go_wp2
     go_meet
     case rel => exact ⟨_, (decide (a2 < (-10000))), rfs_, H', ⟨ole_⟩, ⟨by (with_reducible repeat (first | apply Kd.R_alloc | apply Kd.R_drewN | apply Kd.R_drew)); exact HO114.out⟩, ⟨bel_⟩⟩
 case rest =>
  clear HC5
  try clear c2
  try clear p2
  try clear c7
  try clear c7b0
  try clear c7b1
  try clear c8
  try clear c8b0
  try clear c8b1
  try clear c8b2
  try clear c9
  try clear c9b0
  obtain ⟨kq, x11_4, rfl, HA, HJ4, HO_7, HB⟩ := hcut
  cases kq with
  | zero => exact absurd HA.out (by simp [names_Nth.j0])
  | succ kj4 =>
   have H := HA.out
   clear HA
   simp only [names_Nth.j0] at H
   by_cases c10 : x11_4 = true
   ·subst c10
    rw [if_pos rfl] at H
    obtain rfl := Option.some.inj H
    go_wp2
    go_ret
    exact ⟨rsl_, bel_⟩
   ·replace c10 := Bool.eq_false_iff.mpr c10
    subst c10
    rw [if_neg (show ¬ (false = true) by decide)] at H
    by_cases c11 : a2 > (t112.length : Int)
    ·rw [if_pos c11] at H
     have c11b0 : decide ((t112.length : Int) < a2) = true := decide_eq_true c11
     clear c11
     obtain rfl := Option.some.inj H
     obtain ⟨Ao12, co12, eo12⟩ := Kd.R_slice HO_7.out
     subst eo12
     go_wp2
     go_ret
     exact ⟨rsl_, bel_⟩
    ·rw [if_neg c11] at H
     have c11b0 : decide ((t112.length : Int) < a2) = false := decide_eq_false c11
     clear c11
     by_cases c13 : a2 > 0
     ·rw [if_pos c13] at H
      have c13b0 : decide (0 < a2) = true := decide_eq_true c13
      clear c13
      obtain ⟨ji14, hji14⟩ : ∃ j_ : Int, (wrap64 (a2 - 1)) = j_ := ⟨_, rfl⟩
      replace H : (if 0 ≤ (ji14) then (if (ji14) < (t112.length : Int) then (some (rd t112 (ji14))) else (none)) else (none)) = some r := by first | (rw [hji14] at H; exact H) | (simp only [hji14] at H ⊢; exact H)
      have hji14w : (IntKind.i64.wrap (a2 - 1)) = ji14 := (i64_w _).trans hji14
      by_cases c15 : 0 ≤ (ji14)
      ·rw [if_pos c15] at H
       have c15b0 : decide (0 ≤ (ji14)) = true := decide_eq_true c15
       clear c15
       by_cases c16 : (ji14) < (t112.length : Int)
       ·rw [if_pos c16] at H
        have c16b0 : decide ((ji14) < (t112.length : Int)) = true := decide_eq_true c16
        clear c16
        obtain rfl := Option.some.inj H
        obtain ⟨Ao17, co17, eo17⟩ := Kd.R_slice HO_7.out
        subst eo17
        have p115 : 0 ≤ ((ji14) : Int) := of_decide_eq_true (by first | (with_reducible assumption) | assumption)
        have q115 : (ji14) < (t112.length : Int) := of_decide_eq_true (by first | (with_reducible assumption) | assumption)
        obtain ⟨ad115, e115, hx115_0⟩ := Kd.at_int (Kd.R_reads' HO_7.out).2.2 (ji14) p115 q115
        cases e115
        replace p115 := eq_true p115
        replace q115 := eq_true q115
        go_wp2
        go_ret
        exact ⟨by first | rfl | (simp [errW_none, errW_some] <;> rfl) | (simp only [← hji14]; first | rfl | (simp [errW_none, errW_some] <;> rfl)) | (simp [*, errW_none, errW_some] <;> rfl), bel_⟩
       ·rw [if_neg c16] at H
        exact absurd H (by simp)
      ·rw [if_neg c15] at H
       exact absurd H (by simp)
     ·rw [if_neg c13] at H
      have c13b0 : decide (0 < a2) = false := decide_eq_false c13
      clear c13
      by_cases c18 : (wrap64 (-a2)) > (t112.length : Int)
      ·rw [if_pos c18] at H
       have c18b0 : decide ((t112.length : Int) < (wrap64 (-a2))) = true := decide_eq_true c18
       clear c18
       obtain rfl := Option.some.inj H
       obtain ⟨Ao19, co19, eo19⟩ := Kd.R_slice HO_7.out
       subst eo19
       go_wp2
       go_ret
       exact ⟨rsl_, bel_⟩
      ·rw [if_neg c18] at H
       have c18b0 : decide ((t112.length : Int) < (wrap64 (-a2))) = false := decide_eq_false c18
       clear c18
       obtain ⟨ji20, hji20⟩ : ∃ j_ : Int, (wrap64 ((t112.length : Int) + a2)) = j_ := ⟨_, rfl⟩
       replace H : (if 0 ≤ (ji20) then (if (ji20) < (t112.length : Int) then (some (rd t112 (ji20))) else (none)) else (none)) = some r := by first | (rw [hji20] at H; exact H) | (simp only [hji20] at H ⊢; exact H)
       have hji20w : (IntKind.i64.wrap ((t112.length : Int) + a2)) = ji20 := (i64_w _).trans hji20
       by_cases c21 : 0 ≤ (ji20)
       ·rw [if_pos c21] at H
        have c21b0 : decide (0 ≤ (ji20)) = true := decide_eq_true c21
        clear c21
        by_cases c22 : (ji20) < (t112.length : Int)
        ·rw [if_pos c22] at H
         have c22b0 : decide ((ji20) < (t112.length : Int)) = true := decide_eq_true c22
         clear c22
         obtain rfl := Option.some.inj H
         obtain ⟨Ao23, co23, eo23⟩ := Kd.R_slice HO_7.out
         subst eo23
         have p116 : 0 ≤ ((ji20) : Int) := of_decide_eq_true (by first | (with_reducible assumption) | assumption)
         have q116 : (ji20) < (t112.length : Int) := of_decide_eq_true (by first | (with_reducible assumption) | assumption)
         obtain ⟨ad116, e116, hx116_0⟩ := Kd.at_int (Kd.R_reads' HO_7.out).2.2 (ji20) p116 q116
         cases e116
         replace p116 := eq_true p116
         replace q116 := eq_true q116
         go_wp2
         go_ret
         exact ⟨by first | rfl | (simp [errW_none, errW_some] <;> rfl) | (simp only [← hji20]; first | rfl | (simp [errW_none, errW_some] <;> rfl)) | (simp [*, errW_none, errW_some] <;> rfl), bel_⟩
        ·rw [if_neg c22] at H
         exact absurd H (by simp)
       ·rw [if_neg c21] at H
        exact absurd H (by simp)

end Go.Proofs.Ytdjfdhnmbimkoaa.PRs
