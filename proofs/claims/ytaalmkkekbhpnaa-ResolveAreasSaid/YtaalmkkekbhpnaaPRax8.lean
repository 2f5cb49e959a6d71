-- Written by a program of this session (wip/p2) out of the translation; Lean checks it.
import Derived.Test.YtaalmkkekbhpnaaSq
import Derived.Test.YtaalmkkekbhpnaaPRax0
import Derived.Test.YtaalmkkekbhpnaaGfind
namespace Go.Proofs.Ytaalmkkekbhpnaa.PRa
open Go.RowKit Go.Proofs.YtaalmkkekbhpnaaW.PrintWords Go.Proofs.YtaalmkkekbhpnaaW.PrintLast Go.Proofs.YtaalmkkekbhpnaaW.PrintMore
attribute [local go_sem] max2_int min2_int max_two min_two max_three min_three max_four min_four   -- for this text's walks alone
set_option linter.unusedVariables false
set_option linter.unusedSimpArgs false
open Go.Proofs.Ytaalmkkekbhpnaa.Opn Go.Proofs.Ytaalmkkekbhpnaa.Giv

/-! ### names_Along: function 16 -/
mutual
def names_Along.j0 : Nat → List (List ByteArray) → ByteArray → Int → Int → Bool → Option (Int)
 | 0, _, _, _, _, _ => none
 | k + 1, x0, x1, x2, x3, x35 => if x35 = true then (some x2) else ((names_Find.f x0 x1).bind fun t155 => (if x3 > 0 then (names_Along.l0 k x0 x2 x3 t155 (t155.length : Int) 0) else (names_Along.l1 k x2 x3 t155 (wrap64 ((t155.length : Int) - 1)))))
def names_Along.l0 : Nat → List (List ByteArray) → Int → Int → List Int → Int → Int → Option (Int)
 | 0, _, _, _, _, _, _ => none
 | k + 1, x0, x2, x3, x42, x43, x44 => if x44 < x43 then (if 0 ≤ x44 then (if x44 < (x42.length : Int) then (if (rd x42 x44) ≤ x2 then (names_Along.l0 k x0 x2 x3 x42 x43 (wrap64 (x44 + 1))) else (if (wrap64 (x3 - 1)) = 0 then (some (rd x42 x44)) else (names_Along.l0 k x0 x2 (wrap64 (x3 - 1)) x42 x43 (wrap64 (x44 + 1))))) else (none)) else (none)) else (some (wrap64 ((mx x2 (wrap64 ((x0.length : Int) - 1))) + x3)))
def names_Along.l1 : Nat → Int → Int → List Int → Int → Option (Int)
 | 0, _, _, _, _ => none
 | k + 1, x2, x3, x9, x12 => if x12 ≥ 0 then (if 0 ≤ x12 then (if x12 < (x9.length : Int) then (if (rd x9 x12) ≥ x2 then (names_Along.l1 k x2 x3 x9 (wrap64 (x12 - 1))) else (if (wrap64 (x3 + 1)) = 0 then (some (rd x9 x12)) else (names_Along.l1 k x2 (wrap64 (x3 + 1)) x9 (wrap64 (x12 - 1))))) else (none)) else (none)) else (some (wrap64 ((mn x2 0) + x3)))
end
def names_Along.f (k : Nat) (l0 : List (List ByteArray)) (a1 : ByteArray) (a2 : Int) (a3 : Int) : Option (Int) := if a3 = 0 then (names_Along.j0 k l0 a1 a2 a3 true) else (if (l0.length : Int) = 0 then (names_Along.j0 k l0 a1 a2 a3 true) else (if a3 > 10000 then (names_Along.j0 k l0 a1 a2 a3 true) else (if a3 < (-10000) then (names_Along.j0 k l0 a1 a2 a3 true) else (if a2 > 30000 then (names_Along.j0 k l0 a1 a2 a3 true) else (names_Along.j0 k l0 a1 a2 a3 (decide (a2 < (-30000))))))))
theorem names_Along.mono_l : ∀ k, (∀ y0 y1 y2 y3 y4, LeO (names_Along.j0 k y0 y1 y2 y3 y4) (names_Along.j0 (k + 1) y0 y1 y2 y3 y4)) ∧ (∀ y0 y1 y2 y3 y4 y5, LeO (names_Along.l0 k y0 y1 y2 y3 y4 y5) (names_Along.l0 (k + 1) y0 y1 y2 y3 y4 y5)) ∧ (∀ y0 y1 y2 y3, LeO (names_Along.l1 k y0 y1 y2 y3) (names_Along.l1 (k + 1) y0 y1 y2 y3))
 | 0 => ⟨fun _ _ _ _ _ r h => by simp [names_Along.j0] at h, fun _ _ _ _ _ _ r h => by simp [names_Along.l0] at h, fun _ _ _ _ r h => by simp [names_Along.l1] at h⟩
 | k + 1 => by
  obtain ⟨ih0, ih1, ih2⟩ := names_Along.mono_l k
  refine ⟨?_, ?_, ?_⟩
  ·intro y0 y1 y2 y3 y4
   unfold names_Along.j0
   repeat' first
   | (with_reducible exact ih0 _ _ _ _ _)
   | (with_reducible exact ih1 _ _ _ _ _ _)
   | (with_reducible exact ih2 _ _ _ _)
   | (with_reducible exact LeO.refl _)
   | (with_reducible exact LeO.none _)
   | (with_reducible refine LeO.ite ?_ ?_)
   | (with_reducible refine LeO.bind ?_ (fun _ => ?_))
  ·intro y0 y1 y2 y3 y4 y5
   unfold names_Along.l0
   repeat' first
   | (with_reducible exact ih0 _ _ _ _ _)
   | (with_reducible exact ih1 _ _ _ _ _ _)
   | (with_reducible exact ih2 _ _ _ _)
   | (with_reducible exact LeO.refl _)
   | (with_reducible exact LeO.none _)
   | (with_reducible refine LeO.ite ?_ ?_)
   | (with_reducible refine LeO.bind ?_ (fun _ => ?_))
  ·intro y0 y1 y2 y3
   unfold names_Along.l1
   repeat' first
   | (with_reducible exact ih0 _ _ _ _ _)
   | (with_reducible exact ih1 _ _ _ _ _ _)
   | (with_reducible exact ih2 _ _ _ _)
   | (with_reducible exact LeO.refl _)
   | (with_reducible exact LeO.none _)
   | (with_reducible refine LeO.ite ?_ ?_)
   | (with_reducible refine LeO.bind ?_ (fun _ => ?_))
theorem names_Along.mono : ∀ a0 a1 a2 a3 k, LeO (names_Along.f k a0 a1 a2 a3) (names_Along.f (k + 1) a0 a1 a2 a3) := by
 intro a0 a1 a2 a3 k
 obtain ⟨ih0, ih1, ih2⟩ := names_Along.mono_l k
 unfold names_Along.f
 repeat' first
   | (with_reducible exact ih0 _ _ _ _ _)
   | (with_reducible exact ih1 _ _ _ _ _ _)
   | (with_reducible exact ih2 _ _ _ _)
   | (with_reducible exact LeO.refl _)
   | (with_reducible exact LeO.none _)
   | (with_reducible refine LeO.ite ?_ ?_)
   | (with_reducible refine LeO.bind ?_ (fun _ => ?_))
set_option maxHeartbeats 8000000 in
set_option maxRecDepth 100000 in
theorem names_Along.calls (k : Nat) (A0 : Option Addr) (c0 : Nat) (l0 : List (List ByteArray)) (a1 : ByteArray) (a2 : Int) (a3 : Int) (r : Int) (w : World) (hr0 : Kd.C (Kd.slice 9 Kd.string) w A0 l0.length l0) (hc0 : l0.length ≤ c0) (h : names_Along.f k l0 a1 a2 a3 = some r) :
  Calls Try.prog 16 #[.slice A0 l0.length c0, .string a1, .int .i64 a2, .int .i64 a3] w fun e w' => e = .returned (.int .i64 r) ∧ Below w.heap.size w w' := by
 have HR0 := Aside0.mk hr0
 have HC0 := Aside0.mk hc0
 clear hr0 hc0
 have HB := Aside0.mk (Below.refl w.heap.size w)
 have H : (if a3 = 0 then (names_Along.j0 k l0 a1 a2 a3 true) else (if (l0.length : Int) = 0 then (names_Along.j0 k l0 a1 a2 a3 true) else (if a3 > 10000 then (names_Along.j0 k l0 a1 a2 a3 true) else (if a3 < (-10000) then (names_Along.j0 k l0 a1 a2 a3 true) else (if a2 > 30000 then (names_Along.j0 k l0 a1 a2 a3 true) else (names_Along.j0 k l0 a1 a2 a3 (decide (a2 < (-30000))))))))) = some r := h
 clear h
 have HC5 := Aside0.mk H
 clear H
 go_enter Try.func16, Try.ntmps16
 go_upto_region 1 with (fail)
 go_cut [35] (fun v35 wc => ∃ (kq : Nat) (x35_4 : Bool), v35 = .bool x35_4 ∧ Aside0 (names_Along.j0 kq l0 a1 a2 a3 x35_4 = some r) ∧ Aside0 (kq ≤ k) ∧ Aside0 (Below w.heap.size w wc))
 case first =>
  have H := HC5.out
  clear HC5
  by_cases c6 : a3 = 0
  ·rw [if_pos c6] at H
   have c6b0 : (a3 == 0) = true := beq_iff_eq.mpr c6
   have c6b1 : (a3 != 0) = false := bne_eq_false_iff_eq.mpr c6
   clear c6
   (first | rw [c6b0] | (simp only [i64_w, i32_w]; rw [c6b0]) | skip)
   have H' := Aside0.mk H
   clear H
   go_wp2
   go_meet
   case rel => exact ⟨_, (true), rfs_, (by first | exact H' | (subst_vars; exact H')), ⟨ole_⟩, ⟨bel_⟩⟩
  ·rw [if_neg c6] at H
   have c6b0 : (a3 == 0) = false := beq_eq_false_iff_ne.mpr c6
   have c6b1 : (a3 != 0) = true := bne_iff_ne.mpr c6
   (first | rw [c6b0] | (simp only [i64_w, i32_w]; rw [c6b0]) | skip)
   by_cases c7 : (l0.length : Int) = 0
   ·rw [if_pos c7] at H
    have c7b0 : ((l0.length : Int) == 0) = true := beq_iff_eq.mpr c7
    have c7b1 : ((l0.length : Int) != 0) = false := bne_eq_false_iff_eq.mpr c7
    clear c7
    have H' := Aside0.mk H
    clear H
    go_wp2
    go_meet
    case rel => exact ⟨_, (true), rfs_, (by first | exact H' | (subst_vars; exact H')), ⟨ole_⟩, ⟨bel_⟩⟩
   ·rw [if_neg c7] at H
    have c7b0 : ((l0.length : Int) == 0) = false := beq_eq_false_iff_ne.mpr c7
    have c7b1 : ((l0.length : Int) != 0) = true := bne_iff_ne.mpr c7
    have c7b2 : ¬ (l0 = []) := fun h_ => c7 (by rw [h_]; rfl)
    by_cases c8 : a3 > 10000
    ·rw [if_pos c8] at H
     have c8b0 : decide (10000 < a3) = true := decide_eq_true c8
     clear c8
     have H' := Aside0.mk H
     clear H
     go_wp2
     go_meet
     case rel => exact ⟨_, (true), rfs_, (by first | exact H' | (subst_vars; exact H')), ⟨ole_⟩, ⟨bel_⟩⟩
    ·rw [if_neg c8] at H
     have c8b0 : decide (10000 < a3) = false := decide_eq_false c8
     clear c8
     by_cases c9 : a3 < (-10000)
     ·rw [if_pos c9] at H
      have c9b0 : decide (a3 < (-10000)) = true := decide_eq_true c9
      clear c9
      have H' := Aside0.mk H
      clear H
      go_wp2
      go_meet
      case rel => exact ⟨_, (true), rfs_, (by first | exact H' | (subst_vars; exact H')), ⟨ole_⟩, ⟨bel_⟩⟩
     ·rw [if_neg c9] at H
      have c9b0 : decide (a3 < (-10000)) = false := decide_eq_false c9
      clear c9
      by_cases c10 : a2 > 30000
      ·rw [if_pos c10] at H
       have c10b0 : decide (30000 < a2) = true := decide_eq_true c10
       clear c10
       have H' := Aside0.mk H
       clear H
       go_wp2
       go_meet
       case rel => exact ⟨_, (true), rfs_, (by first | exact H' | (subst_vars; exact H')), ⟨ole_⟩, ⟨bel_⟩⟩
      ·rw [if_neg c10] at H
       have c10b0 : decide (30000 < a2) = false := decide_eq_false c10
       clear c10
       have H' := Aside0.mk H
       clear H
       go_wp2
       go_meet
       case rel => exact ⟨_, (decide (a2 < (-30000))), rfs_, (by first | exact H' | (subst_vars; exact H')), ⟨ole_⟩, ⟨bel_⟩⟩
 case rest =>
  clear HC5
  try clear c1
  try clear p2
  try clear c6
  try clear c6b0
  try clear c6b1
  try clear c7
  try clear c7b0
  try clear c7b1
  try clear c7b2
  try clear c8
  try clear c8b0
  try clear c9
  try clear c9b0
  try clear c10
  try clear c10b0
  obtain ⟨kq, x35_4, rfl, HA, HJ4, HB⟩ := hcut
  cases kq with
  | zero => exact absurd HA.out (by simp [names_Along.j0])
  | succ kj4 =>
   have H := HA.out
   clear HA
   simp only [names_Along.j0] at H
   by_cases c11 : x35_4 = true
   ·subst c11
    rw [if_pos rfl] at H
    obtain rfl := Option.some.inj H
    go_wp2
    go_ret
    exact ⟨rsl_, bel_⟩
   ·replace c11 := Bool.eq_false_iff.mpr c11
    subst c11
    rw [if_neg (show ¬ (false = true) by decide)] at H
    replace H := Option.bind_eq_some_iff.mp H
    obtain ⟨t155, A120, H⟩ := H
    try dsimp only at H
    have A12 := Aside0.mk A120
    clear A120
    by_cases c13 : a3 > 0
    ·rw [if_pos c13] at H
     have c13b0 : decide (0 < a3) = true := decide_eq_true c13
     clear c13
     have H' := Aside0.mk H
     clear H
     go_wp2_with (first | ((with_reducible refine gate_callee (f := 26) rfl ?_); refine goesL_ (some 39) rfl rfl Try.func26 (by kernel_rfl) rfl #[.slice A0 l0.length c0, .string a1] rfl goa_ ?_; (with_reducible refine (names_Find.calls _ _ l0 a1 t155 _ ?side1 ?side2 A12.out).mono ?_); (case side1 => repeat (first | exact (Kd.C_below HR0.out HB.out) | (with_reducible refine Kd.C_alloc ?_ _) | (with_reducible refine Kd.C_drewN ?_ _) | (with_reducible refine Kd.C_drew ?_))); (case side2 => exact HC0.out); rintro e w14 ⟨v156, rfl, ho0, hb⟩; refine ⟨_, rfl, ?_⟩; have n0_ := Aside0.mk (Kd.R_lower ho0 (below_size bel_)); have n1_ := Aside0.mk (below_step bel_ hb); clear HB; have HO157 := n0_; have HB := n1_; clear n0_ n1_; (try clear hb); (try clear hb2); (try clear hk); (try clear hi); (try clear ho0); obtain ⟨Ao15, co15, eo15⟩ := Kd.R_slice HO157.out; subst eo15))
     go_loopg [3, 44] kj4 (fun kq v3 v44 w' => ∃ (x3_2 : Int) (x44_2 : Int), v3 = .int .i64 x3_2 ∧ v44 = .int .i64 x44_2 ∧ Aside0 (names_Along.l0 kq l0 a2 x3_2 t155 (t155.length : Int) x44_2 = some r) ∧ Aside0 (kq ≤ kj4) ∧ Aside0 (Kd.R (Kd.int .i64) 3 w' w.heap.size (fun _ => True) (.slice Ao15 t155.length co15) t155) ∧ Aside0 (Below w.heap.size w w'))
     case atStart => exact ⟨(a3), (0), rfs_, rfs_, H', ⟨Nat.le_refl _⟩, ⟨by (with_reducible repeat (first | apply Kd.R_alloc | apply Kd.R_drewN | apply Kd.R_drew)); exact HO157.out⟩, ⟨bel_⟩⟩
     case round =>
      clear H'
      try clear c1
      try clear c2
      try clear p2
      try clear c6
      try clear c6b0
      try clear c6b1
      try clear p6
      try clear c7
      try clear c7b0
      try clear c7b1
      try clear c7b2
      try clear c8
      try clear c8b0
      try clear c9
      try clear c9b0
      try clear c10
      try clear c10b0
      try clear c11
      try clear c13
      try clear c13b0
      try clear p2
      obtain ⟨x3_2, x44_2, rfl, rfl, HA, HK2, HO_42, HB⟩ := hrel
      cases gk with
      | zero => exact absurd HA.out (by simp [names_Along.l0])
      | succ k2 =>
       have H := HA.out
       clear HA
       simp only [names_Along.l0] at H
       by_cases c16 : x44_2 < (t155.length : Int)
       ·rw [if_pos c16] at H
        have c16b0 : decide (x44_2 < (t155.length : Int)) = true := decide_eq_true c16
        clear c16
        by_cases c17 : 0 ≤ x44_2
        ·rw [if_pos c17] at H
         have c17b0 : decide (0 ≤ x44_2) = true := decide_eq_true c17
         clear c17
         by_cases c18 : x44_2 < (t155.length : Int)
         ·rw [if_pos c18] at H
          have c18b0 : decide (x44_2 < (t155.length : Int)) = true := decide_eq_true c18
          clear c18
          by_cases c19 : (rd t155 x44_2) ≤ a2
          ·rw [if_pos c19] at H
           have c19b0 : decide ((rd t155 x44_2) ≤ a2) = true := decide_eq_true c19
           clear c19
           have H' := Aside0.mk H
           clear H
           have p158 : 0 ≤ (x44_2 : Int) := of_decide_eq_true (by first | (with_reducible assumption) | assumption)
           have q158 : x44_2 < (t155.length : Int) := of_decide_eq_true (by first | (with_reducible assumption) | assumption)
           obtain ⟨ad158, e158, hx158_0⟩ := Kd.at_int (Kd.R_reads' HO_42.out).2.2 x44_2 p158 q158
           cases e158
           replace p158 := eq_true p158
           replace q158 := eq_true q158
           go_wp2
           go_roundg k2
           case measure => have := HJ4.out; have := HK2.out; omega
           case rel => exact ⟨(x3_2), (wrap64 (x44_2 + 1)), rfs_, rfs_, H', ⟨by have := HJ4.out; have := HK2.out; omega⟩, ⟨by (with_reducible repeat (first | apply Kd.R_alloc | apply Kd.R_drewN | apply Kd.R_drew)); exact HO_42.out⟩, ⟨bel_⟩⟩
          ·rw [if_neg c19] at H
           have c19b0 : decide ((rd t155 x44_2) ≤ a2) = false := decide_eq_false c19
           clear c19
           by_cases c20 : (wrap64 (x3_2 - 1)) = 0
           ·rw [if_pos c20] at H
            have c20b0 : ((wrap64 (x3_2 - 1)) == 0) = true := beq_iff_eq.mpr c20
            have c20b1 : ((wrap64 (x3_2 - 1)) != 0) = false := bne_eq_false_iff_eq.mpr c20
            clear c20
            obtain rfl := Option.some.inj H
            have p158 : 0 ≤ (x44_2 : Int) := of_decide_eq_true (by first | (with_reducible assumption) | assumption)
            have q158 : x44_2 < (t155.length : Int) := of_decide_eq_true (by first | (with_reducible assumption) | assumption)
            obtain ⟨ad158, e158, hx158_0⟩ := Kd.at_int (Kd.R_reads' HO_42.out).2.2 x44_2 p158 q158
            cases e158
            replace p158 := eq_true p158
            replace q158 := eq_true q158
            go_wp2
            go_ret
            exact ⟨rsl_, bel_⟩
           ·rw [if_neg c20] at H
            have c20b0 : ((wrap64 (x3_2 - 1)) == 0) = false := beq_eq_false_iff_ne.mpr c20
            have c20b1 : ((wrap64 (x3_2 - 1)) != 0) = true := bne_iff_ne.mpr c20
            have H' := Aside0.mk H
            clear H
            have p158 : 0 ≤ (x44_2 : Int) := of_decide_eq_true (by first | (with_reducible assumption) | assumption)
            have q158 : x44_2 < (t155.length : Int) := of_decide_eq_true (by first | (with_reducible assumption) | assumption)
            obtain ⟨ad158, e158, hx158_0⟩ := Kd.at_int (Kd.R_reads' HO_42.out).2.2 x44_2 p158 q158
            cases e158
            replace p158 := eq_true p158
            replace q158 := eq_true q158
            go_wp2
            go_roundg k2
            case measure => have := HJ4.out; have := HK2.out; omega
            case rel => exact ⟨(wrap64 (x3_2 - 1)), (wrap64 (x44_2 + 1)), rfs_, rfs_, H', ⟨by have := HJ4.out; have := HK2.out; omega⟩, ⟨by (with_reducible repeat (first | apply Kd.R_alloc | apply Kd.R_drewN | apply Kd.R_drew)); exact HO_42.out⟩, ⟨bel_⟩⟩
         ·rw [if_neg c18] at H
          exact absurd H (by simp)
        ·rw [if_neg c17] at H
         exact absurd H (by simp)
       ·rw [if_neg c16] at H
        have c16b0 : decide (x44_2 < (t155.length : Int)) = false := decide_eq_false c16
        clear c16
        obtain ⟨ji21, hji21⟩ : ∃ j_ : Int, (mx a2 (wrap64 ((l0.length : Int) - 1))) = j_ := ⟨_, rfl⟩
        replace H : (some (wrap64 ((ji21) + x3_2))) = some r := by first | (rw [hji21] at H; exact H) | (simp only [hji21] at H ⊢; exact H)
        have hji21_ : (if a2 < (wrap64 ((l0.length : Int) - 1)) then (wrap64 ((l0.length : Int) - 1)) else a2) = ji21 := hji21
        obtain rfl := Option.some.inj H
        go_wp2
        go_ret
        exact ⟨by first | rfl | (simp [errW_none, errW_some] <;> rfl) | (simp only [← hji21]; first | rfl | (simp [errW_none, errW_some] <;> rfl)) | (simp [*, errW_none, errW_some] <;> rfl), bel_⟩
    ·rw [if_neg c13] at H
     have c13b0 : decide (0 < a3) = false := decide_eq_false c13
     clear c13
     have H' := Aside0.mk H
     clear H
     go_wp2_with (first | ((with_reducible refine gate_callee (f := 26) rfl ?_); refine goesL_ (some 39) rfl rfl Try.func26 (by kernel_rfl) rfl #[.slice A0 l0.length c0, .string a1] rfl goa_ ?_; (with_reducible refine (names_Find.calls _ _ l0 a1 t155 _ ?side1 ?side2 A12.out).mono ?_); (case side1 => repeat (first | exact (Kd.C_below HR0.out HB.out) | (with_reducible refine Kd.C_alloc ?_ _) | (with_reducible refine Kd.C_drewN ?_ _) | (with_reducible refine Kd.C_drew ?_))); (case side2 => exact HC0.out); rintro e w22 ⟨v156, rfl, ho0, hb⟩; refine ⟨_, rfl, ?_⟩; have n0_ := Aside0.mk (Kd.R_lower ho0 (below_size bel_)); have n1_ := Aside0.mk (below_step bel_ hb); clear HB; have HO157 := n0_; have HB := n1_; clear n0_ n1_; (try clear hb); (try clear hb2); (try clear hk); (try clear hi); (try clear ho0); obtain ⟨Ao23, co23, eo23⟩ := Kd.R_slice HO157.out; subst eo23))
     go_loopg [3, 12] kj4 (fun kq v3 v12 w' => ∃ (x3_2 : Int) (x12_2 : Int), v3 = .int .i64 x3_2 ∧ v12 = .int .i64 x12_2 ∧ Aside0 (names_Along.l1 kq a2 x3_2 t155 x12_2 = some r) ∧ Aside0 (kq ≤ kj4) ∧ Aside0 (Kd.R (Kd.int .i64) 3 w' w.heap.size (fun _ => True) (.slice Ao23 t155.length co23) t155) ∧ Aside0 (Below w.heap.size w w'))
     case atStart => exact ⟨(a3), (wrap64 ((t155.length : Int) - 1)), rfs_, rfs_, H', ⟨Nat.le_refl _⟩, ⟨by (with_reducible repeat (first | apply Kd.R_alloc | apply Kd.R_drewN | apply Kd.R_drew)); exact HO157.out⟩, ⟨bel_⟩⟩
     case round =>
      clear H'
      try clear c1
      try clear p1
      try clear q1
      try clear hx1
      try clear c2
      try clear p2
      try clear c6
      try clear c6b0
      try clear c6b1
      try clear p6
      try clear c7
      try clear c7b0
      try clear c7b1
      try clear c7b2
      try clear c8
      try clear c8b0
      try clear c9
      try clear c9b0
      try clear c10
      try clear c10b0
      try clear c11
      try clear c13
      try clear c13b0
      try clear p15
      try clear q15
      try clear hx15
      try clear c16
      try clear c16b0
      try clear c17
      try clear c17b0
      try clear c18
      try clear c18b0
      try clear c19
      try clear c19b0
      try clear c20
      try clear c20b0
      try clear c20b1
      try clear hx158_0
      try clear p158
      try clear p2
      try clear p6
      try clear q158
      obtain ⟨x3_2, x12_2, rfl, rfl, HA, HK2, HO_9, HB⟩ := hrel
      cases gk with
      | zero => exact absurd HA.out (by simp [names_Along.l1])
      | succ k2 =>
       have H := HA.out
       clear HA
       simp only [names_Along.l1] at H
       by_cases c24 : x12_2 ≥ 0
       ·rw [if_pos c24] at H
        have c24b0 : decide (0 ≤ x12_2) = true := decide_eq_true c24
        clear c24
        by_cases c25 : 0 ≤ x12_2
        ·rw [if_pos c25] at H
         have c25b0 : decide (0 ≤ x12_2) = true := decide_eq_true c25
         clear c25
         by_cases c26 : x12_2 < (t155.length : Int)
         ·rw [if_pos c26] at H
          have c26b0 : decide (x12_2 < (t155.length : Int)) = true := decide_eq_true c26
          clear c26
          by_cases c27 : (rd t155 x12_2) ≥ a2
          ·rw [if_pos c27] at H
           have c27b0 : decide (a2 ≤ (rd t155 x12_2)) = true := decide_eq_true c27
           clear c27
           have H' := Aside0.mk H
           clear H
           have p159 : 0 ≤ (x12_2 : Int) := of_decide_eq_true (by first | (with_reducible assumption) | assumption)
           have q159 : x12_2 < (t155.length : Int) := of_decide_eq_true (by first | (with_reducible assumption) | assumption)
           obtain ⟨ad159, e159, hx159_0⟩ := Kd.at_int (Kd.R_reads' HO_9.out).2.2 x12_2 p159 q159
           cases e159
           replace p159 := eq_true p159
           replace q159 := eq_true q159
           go_wp2
           go_roundg k2
           case measure => have := HJ4.out; have := HK2.out; omega
           case rel => exact ⟨(x3_2), (wrap64 (x12_2 - 1)), rfs_, rfs_, H', ⟨by have := HJ4.out; have := HK2.out; omega⟩, ⟨by (with_reducible repeat (first | apply Kd.R_alloc | apply Kd.R_drewN | apply Kd.R_drew)); exact HO_9.out⟩, ⟨bel_⟩⟩
          ·rw [if_neg c27] at H
           have c27b0 : decide (a2 ≤ (rd t155 x12_2)) = false := decide_eq_false c27
           clear c27
           by_cases c28 : (wrap64 (x3_2 + 1)) = 0
           ·rw [if_pos c28] at H
            have c28b0 : ((wrap64 (x3_2 + 1)) == 0) = true := beq_iff_eq.mpr c28
            have c28b1 : ((wrap64 (x3_2 + 1)) != 0) = false := bne_eq_false_iff_eq.mpr c28
            clear c28
            obtain rfl := Option.some.inj H
            have p159 : 0 ≤ (x12_2 : Int) := of_decide_eq_true (by first | (with_reducible assumption) | assumption)
            have q159 : x12_2 < (t155.length : Int) := of_decide_eq_true (by first | (with_reducible assumption) | assumption)
            obtain ⟨ad159, e159, hx159_0⟩ := Kd.at_int (Kd.R_reads' HO_9.out).2.2 x12_2 p159 q159
            cases e159
            replace p159 := eq_true p159
            replace q159 := eq_true q159
            have p160 : 0 ≤ (x12_2 : Int) := of_decide_eq_true (by first | (with_reducible assumption) | assumption)
            have q160 : x12_2 < (t155.length : Int) := of_decide_eq_true (by first | (with_reducible assumption) | assumption)
            obtain ⟨ad160, e160, hx160_0⟩ := Kd.at_int (Kd.R_reads' HO_9.out).2.2 x12_2 p160 q160
            obtain rfl : ad159 = ad160 := (by injection e160)
            replace p160 := eq_true p160
            replace q160 := eq_true q160
            go_wp2
            go_ret
            exact ⟨rsl_, bel_⟩
           ·rw [if_neg c28] at H
            have c28b0 : ((wrap64 (x3_2 + 1)) == 0) = false := beq_eq_false_iff_ne.mpr c28
            have c28b1 : ((wrap64 (x3_2 + 1)) != 0) = true := bne_iff_ne.mpr c28
            have H' := Aside0.mk H
            clear H
            have p159 : 0 ≤ (x12_2 : Int) := of_decide_eq_true (by first | (with_reducible assumption) | assumption)
            have q159 : x12_2 < (t155.length : Int) := of_decide_eq_true (by first | (with_reducible assumption) | assumption)
            obtain ⟨ad159, e159, hx159_0⟩ := Kd.at_int (Kd.R_reads' HO_9.out).2.2 x12_2 p159 q159
            cases e159
            replace p159 := eq_true p159
            replace q159 := eq_true q159
            go_wp2
            go_roundg k2
            case measure => have := HJ4.out; have := HK2.out; omega
            case rel => exact ⟨(wrap64 (x3_2 + 1)), (wrap64 (x12_2 - 1)), rfs_, rfs_, H', ⟨by have := HJ4.out; have := HK2.out; omega⟩, ⟨by (with_reducible repeat (first | apply Kd.R_alloc | apply Kd.R_drewN | apply Kd.R_drew)); exact HO_9.out⟩, ⟨bel_⟩⟩
         ·rw [if_neg c26] at H
          exact absurd H (by simp)
        ·rw [if_neg c25] at H
         exact absurd H (by simp)
       ·rw [if_neg c24] at H
        have c24b0 : decide (0 ≤ x12_2) = false := decide_eq_false c24
        clear c24
        obtain ⟨ji29, hji29⟩ : ∃ j_ : Int, (mn a2 0) = j_ := ⟨_, rfl⟩
        replace H : (some (wrap64 ((ji29) + x3_2))) = some r := by first | (rw [hji29] at H; exact H) | (simp only [hji29] at H ⊢; exact H)
        have hji29_ : (if 0 < a2 then 0 else a2) = ji29 := hji29
        obtain rfl := Option.some.inj H
        go_wp2
        go_ret
        exact ⟨by first | rfl | (simp [errW_none, errW_some] <;> rfl) | (simp only [← hji29]; first | rfl | (simp [errW_none, errW_some] <;> rfl)) | (simp [*, errW_none, errW_some] <;> rfl), bel_⟩

/-! ### resolve_far: function 24 -/
def resolve_far.f (k : Nat) (l0 : List (List ByteArray)) (a1 : Int) (a2_0 : Int) (a2_1 : Int) (a2_2 : ByteArray) (a3 : Int) : Option (Int) := if a2_0 = 4 then (if a2_2.toList = ([] : List UInt8) then (some (wrap64 (a1 + (wrap64 (a3 * a2_1))))) else ((names_Along.f k l0 a2_2 a1 (wrap64 (a3 * a2_1))).bind fun t162 => (some t162))) else (some (wrap64 (a1 + a3)))
theorem resolve_far.mono : ∀ a0 a1 a2 a3 a4 a5 k, LeO (resolve_far.f k a0 a1 a2 a3 a4 a5) (resolve_far.f (k + 1) a0 a1 a2 a3 a4 a5) := by
 intro a0 a1 a2 a3 a4 a5 k
 unfold resolve_far.f
 repeat' first
   | (with_reducible exact names_Along.mono _ _ _ _ _)
   | (with_reducible exact LeO.refl _)
   | (with_reducible exact LeO.none _)
   | (with_reducible refine LeO.ite ?_ ?_)
   | (with_reducible refine LeO.bind ?_ (fun _ => ?_))
set_option maxHeartbeats 8000000 in
set_option maxRecDepth 100000 in
theorem resolve_far.calls (k : Nat) (A0 : Option Addr) (c0 : Nat) (l0 : List (List ByteArray)) (a1 : Int) (a2_0 : Int) (a2_1 : Int) (a2_2 : ByteArray) (a3 : Int) (r : Int) (w : World) (hr0 : Kd.C (Kd.slice 9 Kd.string) w A0 l0.length l0) (hc0 : l0.length ≤ c0) (h : resolve_far.f k l0 a1 a2_0 a2_1 a2_2 a3 = some r) :
  Calls Try.prog 24 #[.slice A0 l0.length c0, .int .i64 a1, .agg #[.int .i64 a2_0, .int .i64 a2_1, .string a2_2], .int .i64 a3] w fun e w' => e = .returned (.int .i64 r) ∧ Below w.heap.size w w' := by
 have hu34 := Try.underlying34
 have HR0 := Aside0.mk hr0
 have HC0 := Aside0.mk hc0
 clear hr0 hc0
 have HB := Aside0.mk (Below.refl w.heap.size w)
 have H : (if a2_0 = 4 then (if a2_2.toList = ([] : List UInt8) then (some (wrap64 (a1 + (wrap64 (a3 * a2_1))))) else ((names_Along.f k l0 a2_2 a1 (wrap64 (a3 * a2_1))).bind fun t162 => (some t162))) else (some (wrap64 (a1 + a3)))) = some r := h
 clear h
 by_cases c5 : a2_0 = 4
 ·rw [if_pos c5] at H
  have c5b0 : (a2_0 == 4) = true := beq_iff_eq.mpr c5
  have c5b1 : (a2_0 != 4) = false := bne_eq_false_iff_eq.mpr c5
  clear c5
  by_cases c6 : a2_2.toList = ([] : List UInt8)
  ·rw [if_pos c6] at H
   have c6b0 : (a2_2.toList == ([] : List UInt8)) = true := beq_iff_eq.mpr c6
   have c6b1 : (a2_2.toList != ([] : List UInt8)) = false := bne_eq_false_iff_eq.mpr c6
   clear c6
   obtain rfl := Option.some.inj H
   go_enter Try.func24, Try.ntmps24
   go_wp2_with (first | ((with_reducible refine gate_dst (N := 6) rfl ?_); refine box_event ?hg (N := 6) ?hd (cs := #[.int .i64 a2_0, .int .i64 a2_1, .string a2_2]) (t := 34) ?hr ?_; (case hd => rfl); (case hg => rfl); (case hr => first | (go_simp; done) | (go_simp; rfl)); intro gb161 hg w7 hbox hb; have n0_ := Aside0.mk (below_step bel_ hb); have n1_ := Aside0.mk (hbox); have n2_ := Aside0.mk ((bsz_ hg : w.heap.size ≤ gb161)); have n3_ := Aside0.mk ((bsz_ hg : w.heap.size ≤ gb161)); clear HB; have HB := n0_; have BK161 := n1_; have GW161 := n2_; have GE161 := n3_; clear n0_ n1_ n2_ n3_; clear hb hbox hg; have hcz8_0 : w7.cell? ⟨gb161, 0, none⟩ = some (.int .i64 a2_0) := (blk_cell BK161.out 0).trans rfl; have hcz8_1 : w7.cell? ⟨gb161, 1, none⟩ = some (.int .i64 a2_1) := (blk_cell BK161.out 1).trans rfl; have hcz8_2 : w7.cell? ⟨gb161, 2, none⟩ = some (.string a2_2) := (blk_cell BK161.out 2).trans rfl; have hfz8_0 := blk_frozen BK161.out 0; have hfz8_1 := blk_frozen BK161.out 1; have hfz8_2 := blk_frozen BK161.out 2))
   go_ret
   exact ⟨rsl_, bel_⟩
  ·rw [if_neg c6] at H
   have c6b0 : (a2_2.toList == ([] : List UInt8)) = false := beq_eq_false_iff_ne.mpr c6
   have c6b1 : (a2_2.toList != ([] : List UInt8)) = true := bne_iff_ne.mpr c6
   replace H := Option.bind_eq_some_iff.mp H
   obtain ⟨t162, A90, H⟩ := H
   try dsimp only at H
   have A9 := Aside0.mk A90
   clear A90
   obtain rfl := Option.some.inj H
   go_enter Try.func24, Try.ntmps24
   go_wp2_with (first | ((with_reducible refine gate_dst (N := 6) rfl ?_); refine box_event ?hg (N := 6) ?hd (cs := #[.int .i64 a2_0, .int .i64 a2_1, .string a2_2]) (t := 34) ?hr ?_; (case hd => rfl); (case hg => rfl); (case hr => first | (go_simp; done) | (go_simp; rfl)); intro gb161 hg w10 hbox hb; have n0_ := Aside0.mk (below_step bel_ hb); have n1_ := Aside0.mk (hbox); have n2_ := Aside0.mk ((bsz_ hg : w.heap.size ≤ gb161)); have n3_ := Aside0.mk ((bsz_ hg : w.heap.size ≤ gb161)); clear HB; have HB := n0_; have BK161 := n1_; have GW161 := n2_; have GE161 := n3_; clear n0_ n1_ n2_ n3_; clear hb hbox hg; have hcz11_0 : w10.cell? ⟨gb161, 0, none⟩ = some (.int .i64 a2_0) := (blk_cell BK161.out 0).trans rfl; have hcz11_1 : w10.cell? ⟨gb161, 1, none⟩ = some (.int .i64 a2_1) := (blk_cell BK161.out 1).trans rfl; have hcz11_2 : w10.cell? ⟨gb161, 2, none⟩ = some (.string a2_2) := (blk_cell BK161.out 2).trans rfl; have hfz11_0 := blk_frozen BK161.out 0; have hfz11_1 := blk_frozen BK161.out 1; have hfz11_2 := blk_frozen BK161.out 2) | ((with_reducible refine gate_callee (f := 16) rfl ?_); refine goesL_ (some 28) rfl rfl Try.func16 (by kernel_rfl) rfl #[.slice A0 l0.length c0, .string a2_2, .int .i64 a1, .int .i64 (wrap64 (a3 * a2_1))] rfl goa_ ?_; (with_reducible refine (names_Along.calls k _ _ l0 a2_2 a1 (wrap64 (a3 * a2_1)) t162 _ ?side1 ?side2 A9.out).mono ?_); (case side1 => repeat (first | exact (Kd.C_below HR0.out HB.out) | (with_reducible refine Kd.C_alloc ?_ _) | (with_reducible refine Kd.C_drewN ?_ _) | (with_reducible refine Kd.C_drew ?_))); (case side2 => exact HC0.out); rintro e w12 ⟨rfl, hb⟩; refine ⟨_, rfl, ?_⟩; have n0_ := blb_ BK161 hb; have n1_ := Aside0.mk (below_step bel_ hb); clear BK161; clear HB; have BK161 := n0_; have HB := n1_; clear n0_ n1_; clear hb))
   go_ret
   exact ⟨rsl_, bel_⟩
 ·rw [if_neg c5] at H
  have c5b0 : (a2_0 == 4) = false := beq_eq_false_iff_ne.mpr c5
  have c5b1 : (a2_0 != 4) = true := bne_iff_ne.mpr c5
  obtain rfl := Option.some.inj H
  go_enter Try.func24, Try.ntmps24
  go_wp2_with (first | ((with_reducible refine gate_dst (N := 6) rfl ?_); refine box_event ?hg (N := 6) ?hd (cs := #[.int .i64 a2_0, .int .i64 a2_1, .string a2_2]) (t := 34) ?hr ?_; (case hd => rfl); (case hg => rfl); (case hr => first | (go_simp; done) | (go_simp; rfl)); intro gb161 hg w13 hbox hb; have n0_ := Aside0.mk (below_step bel_ hb); have n1_ := Aside0.mk (hbox); have n2_ := Aside0.mk ((bsz_ hg : w.heap.size ≤ gb161)); have n3_ := Aside0.mk ((bsz_ hg : w.heap.size ≤ gb161)); clear HB; have HB := n0_; have BK161 := n1_; have GW161 := n2_; have GE161 := n3_; clear n0_ n1_ n2_ n3_; clear hb hbox hg; have hcz14_0 : w13.cell? ⟨gb161, 0, none⟩ = some (.int .i64 a2_0) := (blk_cell BK161.out 0).trans rfl; have hcz14_1 : w13.cell? ⟨gb161, 1, none⟩ = some (.int .i64 a2_1) := (blk_cell BK161.out 1).trans rfl; have hcz14_2 : w13.cell? ⟨gb161, 2, none⟩ = some (.string a2_2) := (blk_cell BK161.out 2).trans rfl; have hfz14_0 := blk_frozen BK161.out 0; have hfz14_1 := blk_frozen BK161.out 1; have hfz14_2 := blk_frozen BK161.out 2))
  go_ret
  exact ⟨rsl_, bel_⟩

/-! ### resolve_Clamp: function 25 -/
def resolve_Clamp.f (a0 : Int) (a1 : Int) : Option (Int × Int) := if a0 ≥ a1 then (some (0, 1)) else (if a0 ≥ 10000 then (some (9999, 10000)) else (if a1 ≤ (-10000) then (some ((-10000), (-9999))) else (some (mx a0 (-10000), mn a1 10000))))
set_option maxHeartbeats 8000000 in
set_option maxRecDepth 100000 in
theorem resolve_Clamp.calls (a0 : Int) (a1 : Int) (r1 : Int) (r2 : Int) (w : World) (h : resolve_Clamp.f a0 a1 = some (r1, r2)) :
  Calls Try.prog 25 #[.int .i64 a0, .int .i64 a1] w fun e w' => e = .returned (.tuple #[.int .i64 r1, .int .i64 r2]) ∧ Below w.heap.size w w' := by
 have HB := Aside0.mk (Below.refl w.heap.size w)
 have H : (if a0 ≥ a1 then (some (0, 1)) else (if a0 ≥ 10000 then (some (9999, 10000)) else (if a1 ≤ (-10000) then (some ((-10000), (-9999))) else (some (mx a0 (-10000), mn a1 10000))))) = some (r1, r2) := h
 clear h
 by_cases c3 : a0 ≥ a1
 ·rw [if_pos c3] at H
  have c3b0 : decide (a1 ≤ a0) = true := decide_eq_true c3
  clear c3
  simp only [Option.some.injEq, Prod.mk.injEq] at H
  obtain ⟨rfl, rfl⟩ := H
  go_enter Try.func25, Try.ntmps25
  go_wp2
  go_ret2
  exact ⟨rsl_, bel_⟩
 ·rw [if_neg c3] at H
  have c3b0 : decide (a1 ≤ a0) = false := decide_eq_false c3
  clear c3
  by_cases c4 : a0 ≥ 10000
  ·rw [if_pos c4] at H
   have c4b0 : decide (10000 ≤ a0) = true := decide_eq_true c4
   clear c4
   simp only [Option.some.injEq, Prod.mk.injEq] at H
   obtain ⟨rfl, rfl⟩ := H
   go_enter Try.func25, Try.ntmps25
   go_wp2
   go_ret2
   exact ⟨rsl_, bel_⟩
  ·rw [if_neg c4] at H
   have c4b0 : decide (10000 ≤ a0) = false := decide_eq_false c4
   clear c4
   by_cases c5 : a1 ≤ (-10000)
   ·rw [if_pos c5] at H
    have c5b0 : decide (a1 ≤ (-10000)) = true := decide_eq_true c5
    clear c5
    simp only [Option.some.injEq, Prod.mk.injEq] at H
    obtain ⟨rfl, rfl⟩ := H
    go_enter Try.func25, Try.ntmps25
    go_wp2
    go_ret2
    exact ⟨rsl_, bel_⟩
   ·rw [if_neg c5] at H
    have c5b0 : decide (a1 ≤ (-10000)) = false := decide_eq_false c5
    clear c5
    obtain ⟨ji6, hji6⟩ : ∃ j_ : Int, (mx a0 (-10000)) = j_ := ⟨_, rfl⟩
    replace H : (some (ji6, mn a1 10000)) = some (r1, r2) := by first | (rw [hji6] at H; exact H) | (simp only [hji6] at H ⊢; exact H)
    have hji6_ : (if a0 < (-10000) then (-10000) else a0) = ji6 := hji6
    obtain ⟨ji7, hji7⟩ : ∃ j_ : Int, (mn a1 10000) = j_ := ⟨_, rfl⟩
    replace H : (some (ji6, ji7)) = some (r1, r2) := by first | (rw [hji7] at H; exact H) | (simp only [hji7] at H ⊢; exact H)
    (try (have hji7h : ji7 ≤ 10000 := by (rw [← hji7]; unfold mn; (repeat' split) <;> omega)))
    (try (have hji7g : ji7 ≤ 64 := by omega))
    have hji7_ : (if 10000 < a1 then 10000 else a1) = ji7 := hji7
    simp only [Option.some.injEq, Prod.mk.injEq] at H
    obtain ⟨rfl, rfl⟩ := H
    go_enter Try.func25, Try.ntmps25
    go_wp2
    go_ret2
    exact ⟨by first | rfl | (simp [errW_none, errW_some] <;> rfl) | (simp only [← hji6, ← hji7]; first | rfl | (simp [errW_none, errW_some] <;> rfl)) | (simp [*, errW_none, errW_some] <;> rfl), bel_⟩

end Go.Proofs.Ytaalmkkekbhpnaa.PRa
