-- Written by a program of this session (wip/p2) out of the translation; Lean checks it.
import Derived.Test.YtaalmkkekbhpnaaSq
import Derived.Test.YtaalmkkekbhpnaaPRax0
import Derived.Test.YtaalmkkekbhpnaaPRax2
import Derived.Test.YtaalmkkekbhpnaaPRax3
import Derived.Test.YtaalmkkekbhpnaaPRax5
import Derived.Test.YtaalmkkekbhpnaaPRax6
import Derived.Test.YtaalmkkekbhpnaaPRax9
import Derived.Test.YtaalmkkekbhpnaaPRax10
import Derived.Test.YtaalmkkekbhpnaaArBoxes
namespace Go.Proofs.Ytaalmkkekbhpnaa.PRa
open Go.RowKit Go.Proofs.YtaalmkkekbhpnaaW.PrintWords Go.Proofs.YtaalmkkekbhpnaaW.PrintLast Go.Proofs.YtaalmkkekbhpnaaW.PrintMore
attribute [local go_sem] max2_int min2_int max_two min_two max_three min_three max_four min_four   -- for this text's walks alone
set_option linter.unusedVariables false
set_option linter.unusedSimpArgs false
open Go.Proofs.Ytaalmkkekbhpnaa.Opn Go.Proofs.Ytaalmkkekbhpnaa.Giv

attribute [local go_sem high] eqA37
/-! ### area_Rects: function 12 -/
def area_Rects.f (k : Nat) (l0 : List (List ByteArray)) : Option ((List (S32))) := (area_Good.f k l0).bind fun t218 => (if t218 = true then ((area_boxes.f k l0).bind fun bt219 => (some bt219.1)) else (some ([] : List (S32))))
theorem area_Rects.mono : ∀ a0 k, LeO (area_Rects.f k a0) (area_Rects.f (k + 1) a0) := by
 intro a0 k
 unfold area_Rects.f
 repeat' first
   | (with_reducible exact area_Good.mono _ _)
   | (with_reducible exact area_boxes.mono _ _)
   | (with_reducible exact LeO.refl _)
   | (with_reducible exact LeO.none _)
   | (with_reducible refine LeO.ite ?_ ?_)
   | (with_reducible refine LeO.bind ?_ (fun _ => ?_))
set_option maxHeartbeats 8000000 in
set_option maxRecDepth 100000 in
theorem area_Rects.calls (k : Nat) (A0 : Option Addr) (c0 : Nat) (l0 : List (List ByteArray)) (r : List (S32)) (w : World) (hr0 : Kd.C (Kd.slice 9 Kd.string) w A0 l0.length l0) (hc0 : l0.length ≤ c0) (h : area_Rects.f k l0 = some r) :
  Calls Try.prog 12 #[.slice A0 l0.length c0] w fun e w' => ∃ v0_ : Value, e = .returned (v0_) ∧ Kd.R k32 32 w' w.heap.size (fun _ => True) v0_ r ∧ Below w.heap.size w w' := by
 have HR0 := Aside0.mk hr0
 have HC0 := Aside0.mk hc0
 clear hr0 hc0
 have HB := Aside0.mk (Below.refl w.heap.size w)
 have H : ((area_Good.f k l0).bind fun t218 => (if t218 = true then ((area_boxes.f k l0).bind fun bt219 => (some bt219.1)) else (some ([] : List (S32))))) = some r := h
 clear h
 replace H := Option.bind_eq_some_iff.mp H
 obtain ⟨t218, A20, H⟩ := H
 try dsimp only at H
 have A2 := Aside0.mk A20
 clear A20
 by_cases c3 : t218 = true
 ·subst c3
  rw [if_pos rfl] at H
  replace H := Option.bind_eq_some_iff.mp H
  obtain ⟨⟨t219, t220⟩, A40, H⟩ := H
  try dsimp only at H
  have A4 := Aside0.mk A40
  clear A40
  obtain rfl := Option.some.inj H
  go_enter Try.func12, Try.ntmps12
  go_wp2_with (first | ((with_reducible refine gate_callee (f := 10) rfl ?_); refine goesL_ (some 6) rfl rfl Try.func10 (by kernel_rfl) rfl #[.slice A0 l0.length c0] rfl goa_ ?_; (with_reducible refine (area_Good.calls k _ _ l0 true _ ?side1 ?side2 A2.out).mono ?_); (case side1 => repeat (first | exact HR0.out | (with_reducible refine Kd.C_alloc ?_ _) | (with_reducible refine Kd.C_drewN ?_ _) | (with_reducible refine Kd.C_drew ?_))); (case side2 => exact HC0.out); rintro e w5 ⟨rfl, hb⟩; refine ⟨_, rfl, ?_⟩; have n0_ := Aside0.mk (below_step bel_ hb); clear HB; have HB := n0_; clear n0_; clear hb) | ((with_reducible refine gate_callee (f := 19) rfl ?_); refine goesL_ (some 10) rfl rfl Try.func19 (by kernel_rfl) rfl #[.slice A0 l0.length c0] rfl goa_ ?_; (with_reducible refine (area_boxes.calls k _ _ l0 t219 t220 _ ?side1 ?side2 A4.out).mono ?_); (case side1 => repeat (first | exact (Kd.C_below HR0.out HB.out) | (with_reducible refine Kd.C_alloc ?_ _) | (with_reducible refine Kd.C_drewN ?_ _) | (with_reducible refine Kd.C_drew ?_))); (case side2 => exact HC0.out); rintro e w6 ⟨v221, rfl, ho0, hb⟩; refine ⟨_, rfl, ?_⟩; have n0_ := Aside0.mk (Kd.R_lower ho0 (below_size bel_)); have n1_ := Aside0.mk (below_step bel_ hb); clear HB; have HO222 := n0_; have HB := n1_; clear n0_ n1_; (try clear hb); (try clear hb2); (try clear hk); (try clear hi); (try clear ho0)))
  go_ret
  exact ⟨_, rsl_, by (with_reducible repeat (first | apply Kd.R_alloc | apply Kd.R_drewN | apply Kd.R_drew)); exact HO222.out, bel_⟩
 ·replace c3 := Bool.eq_false_iff.mpr c3
  subst c3
  rw [if_neg (show ¬ (false = true) by decide)] at H
  obtain rfl := Option.some.inj H
  go_enter Try.func12, Try.ntmps12
  go_wp2_with (first | ((with_reducible refine gate_callee (f := 10) rfl ?_); refine goesL_ (some 6) rfl rfl Try.func10 (by kernel_rfl) rfl #[.slice A0 l0.length c0] rfl goa_ ?_; (with_reducible refine (area_Good.calls k _ _ l0 false _ ?side1 ?side2 A2.out).mono ?_); (case side1 => repeat (first | exact HR0.out | (with_reducible refine Kd.C_alloc ?_ _) | (with_reducible refine Kd.C_drewN ?_ _) | (with_reducible refine Kd.C_drew ?_))); (case side2 => exact HC0.out); rintro e w7 ⟨rfl, hb⟩; refine ⟨_, rfl, ?_⟩; have n0_ := Aside0.mk (below_step bel_ hb); clear HB; have HB := n0_; clear n0_; clear hb))
  go_ret
  exact ⟨_, rsl_, by first | exact Kd.R_nil _ _ _ _ _ | exact Kd.N_nil _ _ _ _ _ | exact Kd.V_nil _ _ _ _ _ | exact Kd.Q_nil _ _ _ _ _ | exact Kd.S_nil _ _ _ _ _, bel_⟩

/-! ### parterrelaw18_ResolveAreas: function 4 -/
mutual
def parterrelaw18_ResolveAreas.j0 : Nat → List (List ByteArray) → Bool → Option (Bool)
 | 0, _, _ => none
 | k + 1, x0, x25 => if x25 = true then ((parterrelaw18_lives.f k).bind fun t224 => (some t224)) else ((area_Rects.f k x0).bind fun t225 => ((names_Table.f k ([] : List (List ByteArray)) t225 true (x0.length : Int)).bind fun t228 => (if 0 < (x0.length : Int) then ((names_Table.f k ([] : List (List ByteArray)) t225 false ((rd_L1 x0 0).length : Int)).bind fun t232 => (parterrelaw18_ResolveAreas.l0 k t228 t232 t225 (t225.length : Int) 0)) else (none))))
def parterrelaw18_ResolveAreas.l0 : Nat → List (List ByteArray) → List (List ByteArray) → List (S32) → Int → Int → Option (Bool)
 | 0, _, _, _, _, _ => none
 | k + 1, x4, x5, x39, x40, x41 => if x41 < x40 then (if 0 ≤ x41 then (if x41 < (x39.length : Int) then ((line_Good.f k 3 0 ((rd_T32 x39 x41).f0)).bind fun t239 => (if t239 = true then ((resolve_Span.f k x4 3 0 ((rd_T32 x39 x41).f0) 3 0 ((rd_T32 x39 x41).f0)).bind fun bt240 => ((resolve_Span.f k x5 3 0 ((rd_T32 x39 x41).f0) 3 0 ((rd_T32 x39 x41).f0)).bind fun bt246 => (if bt240.2.2.2.2 = 0 then (if bt246.2.2.2.2 = 0 then (if (bt240.1 || (!(bt240.2.1 == ((rd_T32 x39 x41).f1)) || (!(bt240.2.2.1 == (wrap64 (((rd_T32 x39 x41).f1) + ((rd_T32 x39 x41).f3)))) || (!(bt240.2.2.2.1 == 0))))) = true then (none) else (if (bt246.1 || (!(bt246.2.1 == ((rd_T32 x39 x41).f2)) || (!(bt246.2.2.1 == (wrap64 (((rd_T32 x39 x41).f2) + ((rd_T32 x39 x41).f4)))) || (!(bt246.2.2.2.1 == 0))))) = true then (none) else (parterrelaw18_ResolveAreas.l0 k x4 x5 x39 x40 (wrap64 (x41 + 1))))) else (none)) else (none)))) else (parterrelaw18_ResolveAreas.l0 k x4 x5 x39 x40 (wrap64 (x41 + 1))))) else (none)) else (none)) else ((parterrelaw18_lives.f k).bind fun t235 => (some t235))
end
def parterrelaw18_ResolveAreas.f (k : Nat) (l0 : List (List ByteArray)) : Option (Bool) := if (l0.length : Int) > 64 then (parterrelaw18_ResolveAreas.j0 k l0 true) else ((area_Good.f k l0).bind fun t223 => (if t223 = true then (parterrelaw18_ResolveAreas.j0 k l0 ((l0.length : Int) == 0)) else (parterrelaw18_ResolveAreas.j0 k l0 true)))
theorem parterrelaw18_ResolveAreas.mono_l : ∀ k, (∀ y0 y1, LeO (parterrelaw18_ResolveAreas.j0 k y0 y1) (parterrelaw18_ResolveAreas.j0 (k + 1) y0 y1)) ∧ (∀ y0 y1 y2 y3 y4, LeO (parterrelaw18_ResolveAreas.l0 k y0 y1 y2 y3 y4) (parterrelaw18_ResolveAreas.l0 (k + 1) y0 y1 y2 y3 y4))
 | 0 => ⟨fun _ _ r h => by simp [parterrelaw18_ResolveAreas.j0] at h, fun _ _ _ _ _ r h => by simp [parterrelaw18_ResolveAreas.l0] at h⟩
 | k + 1 => by
  obtain ⟨ih0, ih1⟩ := parterrelaw18_ResolveAreas.mono_l k
  refine ⟨?_, ?_⟩
  ·intro y0 y1
   unfold parterrelaw18_ResolveAreas.j0
   repeat' first
   | (with_reducible exact ih0 _ _)
   | (with_reducible exact ih1 _ _ _ _ _)
   | (with_reducible exact area_Good.mono _ _)
   | (with_reducible exact area_Rects.mono _ _)
   | (with_reducible exact line_Good.mono _ _ _ _)
   | (with_reducible exact names_Table.mono _ _ _ _ _)
   | (with_reducible exact parterrelaw18_lives.mono _)
   | (with_reducible exact resolve_Span.mono _ _ _ _ _ _ _ _)
   | (with_reducible exact LeO.refl _)
   | (with_reducible exact LeO.none _)
   | (with_reducible refine LeO.ite ?_ ?_)
   | (with_reducible refine LeO.bind ?_ (fun _ => ?_))
  ·intro y0 y1 y2 y3 y4
   unfold parterrelaw18_ResolveAreas.l0
   repeat' first
   | (with_reducible exact ih0 _ _)
   | (with_reducible exact ih1 _ _ _ _ _)
   | (with_reducible exact area_Good.mono _ _)
   | (with_reducible exact area_Rects.mono _ _)
   | (with_reducible exact line_Good.mono _ _ _ _)
   | (with_reducible exact names_Table.mono _ _ _ _ _)
   | (with_reducible exact parterrelaw18_lives.mono _)
   | (with_reducible exact resolve_Span.mono _ _ _ _ _ _ _ _)
   | (with_reducible exact LeO.refl _)
   | (with_reducible exact LeO.none _)
   | (with_reducible refine LeO.ite ?_ ?_)
   | (with_reducible refine LeO.bind ?_ (fun _ => ?_))
theorem parterrelaw18_ResolveAreas.mono : ∀ a0 k, LeO (parterrelaw18_ResolveAreas.f k a0) (parterrelaw18_ResolveAreas.f (k + 1) a0) := by
 intro a0 k
 obtain ⟨ih0, ih1⟩ := parterrelaw18_ResolveAreas.mono_l k
 unfold parterrelaw18_ResolveAreas.f
 repeat' first
   | (with_reducible exact ih0 _ _)
   | (with_reducible exact ih1 _ _ _ _ _)
   | (with_reducible exact area_Good.mono _ _)
   | (with_reducible exact area_Rects.mono _ _)
   | (with_reducible exact line_Good.mono _ _ _ _)
   | (with_reducible exact names_Table.mono _ _ _ _ _)
   | (with_reducible exact parterrelaw18_lives.mono _)
   | (with_reducible exact resolve_Span.mono _ _ _ _ _ _ _ _)
   | (with_reducible exact LeO.refl _)
   | (with_reducible exact LeO.none _)
   | (with_reducible refine LeO.ite ?_ ?_)
   | (with_reducible refine LeO.bind ?_ (fun _ => ?_))
def parterrelaw18_ResolveAreas.T4 : Bool × List (List Nat × List Nat) := (true, [([], []), ([], []), ([1], [1]), ([0, 2], [0, 2]), ([], []), ([], []), ([5], [5]), ([6], [6]), ([7], [7]), ([4, 8, 3], [4, 8]), ([3, 9, 0, 1, 2, 3], [3]), ([9, 10, 0, 1, 2, 3, 4, 5, 6, 7, 8, 9, 10], [9])])
def parterrelaw18_ResolveAreas.B4 : List Nat := [0, 0, 2, 7, 0, 0, 32, 96, 224, 511, 1023, 2047]
theorem parterrelaw18_ResolveAreas.tab4 : rtab .any (opsOf Try.f4 4) = parterrelaw18_ResolveAreas.T4 := by kernel_rfl
theorem parterrelaw18_ResolveAreas.bits4 : waitsOk parterrelaw18_ResolveAreas.T4.2 parterrelaw18_ResolveAreas.B4 = true := by kernel_rfl
set_option maxHeartbeats 8000000 in
set_option maxRecDepth 100000 in
theorem parterrelaw18_ResolveAreas.calls (k : Nat) (A0 : Option Addr) (c0 : Nat) (l0 : List (List ByteArray)) (r : Bool) (w : World) (hr0 : Kd.C (Kd.slice 9 Kd.string) w A0 l0.length l0) (hc0 : l0.length ≤ c0) (h : parterrelaw18_ResolveAreas.f k l0 = some r) :
  Calls Try.prog 4 #[.slice A0 l0.length c0] w fun e w' => e = .returned (.bool r) ∧ Below w.heap.size w w' := by
 have hu32 := Try.underlying32
 have hu34 := Try.underlying34
 have hu37 := Try.underlying37
 have HR0 := Aside0.mk hr0
 have HC0 := Aside0.mk hc0
 clear hr0 hc0
 have HB := Aside0.mk (Below.refl w.heap.size w)
 have H : (if (l0.length : Int) > 64 then (parterrelaw18_ResolveAreas.j0 k l0 true) else ((area_Good.f k l0).bind fun t223 => (if t223 = true then (parterrelaw18_ResolveAreas.j0 k l0 ((l0.length : Int) == 0)) else (parterrelaw18_ResolveAreas.j0 k l0 true)))) = some r := h
 clear h
 have HC2 := Aside0.mk H
 clear H
 go_enter Try.func4, Try.ntmps4
 go_upto_region 1 with (fail)
 go_cut [25] (fun v25 wc => ∃ (kq : Nat) (x25_1 : Bool), v25 = .bool x25_1 ∧ Aside0 (parterrelaw18_ResolveAreas.j0 kq l0 x25_1 = some r) ∧ Aside0 (kq ≤ k) ∧ Aside0 (Below w.heap.size w wc))
 case first =>
  have H := HC2.out
  clear HC2
  by_cases c3 : (l0.length : Int) > 64
  ·rw [if_pos c3] at H
   have c3b0 : decide (64 < (l0.length : Int)) = true := decide_eq_true c3
   have c3b1 : decide (64 < l0.length) = true := decide_eq_true (by omega)
   clear c3
   (first | rw [c3b0] | (simp only [i64_w, i32_w]; rw [c3b0]) | skip)
   have H' := Aside0.mk H
   clear H
   go_wp2
   go_meet
   case rel => exact ⟨_, (true), rfs_, (by first | exact H' | (subst_vars; exact H')), ⟨ole_⟩, ⟨bel_⟩⟩
  ·rw [if_neg c3] at H
   have c3b0 : decide (64 < (l0.length : Int)) = false := decide_eq_false c3
   have c3b1 : decide (64 < l0.length) = false := decide_eq_false (by omega)
   clear c3
   (first | rw [c3b0] | (simp only [i64_w, i32_w]; rw [c3b0]) | skip)
   replace H := Option.bind_eq_some_iff.mp H
   obtain ⟨t223, A40, H⟩ := H
   try dsimp only at H
   have A4 := Aside0.mk A40
   clear A40
   by_cases c5 : t223 = true
   ·subst c5
    rw [if_pos rfl] at H
    have H' := Aside0.mk H
    clear H
    go_wp2_with (first | (go_at_call 10; (with_reducible refine (area_Good.calls k _ _ l0 true _ ?side1 ?side2 A4.out).mono ?_); (case side1 => repeat (first | exact (Kd.C_below HR0.out HB.out) | (with_reducible refine Kd.C_alloc ?_ _) | (with_reducible refine Kd.C_drewN ?_ _) | (with_reducible refine Kd.C_drew ?_))); (case side2 => exact HC0.out); rintro e w6 ⟨rfl, hb⟩; have n0_ := Aside0.mk (below_step bel_ hb); clear HB; have HB := n0_; clear n0_; clear hb))
    go_meet
    case rel => exact ⟨_, (((l0.length : Int) == 0)), rfs_, (by first | exact H' | (subst_vars; exact H')), ⟨ole_⟩, ⟨bel_⟩⟩
   ·replace c5 := Bool.eq_false_iff.mpr c5
    subst c5
    rw [if_neg (show ¬ (false = true) by decide)] at H
    have H' := Aside0.mk H
    clear H
    go_wp2_with (first | (go_at_call 10; (with_reducible refine (area_Good.calls k _ _ l0 false _ ?side1 ?side2 A4.out).mono ?_); (case side1 => repeat (first | exact (Kd.C_below HR0.out HB.out) | (with_reducible refine Kd.C_alloc ?_ _) | (with_reducible refine Kd.C_drewN ?_ _) | (with_reducible refine Kd.C_drew ?_))); (case side2 => exact HC0.out); rintro e w7 ⟨rfl, hb⟩; have n0_ := Aside0.mk (below_step bel_ hb); clear HB; have HB := n0_; clear n0_; clear hb))
    go_meet
    case rel => exact ⟨_, (true), rfs_, (by first | exact H' | (subst_vars; exact H')), ⟨ole_⟩, ⟨bel_⟩⟩
 case rest =>
  clear HC2
  try clear p2
  try clear c3
  try clear c3b0
  try clear c3b1
  try clear c4
  try clear c5
  obtain ⟨kq, x25_1, rfl, HA, HJ1, HB⟩ := hcut
  cases kq with
  | zero => exact absurd HA.out (by simp [parterrelaw18_ResolveAreas.j0])
  | succ kj1 =>
   have H := HA.out
   clear HA
   simp only [parterrelaw18_ResolveAreas.j0] at H
   by_cases c8 : x25_1 = true
   ·subst c8
    rw [if_pos rfl] at H
    replace H := Option.bind_eq_some_iff.mp H
    obtain ⟨t224, A90, H⟩ := H
    try dsimp only at H
    have A9 := Aside0.mk A90
    clear A90
    obtain rfl := Option.some.inj H
    go_wp2_with (first | ((with_reducible refine gate_callee (f := 11) rfl ?_); refine goesL_ (some 26) rfl rfl Try.func11 (by kernel_rfl) rfl #[] rfl goa_ ?_; (with_reducible refine (parterrelaw18_lives.calls kj1  t224 _ A9.out).mono ?_); rintro e w10 ⟨rfl, hb⟩; refine ⟨_, rfl, ?_⟩; have n0_ := Aside0.mk (below_step bel_ hb); clear HB; have HB := n0_; clear n0_; clear hb))
    go_ret
    exact ⟨rsl_, bel_⟩
   ·replace c8 := Bool.eq_false_iff.mpr c8
    subst c8
    rw [if_neg (show ¬ (false = true) by decide)] at H
    replace H := Option.bind_eq_some_iff.mp H
    obtain ⟨t225, A110, H⟩ := H
    try dsimp only at H
    have A11 := Aside0.mk A110
    clear A110
    replace H := Option.bind_eq_some_iff.mp H
    obtain ⟨t228, A120, H⟩ := H
    try dsimp only at H
    have A12 := Aside0.mk A120
    clear A120
    by_cases c13 : 0 < (l0.length : Int)
    ·rw [if_pos c13] at H
     have c13b0 : decide (0 < (l0.length : Int)) = true := decide_eq_true c13
     have c13b1 : decide (0 < l0.length) = true := decide_eq_true (by omega)
     clear c13
     replace H := Option.bind_eq_some_iff.mp H
     obtain ⟨t232, A140, H⟩ := H
     try dsimp only at H
     have A14 := Aside0.mk A140
     clear A140
     have H' := Aside0.mk H
     clear H
     try go_wp2_with (first | ((with_reducible refine gate_callee (f := 12) rfl ?_); refine goesL_ (some 28) rfl rfl Try.func12 (by kernel_rfl) rfl #[.slice A0 l0.length c0] rfl goa_ ?_; (with_reducible refine (area_Rects.calls kj1 _ _ l0 t225 _ ?side1 ?side2 A11.out).mono ?_); (case side1 => repeat (first | exact (Kd.C_below HR0.out HB.out) | (with_reducible refine Kd.C_alloc ?_ _) | (with_reducible refine Kd.C_drewN ?_ _) | (with_reducible refine Kd.C_drew ?_))); (case side2 => exact HC0.out); rintro e w15 ⟨v226, rfl, ho0, hb⟩; refine ⟨_, rfl, ?_⟩; have n0_ := Aside0.mk (Kd.R_lower ho0 (below_size bel_)); have n1_ := Aside0.mk (below_step bel_ hb); clear HB; have HO227 := n0_; have HB := n1_; clear n0_ n1_; (try clear hb); (try clear hb2); (try clear hk); (try clear hi); (try clear ho0)))
     have n0_ := Aside0.mk (Kd.R_drew HO227.out)
     have n1_ := Aside0.mk (below_drew1 HB.out)
     clear HO227
     clear HB
     have HO227 := n0_
     have HB := n1_
     clear n0_ n1_
     have p231 : 0 ≤ (0 : Int) := (by omega)
     have q231 : 0 < (l0.length : Int) := of_decide_eq_true (by first | (with_reducible assumption) | assumption)
     obtain ⟨ad231, A231_0, c231_0, e231, hx231_0, hl231_0, hi231_0⟩ := at_L1 HR0.out 0 p231 q231
     have hw231_0 := hx231_0
     (try rw [show ((0 : Int)).toNat = 0 from rfl] at hw231_0)
     (try rw [show 0 * 1 = 0 from rfl] at hw231_0)
     (try rw [Addr.add_zero'] at hw231_0)
     cases e231
     have qi231 : (0 < l0.length) = True := eq_true (by omega)
     (try rw [show ((0 : Int)).toNat = 0 from rfl] at hx231_0)
     (try rw [Addr.add_zero'] at hx231_0)
     replace hx231_0 := (HB.out.cell (World.block_lt_of_cell? w _ hx231_0)).trans hx231_0
     have HR231_0 := Aside0.mk hi231_0
     have HC231_0 := Aside0.mk hl231_0
     clear hi231_0 hl231_0
     replace p231 := eq_true p231
     replace q231 := eq_true q231
     obtain ⟨Ao17, co17, eo17⟩ := Kd.R_slice HO227.out
     (first | subst eo17 | (injection eo17 with f1_ f2_ f3_; have f4_ := f1_.symm; have f5_ := f3_.symm; clear f1_ f2_ f3_; subst f4_; subst f5_))
     refine start_ (n := 12) (S := fun w' => w'.cell? ad231 = some (.slice A231_0 (rd_L1 l0 0).length c231_0)) (ds := []) #[false, false, false, false, false, false, false, false, false, false, false, false] (by kernel_rfl) rfl rfl (((HB.out.cell (World.block_lt_of_cell? w _ hw231_0)).trans hw231_0)) (fun hHeld => ?_); refine with_tabW parterrelaw18_ResolveAreas.tab4 parterrelaw18_ResolveAreas.bits4 (fun HT_ HW_ => ?_)
     generalize w15.drew = w16 at HO227 HB HR231_0 hx231_0 hHeld ⊢
     refine pure_ (i := 0) (N := some 29) (v := ?_) (a' := ?_) #[true, false, false, false, false, false, false, false, false, false, false, false] rfl rfl (any_of HT_.out (by kernel_rfl)) (fun _ _ _ h => h) (Or.inl ⟨by rfl, ?_⟩) ?_ ?_
     rotate_left
     ·intro w'
      go_simp
      with_reducible rfl
     rotate_left
     ·simp only [Act.put, List.setIfInBounds_toArray, List.set_cons_zero, List.set_cons_succ, i64_w, i32_w]
      rfl
     refine pure_ (i := 1) (N := some 30) (v := ?_) (a' := ?_) #[true, true, false, false, false, false, false, false, false, false, false, false] rfl rfl (any_of HT_.out (by kernel_rfl)) (fun _ _ _ h => h) (Or.inl ⟨by rfl, ?_⟩) ?_ ?_
     rotate_left
     ·intro w'
      go_simp
      with_reducible rfl
     rotate_left
     ·simp only [Act.put, List.setIfInBounds_toArray, List.set_cons_zero, List.set_cons_succ, i64_w, i32_w]
      rfl
     refine pure_ (i := 2) (N := some 31) (v := ?_) (a' := ?_) #[true, true, true, false, false, false, false, false, false, false, false, false] rfl rfl (any_of HT_.out (by kernel_rfl)) (fun _ _ _ h => h) (Or.inl ⟨by rfl, ?_⟩) ?_ ?_
     rotate_left
     ·intro w'
      go_simp
      with_reducible rfl
     rotate_left
     ·simp only [Act.put, List.setIfInBounds_toArray, List.set_cons_zero, List.set_cons_succ, i64_w, i32_w]
      rfl
     refine pure_ (i := 4) (N := some 33) (v := ?_) (a' := ?_) #[true, true, true, false, true, false, false, false, false, false, false, false] rfl rfl (any_of HT_.out (by kernel_rfl)) (fun _ _ _ h => h) (Or.inl ⟨by rfl, ?_⟩) ?_ ?_
     rotate_left
     ·intro w'
      go_simp
      with_reducible rfl
     rotate_left
     ·simp only [Act.put, List.setIfInBounds_toArray, List.set_cons_zero, List.set_cons_succ, i64_w, i32_w]
      rfl
     refine pure_ (i := 5) (N := some 34) (v := ?_) (a' := ?_) #[true, true, true, false, true, true, false, false, false, false, false, false] rfl rfl (any_of HT_.out (by kernel_rfl)) (fun _ _ _ h => h) (Or.inl ⟨by rfl, ?_⟩) ?_ ?_
     rotate_left
     ·intro w'
      go_simp
      with_reducible rfl
     rotate_left
     ·simp only [Act.put, List.setIfInBounds_toArray, List.set_cons_zero, List.set_cons_succ, i64_w, i32_w]
      rfl
     refine pure_ (i := 6) (N := some 35) (v := ?_) (a' := ?_) #[true, true, true, false, true, true, true, false, false, false, false, false] rfl rfl (any_of HT_.out (by kernel_rfl)) (fun _ _ _ h => h) (Or.inl ⟨by rfl, ?_⟩) ?_ ?_
     rotate_left
     ·intro w'
      go_simp
      with_reducible rfl
     rotate_left
     ·simp only [Act.put, List.setIfInBounds_toArray, List.set_cons_zero, List.set_cons_succ, i64_w, i32_w]
      rfl
     refine take_ (i := 7) (N := some 36) (v := ?_) (a' := ?_) #[true, true, true, false, true, true, true, true, false, false, false, false] rfl rfl (take_ofW HT_.out HW_.out (by kernel_rfl)) (fun _ _ _ h => h) (Or.inl ⟨by rfl, ?_⟩) hHeld ?_ ?_
     rotate_left
     ·intro w' s0
      go_simp
      with_reducible rfl
     rotate_left
     ·simp only [Act.put, List.setIfInBounds_toArray, List.set_cons_zero, List.set_cons_succ, i64_w, i32_w]
      rfl
     refine pure_ (i := 8) (N := some 37) (v := ?_) (a' := ?_) #[true, true, true, false, true, true, true, true, true, false, false, false] rfl rfl (any_of HT_.out (by kernel_rfl)) (fun _ _ _ h => h) (Or.inl ⟨by rfl, ?_⟩) ?_ ?_
     rotate_left
     ·intro w'
      go_simp
      with_reducible rfl
     rotate_left
     ·simp only [Act.put, List.setIfInBounds_toArray, List.set_cons_zero, List.set_cons_succ, i64_w, i32_w]
      rfl
     refine one_ (i := 3) (N := some 32) #[true, true, true, true, true, true, true, true, true, false, false, false] rfl rfl (one_of HT_.out (by kernel_rfl)) (by decide) (fun K hK => ?_)
     refine goes_ Try.func7 (by kernel_rfl) rfl #[.slice none 0 0, .slice Ao17 t225.length co17, .bool true, .int .i64 (l0.length : Int)] (by rfl) rfl rfl goa_ ?_
     refine (names_Table.calls kj1 _ _ ([] : List (List ByteArray)) _ _ t225 true (l0.length : Int) t228 _ ?side1 ?side2 ?side3 ?side4 A12.out).mono ?_
     (case side1 => exact Kd.C_nil _ _)
     (case side2 => exact Nat.le_refl _)
     (case side3 => repeat (first | exact (Kd.R_reads' HO227.out).2.2 | (with_reducible refine Kd.C_alloc ?_ _) | (with_reducible refine Kd.C_drewN ?_ _) | (with_reducible refine Kd.C_drew ?_)))
     (case side4 => exact (Kd.R_reads' HO227.out).2.1)
     rintro e w18 ⟨v229, rfl, ho0, hb⟩
     refine ⟨_, rfl, ?_⟩
     have n0_ := Aside0.mk (Kd.R_below (by (with_reducible repeat (first | apply Kd.R_alloc | apply Kd.R_drewN | apply Kd.R_drew)); exact HO227.out) hb)
     have n1_ := Aside0.mk (Kd.S_lower ho0 (below_size bel_))
     have n2_ := Aside0.mk (below_step bel_ hb)
     clear HO227
     clear HB
     have HO227 := n0_
     have HO230 := n1_
     have HB := n2_
     clear n0_ n1_ n2_
     (try clear hb)
     (try clear hb2)
     (try clear hk)
     (try clear hi)
     (try clear ho0)
     refine hK.out _ _ (((HB.out.cell (World.block_lt_of_cell? w _ hw231_0)).trans hw231_0)) (fun hHeld => ?_)
     clear hK K
     refine norm_ (a' := ?_) ?_ ?_
     rotate_left
     ·show Act.put _ (some 32) _ = _
      simp only [Act.put, List.setIfInBounds_toArray, List.set_cons_zero, List.set_cons_succ, i64_w, i32_w]
      rfl
     refine one_ (i := 9) (N := some 38) #[true, true, true, true, true, true, true, true, true, true, false, false] rfl rfl (one_of HT_.out (by kernel_rfl)) (by decide) (fun K hK => ?_)
     refine goes_ Try.func7 (by kernel_rfl) rfl #[.slice none 0 0, .slice Ao17 t225.length co17, .bool false, .int .i64 ((rd_L1 l0 0).length : Int)] (by rfl) rfl rfl goa_ ?_
     refine (names_Table.calls kj1 _ _ ([] : List (List ByteArray)) _ _ t225 false ((rd_L1 l0 0).length : Int) t232 _ ?side1 ?side2 ?side3 ?side4 A14.out).mono ?_
     (case side1 => exact Kd.C_nil _ _)
     (case side2 => exact Nat.le_refl _)
     (case side3 => repeat (first | exact (Kd.R_reads' HO227.out).2.2 | (with_reducible refine Kd.C_alloc ?_ _) | (with_reducible refine Kd.C_drewN ?_ _) | (with_reducible refine Kd.C_drew ?_)))
     (case side4 => exact (Kd.R_reads' HO227.out).2.1)
     rintro e w19 ⟨v233, rfl, ho0, hb⟩
     refine ⟨_, rfl, ?_⟩
     have n0_ := Aside0.mk (Kd.R_below (by (with_reducible repeat (first | apply Kd.R_alloc | apply Kd.R_drewN | apply Kd.R_drew)); exact HO227.out) hb)
     have n1_ := Aside0.mk (Kd.S_elder' (by (with_reducible repeat (first | apply Kd.S_alloc | apply Kd.S_drewN | apply Kd.S_drew)); exact HO230.out) (Kd.S_base ho0) hb)
     have n2_ := Aside0.mk (Kd.S_lower (Kd.S_new' ho0 (Kd.S_lt (by (with_reducible repeat (first | apply Kd.S_alloc | apply Kd.S_drewN | apply Kd.S_drew)); exact HO230.out))) (below_size bel_))
     have n3_ := Aside0.mk (below_step bel_ hb)
     clear HO227
     clear HO230
     clear HB
     have HO227 := n0_
     have HO230 := n1_
     have HO234 := n2_
     have HB := n3_
     clear n0_ n1_ n2_ n3_
     (try clear hb)
     (try clear hb2)
     (try clear hk)
     (try clear hi)
     (try clear ho0)
     refine hK.out _ _ (((HB.out.cell (World.block_lt_of_cell? w _ hw231_0)).trans hw231_0)) (fun hHeld => ?_)
     clear hK K
     refine norm_ (a' := ?_) ?_ ?_
     rotate_left
     ·show Act.put _ (some 38) _ = _
      simp only [Act.put, List.setIfInBounds_toArray, List.set_cons_zero, List.set_cons_succ, i64_w, i32_w]
      rfl
     refine pure_ (i := 10) (N := some 4) (v := ?_) (a' := ?_) #[true, true, true, true, true, true, true, true, true, true, true, false] rfl rfl (any_of HT_.out (by kernel_rfl)) (fun _ _ _ h => h) (Or.inl ⟨by rfl, ?_⟩) ?_ ?_
     rotate_left
     ·intro w'
      go_simp
      with_reducible rfl
     rotate_left
     ·simp only [Act.put, List.setIfInBounds_toArray, List.set_cons_zero, List.set_cons_succ, i64_w, i32_w]
      rfl
     refine pure_ (i := 11) (N := some 5) (v := ?_) (a' := ?_) #[true, true, true, true, true, true, true, true, true, true, true, true] rfl rfl (any_of HT_.out (by kernel_rfl)) (fun _ _ _ h => h) (Or.inl ⟨by rfl, ?_⟩) ?_ ?_
     rotate_left
     ·intro w'
      go_simp
      with_reducible rfl
     rotate_left
     ·simp only [Act.put, List.setIfInBounds_toArray, List.set_cons_zero, List.set_cons_succ, i64_w, i32_w]
      rfl
     refine done_ (done_of HT_.out (by kernel_rfl)) ?_
     try go_wp2
     go_loopg [41] kj1 (fun kq v41 w' => ∃ (x41_2 : Int), v41 = .int .i64 x41_2 ∧ Aside0 (parterrelaw18_ResolveAreas.l0 kq t228 t232 t225 (t225.length : Int) x41_2 = some r) ∧ Aside0 (kq ≤ kj1) ∧ Aside0 (Kd.S (Kd.slice 9 Kd.string) 28 w' w.heap.size (fun k_ => some k_ ≠ (v233 : Value).ownBlock) v229 t228) ∧ Aside0 (Kd.S (Kd.slice 9 Kd.string) 28 w' w.heap.size (fun k_ => some k_ ≠ (v229 : Value).ownBlock) v233 t232) ∧ Aside0 (Kd.R k32 32 w' w.heap.size (fun _ => True) (.slice Ao17 t225.length co17) t225) ∧ Aside0 (Below w.heap.size w w'))
     case atStart => exact ⟨(0), rfs_, H', ⟨Nat.le_refl _⟩, ⟨by (with_reducible repeat (first | apply Kd.S_alloc | apply Kd.S_drewN | apply Kd.S_drew)); exact Kd.S_mono HO230.out (fun _ hk => hk.2)⟩, ⟨by (with_reducible repeat (first | apply Kd.S_alloc | apply Kd.S_drewN | apply Kd.S_drew)); exact Kd.S_mono HO234.out (fun _ hk => hk.2)⟩, ⟨by (with_reducible repeat (first | apply Kd.R_alloc | apply Kd.R_drewN | apply Kd.R_drew)); exact HO227.out⟩, ⟨bel_⟩⟩
     case round =>
      clear H'
      try clear c1
      try clear c2
      try clear p2
      try clear q2
      try clear hx2
      try clear qi2
      try clear c3
      try clear c3b0
      try clear c3b1
      try clear c4
      try clear c5
      try clear c7
      try clear c8
      try clear c11
      try clear c12
      try clear c13
      try clear c13b0
      try clear c13b1
      try clear hx231_0
      try clear p2
      try clear p231
      try clear q231
      obtain ⟨x41_2, rfl, HA, HK2, HO_4, HO_5, HO_39, HB⟩ := hrel
      cases gk with
      | zero => exact absurd HA.out (by simp [parterrelaw18_ResolveAreas.l0])
      | succ k2 =>
       have H := HA.out
       clear HA
       simp only [parterrelaw18_ResolveAreas.l0] at H
       by_cases c20 : x41_2 < (t225.length : Int)
       ·rw [if_pos c20] at H
        have c20b0 : decide (x41_2 < (t225.length : Int)) = true := decide_eq_true c20
        clear c20
        by_cases c21 : 0 ≤ x41_2
        ·rw [if_pos c21] at H
         have c21b0 : decide (0 ≤ x41_2) = true := decide_eq_true c21
         clear c21
         by_cases c22 : x41_2 < (t225.length : Int)
         ·rw [if_pos c22] at H
          have c22b0 : decide (x41_2 < (t225.length : Int)) = true := decide_eq_true c22
          clear c22
          replace H := Option.bind_eq_some_iff.mp H
          obtain ⟨t239, A230, H⟩ := H
          try dsimp only at H
          have A23 := Aside0.mk A230
          clear A230
          by_cases c24 : t239 = true
          ·subst c24
           rw [if_pos rfl] at H
           replace H := Option.bind_eq_some_iff.mp H
           obtain ⟨⟨t240, t241, t242, t243, t244⟩, A250, H⟩ := H
           try dsimp only at H
           have A25 := Aside0.mk A250
           clear A250
           replace H := Option.bind_eq_some_iff.mp H
           obtain ⟨⟨t246, t247, t248, t249, t250⟩, A260, H⟩ := H
           try dsimp only at H
           have A26 := Aside0.mk A260
           clear A260
           by_cases c27 : t244 = 0
           ·rw [if_pos c27] at H
            have c27b0 : (t244 == 0) = true := beq_iff_eq.mpr c27
            have c27b1 : (t244 != 0) = false := bne_eq_false_iff_eq.mpr c27
            clear c27
            by_cases c28 : t250 = 0
            ·rw [if_pos c28] at H
             have c28b0 : (t250 == 0) = true := beq_iff_eq.mpr c28
             have c28b1 : (t250 != 0) = false := bne_eq_false_iff_eq.mpr c28
             clear c28
             by_cases c29 : (t240 || (!(t241 == ((rd_T32 t225 x41_2).f1)) || (!(t242 == (wrap64 (((rd_T32 t225 x41_2).f1) + ((rd_T32 t225 x41_2).f3)))) || (!(t243 == 0))))) = true
             ·rw [if_pos c29] at H
              exact absurd H (by simp)
             ·rw [if_neg c29] at H
              have c29b0 : (t240 || (!(t241 == ((rd_T32 t225 x41_2).f1)) || (!(t242 == (wrap64 (((rd_T32 t225 x41_2).f1) + ((rd_T32 t225 x41_2).f3)))) || (!(t243 == 0))))) = false := by simpa using c29
              clear c29
              by_cases c30 : (t246 || (!(t247 == ((rd_T32 t225 x41_2).f2)) || (!(t248 == (wrap64 (((rd_T32 t225 x41_2).f2) + ((rd_T32 t225 x41_2).f4)))) || (!(t249 == 0))))) = true
              ·rw [if_pos c30] at H
               exact absurd H (by simp)
              ·rw [if_neg c30] at H
               have c30b0 : (t246 || (!(t247 == ((rd_T32 t225 x41_2).f2)) || (!(t248 == (wrap64 (((rd_T32 t225 x41_2).f2) + ((rd_T32 t225 x41_2).f4)))) || (!(t249 == 0))))) = false := by simpa using c30
               clear c30
               have H' := Aside0.mk H
               clear H
               have p236 : 0 ≤ (x41_2 : Int) := of_decide_eq_true (by first | (with_reducible assumption) | assumption)
               have q236 : x41_2 < (t225.length : Int) := of_decide_eq_true (by first | (with_reducible assumption) | assumption)
               obtain ⟨ad236, e236, hx236_0, hx236_1, hx236_2, hx236_3, hx236_4⟩ := at_T32 (Kd.R_reads' HO_39.out).2.2 x41_2 p236 q236
               cases e236
               replace p236 := eq_true p236
               replace q236 := eq_true q236
               go_wp2_with (first | ((with_reducible refine gate_dst (N := 7) rfl ?_); (try (refine gate_guard (by rfl) ?_; dsimp only)); refine box_event ?hg (N := 7) ?hd (cs := #[.string (⟨#[]⟩ : ByteArray), .int .i64 0, .int .i64 0, .int .i64 0, .int .i64 0]) (t := 32) ?hr ?_; (case hd => rfl); (case hg => rfl); (case hr => first | (go_simp; done) | (go_simp; rfl)); intro gb237 hg w31 hbox hb; have n0_ := Aside0.mk (Kd.S_below (by (with_reducible repeat (first | apply Kd.S_alloc | apply Kd.S_drewN | apply Kd.S_drew)); exact HO_4.out) hb); have n1_ := Aside0.mk (Kd.S_below (by (with_reducible repeat (first | apply Kd.S_alloc | apply Kd.S_drewN | apply Kd.S_drew)); exact HO_5.out) hb); have n2_ := Aside0.mk (Kd.R_below (Kd.R_elderB (by (with_reducible repeat (first | apply Kd.R_alloc | apply Kd.R_drewN | apply Kd.R_drew)); exact HO_39.out) gb237 (Nat.le_of_eq hg.symm)) hb); have n3_ := Aside0.mk (below_step bel_ hb); have n4_ := Aside0.mk (hbox); have n5_ := Aside0.mk ((bsz_ hg : w.heap.size ≤ gb237)); have n6_ := Aside0.mk ((bsz_ hg : w.heap.size ≤ gb237)); clear HO_4; clear HO_5; clear HO_39; clear HB; have HO_4 := n0_; have HO_5 := n1_; have HO_39 := n2_; have HB := n3_; have BK237 := n4_; have GW237 := n5_; have GE237 := n6_; clear n0_ n1_ n2_ n3_ n4_ n5_ n6_; clear hb hbox hg; have hcz32_0 : w31.cell? ⟨gb237, 0, none⟩ = some (.string (⟨#[]⟩ : ByteArray)) := (blk_cell BK237.out 0).trans rfl; have hcz32_1 : w31.cell? ⟨gb237, 1, none⟩ = some (.int .i64 0) := (blk_cell BK237.out 1).trans rfl; have hcz32_2 : w31.cell? ⟨gb237, 2, none⟩ = some (.int .i64 0) := (blk_cell BK237.out 2).trans rfl; have hcz32_3 : w31.cell? ⟨gb237, 3, none⟩ = some (.int .i64 0) := (blk_cell BK237.out 3).trans rfl; have hcz32_4 : w31.cell? ⟨gb237, 4, none⟩ = some (.int .i64 0) := (blk_cell BK237.out 4).trans rfl; have hfz32_0 := blk_frozen BK237.out 0; have hfz32_1 := blk_frozen BK237.out 1; have hfz32_2 := blk_frozen BK237.out 2; have hfz32_3 := blk_frozen BK237.out 3; have hfz32_4 := blk_frozen BK237.out 4) | ((with_reducible refine gate_dst (N := 8) rfl ?_); (try (refine gate_guard (by rfl) ?_; dsimp only)); refine box_event ?hg (N := 8) ?hd (cs := #[.int .i64 0, .int .i64 0, .string (⟨#[]⟩ : ByteArray)]) (t := 34) ?hr ?_; (case hd => rfl); (case hg => rfl); (case hr => first | (go_simp; done) | (go_simp; rfl)); intro gb238 hg w33 hbox hb; have n0_ := Aside0.mk (Kd.S_below (by (with_reducible repeat (first | apply Kd.S_alloc | apply Kd.S_drewN | apply Kd.S_drew)); exact (Kd.S_mono (Kd.S_far (p := ⟨gb237, 4, none⟩) (Kd.S_far (p := ⟨gb237, 3, none⟩) (Kd.S_far (p := ⟨gb237, 2, none⟩) (Kd.S_far (p := ⟨gb237, 1, none⟩) (Kd.S_far (p := ⟨gb237, 0, none⟩) (Kd.S_types HO_4.out BK237.out (by decide)) (fun _ hk => hk.2) (.string ((rd_T32 t225 x41_2).f0))) (fun _ hk => hk.2) (.int .i64 ((rd_T32 t225 x41_2).f1))) (fun _ hk => hk.2) (.int .i64 ((rd_T32 t225 x41_2).f2))) (fun _ hk => hk.2) (.int .i64 ((rd_T32 t225 x41_2).f3))) (fun _ hk => hk.2) (.int .i64 ((rd_T32 t225 x41_2).f4))) (fun _ h_ => h_.1))) hb); have n1_ := Aside0.mk (Kd.S_below (by (with_reducible repeat (first | apply Kd.S_alloc | apply Kd.S_drewN | apply Kd.S_drew)); exact (Kd.S_mono (Kd.S_far (p := ⟨gb237, 4, none⟩) (Kd.S_far (p := ⟨gb237, 3, none⟩) (Kd.S_far (p := ⟨gb237, 2, none⟩) (Kd.S_far (p := ⟨gb237, 1, none⟩) (Kd.S_far (p := ⟨gb237, 0, none⟩) (Kd.S_types HO_5.out BK237.out (by decide)) (fun _ hk => hk.2) (.string ((rd_T32 t225 x41_2).f0))) (fun _ hk => hk.2) (.int .i64 ((rd_T32 t225 x41_2).f1))) (fun _ hk => hk.2) (.int .i64 ((rd_T32 t225 x41_2).f2))) (fun _ hk => hk.2) (.int .i64 ((rd_T32 t225 x41_2).f3))) (fun _ hk => hk.2) (.int .i64 ((rd_T32 t225 x41_2).f4))) (fun _ h_ => h_.1))) hb); have n2_ := Aside0.mk (Kd.R_below (by (with_reducible repeat (first | apply Kd.R_alloc | apply Kd.R_drewN | apply Kd.R_drew)); exact (Kd.R_mono (Kd.R_far (p := ⟨gb237, 4, none⟩) (Kd.R_far (p := ⟨gb237, 3, none⟩) (Kd.R_far (p := ⟨gb237, 2, none⟩) (Kd.R_far (p := ⟨gb237, 1, none⟩) (Kd.R_far (p := ⟨gb237, 0, none⟩) (Kd.R_mono HO_39.out (fun k_ hk => (⟨hk, hk.2⟩ : _ ∧ k_ ≠ gb237))) (fun _ hk => hk.2) (.string ((rd_T32 t225 x41_2).f0))) (fun _ hk => hk.2) (.int .i64 ((rd_T32 t225 x41_2).f1))) (fun _ hk => hk.2) (.int .i64 ((rd_T32 t225 x41_2).f2))) (fun _ hk => hk.2) (.int .i64 ((rd_T32 t225 x41_2).f3))) (fun _ hk => hk.2) (.int .i64 ((rd_T32 t225 x41_2).f4))) (fun _ h_ => h_.1))) hb); have n3_ := Aside0.mk (blk_below (g := gb237) (o := .cells #[.string ((rd_T32 t225 x41_2).f0), .int .i64 ((rd_T32 t225 x41_2).f1), .int .i64 ((rd_T32 t225 x41_2).f2), .int .i64 ((rd_T32 t225 x41_2).f3), .int .i64 ((rd_T32 t225 x41_2).f4)] 32 (0, 0)) (by (with_reducible repeat (first | refine blk_drewN ?_ _ | refine blk_drew ?_ | refine blk_alloc ?_ _)); refine blk_put (cs := #[.string ((rd_T32 t225 x41_2).f0), .int .i64 ((rd_T32 t225 x41_2).f1), .int .i64 ((rd_T32 t225 x41_2).f2), .int .i64 ((rd_T32 t225 x41_2).f3), .int .i64 0]) ?_ 4 _ rfl; (with_reducible repeat (first | refine blk_drewN ?_ _ | refine blk_drew ?_ | refine blk_alloc ?_ _)); refine blk_put (cs := #[.string ((rd_T32 t225 x41_2).f0), .int .i64 ((rd_T32 t225 x41_2).f1), .int .i64 ((rd_T32 t225 x41_2).f2), .int .i64 0, .int .i64 0]) ?_ 3 _ rfl; (with_reducible repeat (first | refine blk_drewN ?_ _ | refine blk_drew ?_ | refine blk_alloc ?_ _)); refine blk_put (cs := #[.string ((rd_T32 t225 x41_2).f0), .int .i64 ((rd_T32 t225 x41_2).f1), .int .i64 0, .int .i64 0, .int .i64 0]) ?_ 2 _ rfl; (with_reducible repeat (first | refine blk_drewN ?_ _ | refine blk_drew ?_ | refine blk_alloc ?_ _)); refine blk_put (cs := #[.string ((rd_T32 t225 x41_2).f0), .int .i64 0, .int .i64 0, .int .i64 0, .int .i64 0]) ?_ 1 _ rfl; (with_reducible repeat (first | refine blk_drewN ?_ _ | refine blk_drew ?_ | refine blk_alloc ?_ _)); refine blk_put (cs := #[.string (⟨#[]⟩ : ByteArray), .int .i64 0, .int .i64 0, .int .i64 0, .int .i64 0]) ?_ 0 _ rfl; (with_reducible repeat (first | refine blk_drewN ?_ _ | refine blk_drew ?_ | refine blk_alloc ?_ _)); exact BK237.out) hb); have n4_ := Aside0.mk (below_step bel_ hb); have n5_ := Aside0.mk (hbox); have n6_ := Aside0.mk ((bsz_ hg : w.heap.size ≤ gb238)); have n7_ := Aside0.mk ((bsz_ hg : w.heap.size ≤ gb238)); have n8_ := Aside0.mk ((by rw [hg]; exact Nat.ne_of_lt (blk_lt (g := gb237) (o := .cells #[.string ((rd_T32 t225 x41_2).f0), .int .i64 ((rd_T32 t225 x41_2).f1), .int .i64 ((rd_T32 t225 x41_2).f2), .int .i64 ((rd_T32 t225 x41_2).f3), .int .i64 ((rd_T32 t225 x41_2).f4)] 32 (0, 0)) (by (with_reducible repeat (first | refine blk_drewN ?_ _ | refine blk_drew ?_ | refine blk_alloc ?_ _)); refine blk_put (cs := #[.string ((rd_T32 t225 x41_2).f0), .int .i64 ((rd_T32 t225 x41_2).f1), .int .i64 ((rd_T32 t225 x41_2).f2), .int .i64 ((rd_T32 t225 x41_2).f3), .int .i64 0]) ?_ 4 _ rfl; (with_reducible repeat (first | refine blk_drewN ?_ _ | refine blk_drew ?_ | refine blk_alloc ?_ _)); refine blk_put (cs := #[.string ((rd_T32 t225 x41_2).f0), .int .i64 ((rd_T32 t225 x41_2).f1), .int .i64 ((rd_T32 t225 x41_2).f2), .int .i64 0, .int .i64 0]) ?_ 3 _ rfl; (with_reducible repeat (first | refine blk_drewN ?_ _ | refine blk_drew ?_ | refine blk_alloc ?_ _)); refine blk_put (cs := #[.string ((rd_T32 t225 x41_2).f0), .int .i64 ((rd_T32 t225 x41_2).f1), .int .i64 0, .int .i64 0, .int .i64 0]) ?_ 2 _ rfl; (with_reducible repeat (first | refine blk_drewN ?_ _ | refine blk_drew ?_ | refine blk_alloc ?_ _)); refine blk_put (cs := #[.string ((rd_T32 t225 x41_2).f0), .int .i64 0, .int .i64 0, .int .i64 0, .int .i64 0]) ?_ 1 _ rfl; (with_reducible repeat (first | refine blk_drewN ?_ _ | refine blk_drew ?_ | refine blk_alloc ?_ _)); refine blk_put (cs := #[.string (⟨#[]⟩ : ByteArray), .int .i64 0, .int .i64 0, .int .i64 0, .int .i64 0]) ?_ 0 _ rfl; (with_reducible repeat (first | refine blk_drewN ?_ _ | refine blk_drew ?_ | refine blk_alloc ?_ _)); exact BK237.out)) : gb237 ≠ gb238)); have n9_ := Aside0.mk ((by rw [hg]; exact Nat.ne_of_gt (blk_lt (g := gb237) (o := .cells #[.string ((rd_T32 t225 x41_2).f0), .int .i64 ((rd_T32 t225 x41_2).f1), .int .i64 ((rd_T32 t225 x41_2).f2), .int .i64 ((rd_T32 t225 x41_2).f3), .int .i64 ((rd_T32 t225 x41_2).f4)] 32 (0, 0)) (by (with_reducible repeat (first | refine blk_drewN ?_ _ | refine blk_drew ?_ | refine blk_alloc ?_ _)); refine blk_put (cs := #[.string ((rd_T32 t225 x41_2).f0), .int .i64 ((rd_T32 t225 x41_2).f1), .int .i64 ((rd_T32 t225 x41_2).f2), .int .i64 ((rd_T32 t225 x41_2).f3), .int .i64 0]) ?_ 4 _ rfl; (with_reducible repeat (first | refine blk_drewN ?_ _ | refine blk_drew ?_ | refine blk_alloc ?_ _)); refine blk_put (cs := #[.string ((rd_T32 t225 x41_2).f0), .int .i64 ((rd_T32 t225 x41_2).f1), .int .i64 ((rd_T32 t225 x41_2).f2), .int .i64 0, .int .i64 0]) ?_ 3 _ rfl; (with_reducible repeat (first | refine blk_drewN ?_ _ | refine blk_drew ?_ | refine blk_alloc ?_ _)); refine blk_put (cs := #[.string ((rd_T32 t225 x41_2).f0), .int .i64 ((rd_T32 t225 x41_2).f1), .int .i64 0, .int .i64 0, .int .i64 0]) ?_ 2 _ rfl; (with_reducible repeat (first | refine blk_drewN ?_ _ | refine blk_drew ?_ | refine blk_alloc ?_ _)); refine blk_put (cs := #[.string ((rd_T32 t225 x41_2).f0), .int .i64 0, .int .i64 0, .int .i64 0, .int .i64 0]) ?_ 1 _ rfl; (with_reducible repeat (first | refine blk_drewN ?_ _ | refine blk_drew ?_ | refine blk_alloc ?_ _)); refine blk_put (cs := #[.string (⟨#[]⟩ : ByteArray), .int .i64 0, .int .i64 0, .int .i64 0, .int .i64 0]) ?_ 0 _ rfl; (with_reducible repeat (first | refine blk_drewN ?_ _ | refine blk_drew ?_ | refine blk_alloc ?_ _)); exact BK237.out)) : gb238 ≠ gb237)); clear HO_4; clear HO_5; clear HO_39; clear BK237; clear HB; have HO_4 := n0_; have HO_5 := n1_; have HO_39 := n2_; have BK237 := n3_; have HB := n4_; have BK238 := n5_; have GW238 := n6_; have GE238 := n7_; have NB237_238 := n8_; have NB238_237 := n9_; clear n0_ n1_ n2_ n3_ n4_ n5_ n6_ n7_ n8_ n9_; clear hb hbox hg; have hnb34 := NB238_237.out; have hnc34 := NB237_238.out; have hcz35_0 : w33.cell? ⟨gb238, 0, none⟩ = some (.int .i64 0) := (blk_cell BK238.out 0).trans rfl; have hcz35_1 : w33.cell? ⟨gb238, 1, none⟩ = some (.int .i64 0) := (blk_cell BK238.out 1).trans rfl; have hcz35_2 : w33.cell? ⟨gb238, 2, none⟩ = some (.string (⟨#[]⟩ : ByteArray)) := (blk_cell BK238.out 2).trans rfl; have hfz35_0 := blk_frozen BK238.out 0; have hfz35_1 := blk_frozen BK238.out 1; have hfz35_2 := blk_frozen BK238.out 2) | ((with_reducible refine gate_callee (f := 13) rfl ?_); refine goesL_ (some 49) rfl rfl Try.func13 (by kernel_rfl) rfl #[.agg #[.int .i64 3, .int .i64 0, .string ((rd_T32 t225 x41_2).f0)]] rfl goa_ ?_; (with_reducible refine (line_Good.calls k2 3 0 ((rd_T32 t225 x41_2).f0) true _ A23.out).mono ?_); rintro e w36 ⟨rfl, hb⟩; refine ⟨_, rfl, ?_⟩; have n0_ := Aside0.mk (Kd.S_below (by (with_reducible repeat (first | apply Kd.S_alloc | apply Kd.S_drewN | apply Kd.S_drew)); exact (Kd.S_mono (Kd.S_far (p := ⟨gb238, 2, none⟩) (Kd.S_far (p := ⟨gb238, 1, none⟩) (Kd.S_far (p := ⟨gb238, 0, none⟩) (Kd.S_types HO_4.out BK238.out (by decide)) (fun _ hk => hk.2) (.int .i64 3)) (fun _ hk => hk.2) (.int .i64 0)) (fun _ hk => hk.2) (.string ((rd_T32 t225 x41_2).f0))) (fun _ h_ => h_.1))) hb); have n1_ := Aside0.mk (Kd.S_below (by (with_reducible repeat (first | apply Kd.S_alloc | apply Kd.S_drewN | apply Kd.S_drew)); exact (Kd.S_mono (Kd.S_far (p := ⟨gb238, 2, none⟩) (Kd.S_far (p := ⟨gb238, 1, none⟩) (Kd.S_far (p := ⟨gb238, 0, none⟩) (Kd.S_types HO_5.out BK238.out (by decide)) (fun _ hk => hk.2) (.int .i64 3)) (fun _ hk => hk.2) (.int .i64 0)) (fun _ hk => hk.2) (.string ((rd_T32 t225 x41_2).f0))) (fun _ h_ => h_.1))) hb); have n2_ := Aside0.mk (Kd.R_below (by (with_reducible repeat (first | apply Kd.R_alloc | apply Kd.R_drewN | apply Kd.R_drew)); exact (Kd.R_mono (Kd.R_far (p := ⟨gb238, 2, none⟩) (Kd.R_far (p := ⟨gb238, 1, none⟩) (Kd.R_far (p := ⟨gb238, 0, none⟩) (Kd.R_types HO_39.out BK238.out (by decide)) (fun _ hk => hk.2) (.int .i64 3)) (fun _ hk => hk.2) (.int .i64 0)) (fun _ hk => hk.2) (.string ((rd_T32 t225 x41_2).f0))) (fun _ h_ => h_.1))) hb); have n3_ := Aside0.mk (blk_below (g := gb237) (o := .cells #[.string ((rd_T32 t225 x41_2).f0), .int .i64 ((rd_T32 t225 x41_2).f1), .int .i64 ((rd_T32 t225 x41_2).f2), .int .i64 ((rd_T32 t225 x41_2).f3), .int .i64 ((rd_T32 t225 x41_2).f4)] 32 (0, 0)) (by (with_reducible repeat (first | refine blk_drewN ?_ _ | refine blk_drew ?_ | refine blk_alloc ?_ _)); refine blk_far ?_ NB237_238.out _; (with_reducible repeat (first | refine blk_drewN ?_ _ | refine blk_drew ?_ | refine blk_alloc ?_ _)); refine blk_far ?_ NB237_238.out _; (with_reducible repeat (first | refine blk_drewN ?_ _ | refine blk_drew ?_ | refine blk_alloc ?_ _)); refine blk_far ?_ NB237_238.out _; (with_reducible repeat (first | refine blk_drewN ?_ _ | refine blk_drew ?_ | refine blk_alloc ?_ _)); exact BK237.out) hb); have n4_ := Aside0.mk (blk_below (g := gb238) (o := .cells #[.int .i64 3, .int .i64 0, .string ((rd_T32 t225 x41_2).f0)] 34 (0, 0)) (by (with_reducible repeat (first | refine blk_drewN ?_ _ | refine blk_drew ?_ | refine blk_alloc ?_ _)); refine blk_put (cs := #[.int .i64 3, .int .i64 0, .string (⟨#[]⟩ : ByteArray)]) ?_ 2 _ rfl; (with_reducible repeat (first | refine blk_drewN ?_ _ | refine blk_drew ?_ | refine blk_alloc ?_ _)); refine blk_put (cs := #[.int .i64 3, .int .i64 0, .string (⟨#[]⟩ : ByteArray)]) ?_ 1 _ rfl; (with_reducible repeat (first | refine blk_drewN ?_ _ | refine blk_drew ?_ | refine blk_alloc ?_ _)); refine blk_put (cs := #[.int .i64 0, .int .i64 0, .string (⟨#[]⟩ : ByteArray)]) ?_ 0 _ rfl; (with_reducible repeat (first | refine blk_drewN ?_ _ | refine blk_drew ?_ | refine blk_alloc ?_ _)); exact BK238.out) hb); have n5_ := Aside0.mk (below_step bel_ hb); clear HO_4; clear HO_5; clear HO_39; clear BK237; clear BK238; clear HB; have HO_4 := n0_; have HO_5 := n1_; have HO_39 := n2_; have BK237 := n3_; have BK238 := n4_; have HB := n5_; clear n0_ n1_ n2_ n3_ n4_ n5_; clear hb; have hcz37_0 : w36.cell? ⟨gb238, 0, none⟩ = some (.int .i64 3) := (blk_cell BK238.out 0).trans rfl; have hcz37_1 : w36.cell? ⟨gb238, 1, none⟩ = some (.int .i64 0) := (blk_cell BK238.out 1).trans rfl; have hcz37_2 : w36.cell? ⟨gb238, 2, none⟩ = some (.string ((rd_T32 t225 x41_2).f0)) := (blk_cell BK238.out 2).trans rfl; have hfz37_0 := blk_frozen BK238.out 0; have hfz37_1 := blk_frozen BK238.out 1; have hfz37_2 := blk_frozen BK238.out 2; obtain ⟨Ao38, co38, eo38⟩ := Kd.S_slice HO_4.out; subst eo38) | ((with_reducible refine gate_callee (f := 14) rfl ?_); refine goesL_ (some 55) rfl rfl Try.func14 (by kernel_rfl) rfl #[.slice Ao38 t228.length co38, .agg #[.int .i64 3, .int .i64 0, .string ((rd_T32 t225 x41_2).f0)], .agg #[.int .i64 3, .int .i64 0, .string ((rd_T32 t225 x41_2).f0)]] rfl goa_ ?_; (with_reducible refine (resolve_Span.calls k2 _ _ t228 3 0 ((rd_T32 t225 x41_2).f0) 3 0 ((rd_T32 t225 x41_2).f0) t240 t241 t242 t243 t244 _ ?side1 ?side2 A25.out).mono ?_); (case side1 => repeat (first | exact (Kd.S_reads' HO_4.out).2.2 | (with_reducible refine Kd.C_alloc ?_ _) | (with_reducible refine Kd.C_drewN ?_ _) | (with_reducible refine Kd.C_drew ?_))); (case side2 => exact (Kd.S_reads' HO_4.out).2.1); rintro e w39 ⟨rfl, hb⟩; refine ⟨_, rfl, ?_⟩; have n0_ := Aside0.mk (Kd.S_below (by (with_reducible repeat (first | apply Kd.S_alloc | apply Kd.S_drewN | apply Kd.S_drew)); exact HO_4.out) hb); have n1_ := Aside0.mk (Kd.S_below (by (with_reducible repeat (first | apply Kd.S_alloc | apply Kd.S_drewN | apply Kd.S_drew)); exact HO_5.out) hb); have n2_ := Aside0.mk (Kd.R_below (by (with_reducible repeat (first | apply Kd.R_alloc | apply Kd.R_drewN | apply Kd.R_drew)); exact HO_39.out) hb); have n3_ := blb_ BK237 hb; have n4_ := blb_ BK238 hb; have n5_ := Aside0.mk (below_step bel_ hb); clear HO_4; clear HO_5; clear HO_39; clear BK237; clear BK238; clear HB; have HO_4 := n0_; have HO_5 := n1_; have HO_39 := n2_; have BK237 := n3_; have BK238 := n4_; have HB := n5_; clear n0_ n1_ n2_ n3_ n4_ n5_; clear hb) | ((with_reducible refine gate_dst (N := 9) rfl ?_); (try (refine gate_guard (by rfl) ?_; dsimp only)); refine box_event ?hg (N := 9) ?hd (cs := #[.bool false, .int .i64 0, .int .i64 0, .int .i64 0]) (t := 37) ?hr ?_; (case hd => rfl); (case hg => rfl); (case hr => first | (go_simp; done) | (go_simp; rfl)); intro gb245 hg w40 hbox hb; have n0_ := Aside0.mk (Kd.S_below (by (with_reducible repeat (first | apply Kd.S_alloc | apply Kd.S_drewN | apply Kd.S_drew)); exact HO_4.out) hb); have n1_ := Aside0.mk (Kd.S_below (by (with_reducible repeat (first | apply Kd.S_alloc | apply Kd.S_drewN | apply Kd.S_drew)); exact HO_5.out) hb); have n2_ := Aside0.mk (Kd.R_below (by (with_reducible repeat (first | apply Kd.R_alloc | apply Kd.R_drewN | apply Kd.R_drew)); exact HO_39.out) hb); have n3_ := blb_ BK237 hb; have n4_ := blb_ BK238 hb; have n5_ := Aside0.mk (below_step bel_ hb); have n6_ := Aside0.mk (hbox); have n7_ := Aside0.mk ((bsz_ hg : w.heap.size ≤ gb245)); have n8_ := Aside0.mk ((bsz_ hg : w.heap.size ≤ gb245)); have n9_ := Aside0.mk (bne_ BK237 hg : gb237 ≠ gb245); have n10_ := Aside0.mk (bng_ BK237 hg : gb245 ≠ gb237); have n11_ := Aside0.mk (bne_ BK238 hg : gb238 ≠ gb245); have n12_ := Aside0.mk (bng_ BK238 hg : gb245 ≠ gb238); clear HO_4; clear HO_5; clear HO_39; clear BK237; clear BK238; clear HB; have HO_4 := n0_; have HO_5 := n1_; have HO_39 := n2_; have BK237 := n3_; have BK238 := n4_; have HB := n5_; have BK245 := n6_; have GW245 := n7_; have GE245 := n8_; have NB237_245 := n9_; have NB245_237 := n10_; have NB238_245 := n11_; have NB245_238 := n12_; clear n0_ n1_ n2_ n3_ n4_ n5_ n6_ n7_ n8_ n9_ n10_ n11_ n12_; clear hb hbox hg; have hnb41 := NB245_237.out; have hnc41 := NB237_245.out; have hnb42 := NB245_238.out; have hnc42 := NB238_245.out; have hcz43_0 : w40.cell? ⟨gb245, 0, none⟩ = some (.bool false) := (blk_cell BK245.out 0).trans rfl; have hcz43_1 : w40.cell? ⟨gb245, 1, none⟩ = some (.int .i64 0) := (blk_cell BK245.out 1).trans rfl; have hcz43_2 : w40.cell? ⟨gb245, 2, none⟩ = some (.int .i64 0) := (blk_cell BK245.out 2).trans rfl; have hcz43_3 : w40.cell? ⟨gb245, 3, none⟩ = some (.int .i64 0) := (blk_cell BK245.out 3).trans rfl; have hfz43_0 := blk_frozen BK245.out 0; have hfz43_1 := blk_frozen BK245.out 1; have hfz43_2 := blk_frozen BK245.out 2; have hfz43_3 := blk_frozen BK245.out 3; have hcz44_0 : w40.cell? ⟨gb238, 0, none⟩ = some (.int .i64 3) := (blk_cell BK238.out 0).trans rfl; have hcz44_1 : w40.cell? ⟨gb238, 1, none⟩ = some (.int .i64 0) := (blk_cell BK238.out 1).trans rfl; have hcz44_2 : w40.cell? ⟨gb238, 2, none⟩ = some (.string ((rd_T32 t225 x41_2).f0)) := (blk_cell BK238.out 2).trans rfl; have hfz44_0 := blk_frozen BK238.out 0; have hfz44_1 := blk_frozen BK238.out 1; have hfz44_2 := blk_frozen BK238.out 2; obtain ⟨Ao45, co45, eo45⟩ := Kd.S_slice HO_5.out; subst eo45) | ((with_reducible refine gate_callee (f := 14) rfl ?_); refine goesL_ (some 62) rfl rfl Try.func14 (by kernel_rfl) rfl #[.slice Ao45 t232.length co45, .agg #[.int .i64 3, .int .i64 0, .string ((rd_T32 t225 x41_2).f0)], .agg #[.int .i64 3, .int .i64 0, .string ((rd_T32 t225 x41_2).f0)]] rfl goa_ ?_; (with_reducible refine (resolve_Span.calls k2 _ _ t232 3 0 ((rd_T32 t225 x41_2).f0) 3 0 ((rd_T32 t225 x41_2).f0) t246 t247 t248 t249 t250 _ ?side1 ?side2 A26.out).mono ?_); (case side1 => refine (Kd.S_reads' (e := 28) (base := w.heap.size) (ok := fun k_ => some k_ ≠ (.slice Ao38 t228.length co38 : Value).ownBlock) (n := t232.length) (c := co45) ?_).2.2; exact (by (with_reducible repeat (first | apply Kd.S_alloc | apply Kd.S_drewN | apply Kd.S_drew)); exact (Kd.S_mono (Kd.S_far (p := ⟨gb245, 3, none⟩) (Kd.S_far (p := ⟨gb245, 2, none⟩) (Kd.S_far (p := ⟨gb245, 1, none⟩) (Kd.S_far (p := ⟨gb245, 0, none⟩) (Kd.S_types HO_5.out BK245.out (by decide)) (fun _ hk => hk.2) (.bool t240)) (fun _ hk => hk.2) (.int .i64 t241)) (fun _ hk => hk.2) (.int .i64 t242)) (fun _ hk => hk.2) (.int .i64 t243)) (fun _ h_ => h_.1)))); (case side2 => exact (Kd.S_reads' HO_5.out).2.1); rintro e w46 ⟨rfl, hb⟩; refine ⟨_, rfl, ?_⟩; have n0_ := Aside0.mk (Kd.S_below (by (with_reducible repeat (first | apply Kd.S_alloc | apply Kd.S_drewN | apply Kd.S_drew)); exact (Kd.S_mono (Kd.S_far (p := ⟨gb245, 3, none⟩) (Kd.S_far (p := ⟨gb245, 2, none⟩) (Kd.S_far (p := ⟨gb245, 1, none⟩) (Kd.S_far (p := ⟨gb245, 0, none⟩) (Kd.S_types HO_4.out BK245.out (by decide)) (fun _ hk => hk.2) (.bool t240)) (fun _ hk => hk.2) (.int .i64 t241)) (fun _ hk => hk.2) (.int .i64 t242)) (fun _ hk => hk.2) (.int .i64 t243)) (fun _ h_ => h_.1))) hb); have n1_ := Aside0.mk (Kd.S_below (by (with_reducible repeat (first | apply Kd.S_alloc | apply Kd.S_drewN | apply Kd.S_drew)); exact (Kd.S_mono (Kd.S_far (p := ⟨gb245, 3, none⟩) (Kd.S_far (p := ⟨gb245, 2, none⟩) (Kd.S_far (p := ⟨gb245, 1, none⟩) (Kd.S_far (p := ⟨gb245, 0, none⟩) (Kd.S_types HO_5.out BK245.out (by decide)) (fun _ hk => hk.2) (.bool t240)) (fun _ hk => hk.2) (.int .i64 t241)) (fun _ hk => hk.2) (.int .i64 t242)) (fun _ hk => hk.2) (.int .i64 t243)) (fun _ h_ => h_.1))) hb); have n2_ := Aside0.mk (Kd.R_below (by (with_reducible repeat (first | apply Kd.R_alloc | apply Kd.R_drewN | apply Kd.R_drew)); exact (Kd.R_mono (Kd.R_far (p := ⟨gb245, 3, none⟩) (Kd.R_far (p := ⟨gb245, 2, none⟩) (Kd.R_far (p := ⟨gb245, 1, none⟩) (Kd.R_far (p := ⟨gb245, 0, none⟩) (Kd.R_types HO_39.out BK245.out (by decide)) (fun _ hk => hk.2) (.bool t240)) (fun _ hk => hk.2) (.int .i64 t241)) (fun _ hk => hk.2) (.int .i64 t242)) (fun _ hk => hk.2) (.int .i64 t243)) (fun _ h_ => h_.1))) hb); have n3_ := Aside0.mk (blk_below (g := gb237) (o := .cells #[.string ((rd_T32 t225 x41_2).f0), .int .i64 ((rd_T32 t225 x41_2).f1), .int .i64 ((rd_T32 t225 x41_2).f2), .int .i64 ((rd_T32 t225 x41_2).f3), .int .i64 ((rd_T32 t225 x41_2).f4)] 32 (0, 0)) (by (with_reducible repeat (first | refine blk_drewN ?_ _ | refine blk_drew ?_ | refine blk_alloc ?_ _)); refine blk_far ?_ NB237_245.out _; (with_reducible repeat (first | refine blk_drewN ?_ _ | refine blk_drew ?_ | refine blk_alloc ?_ _)); refine blk_far ?_ NB237_245.out _; (with_reducible repeat (first | refine blk_drewN ?_ _ | refine blk_drew ?_ | refine blk_alloc ?_ _)); refine blk_far ?_ NB237_245.out _; (with_reducible repeat (first | refine blk_drewN ?_ _ | refine blk_drew ?_ | refine blk_alloc ?_ _)); refine blk_far ?_ NB237_245.out _; (with_reducible repeat (first | refine blk_drewN ?_ _ | refine blk_drew ?_ | refine blk_alloc ?_ _)); exact BK237.out) hb); have n4_ := Aside0.mk (blk_below (g := gb238) (o := .cells #[.int .i64 3, .int .i64 0, .string ((rd_T32 t225 x41_2).f0)] 34 (0, 0)) (by (with_reducible repeat (first | refine blk_drewN ?_ _ | refine blk_drew ?_ | refine blk_alloc ?_ _)); refine blk_far ?_ NB238_245.out _; (with_reducible repeat (first | refine blk_drewN ?_ _ | refine blk_drew ?_ | refine blk_alloc ?_ _)); refine blk_far ?_ NB238_245.out _; (with_reducible repeat (first | refine blk_drewN ?_ _ | refine blk_drew ?_ | refine blk_alloc ?_ _)); refine blk_far ?_ NB238_245.out _; (with_reducible repeat (first | refine blk_drewN ?_ _ | refine blk_drew ?_ | refine blk_alloc ?_ _)); refine blk_far ?_ NB238_245.out _; (with_reducible repeat (first | refine blk_drewN ?_ _ | refine blk_drew ?_ | refine blk_alloc ?_ _)); exact BK238.out) hb); have n5_ := Aside0.mk (blk_below (g := gb245) (o := .cells #[.bool t240, .int .i64 t241, .int .i64 t242, .int .i64 t243] 37 (0, 0)) (by (with_reducible repeat (first | refine blk_drewN ?_ _ | refine blk_drew ?_ | refine blk_alloc ?_ _)); refine blk_put (cs := #[.bool t240, .int .i64 t241, .int .i64 t242, .int .i64 0]) ?_ 3 _ rfl; (with_reducible repeat (first | refine blk_drewN ?_ _ | refine blk_drew ?_ | refine blk_alloc ?_ _)); refine blk_put (cs := #[.bool t240, .int .i64 t241, .int .i64 0, .int .i64 0]) ?_ 2 _ rfl; (with_reducible repeat (first | refine blk_drewN ?_ _ | refine blk_drew ?_ | refine blk_alloc ?_ _)); refine blk_put (cs := #[.bool t240, .int .i64 0, .int .i64 0, .int .i64 0]) ?_ 1 _ rfl; (with_reducible repeat (first | refine blk_drewN ?_ _ | refine blk_drew ?_ | refine blk_alloc ?_ _)); refine blk_put (cs := #[.bool false, .int .i64 0, .int .i64 0, .int .i64 0]) ?_ 0 _ rfl; (with_reducible repeat (first | refine blk_drewN ?_ _ | refine blk_drew ?_ | refine blk_alloc ?_ _)); exact BK245.out) hb); have n6_ := Aside0.mk (below_step bel_ hb); clear HO_4; clear HO_5; clear HO_39; clear BK237; clear BK238; clear BK245; clear HB; have HO_4 := n0_; have HO_5 := n1_; have HO_39 := n2_; have BK237 := n3_; have BK238 := n4_; have BK245 := n5_; have HB := n6_; clear n0_ n1_ n2_ n3_ n4_ n5_ n6_; clear hb) | ((with_reducible refine gate_dst (N := 11) rfl ?_); (try (refine gate_guard (by rfl) ?_; dsimp only)); refine box_event ?hg (N := 11) ?hd (cs := #[.bool false, .int .i64 0, .int .i64 0, .int .i64 0]) (t := 37) ?hr ?_; (case hd => rfl); (case hg => rfl); (case hr => first | (go_simp; done) | (go_simp; rfl)); intro gb251 hg w47 hbox hb; have n0_ := Aside0.mk (Kd.S_below (by (with_reducible repeat (first | apply Kd.S_alloc | apply Kd.S_drewN | apply Kd.S_drew)); exact HO_4.out) hb); have n1_ := Aside0.mk (Kd.S_below (by (with_reducible repeat (first | apply Kd.S_alloc | apply Kd.S_drewN | apply Kd.S_drew)); exact HO_5.out) hb); have n2_ := Aside0.mk (Kd.R_below (by (with_reducible repeat (first | apply Kd.R_alloc | apply Kd.R_drewN | apply Kd.R_drew)); exact HO_39.out) hb); have n3_ := blb_ BK237 hb; have n4_ := blb_ BK238 hb; have n5_ := blb_ BK245 hb; have n6_ := Aside0.mk (below_step bel_ hb); have n7_ := Aside0.mk (hbox); have n8_ := Aside0.mk ((bsz_ hg : w.heap.size ≤ gb251)); have n9_ := Aside0.mk ((bsz_ hg : w.heap.size ≤ gb251)); have n10_ := Aside0.mk (bne_ BK237 hg : gb237 ≠ gb251); have n11_ := Aside0.mk (bng_ BK237 hg : gb251 ≠ gb237); have n12_ := Aside0.mk (bne_ BK238 hg : gb238 ≠ gb251); have n13_ := Aside0.mk (bng_ BK238 hg : gb251 ≠ gb238); have n14_ := Aside0.mk (bne_ BK245 hg : gb245 ≠ gb251); have n15_ := Aside0.mk (bng_ BK245 hg : gb251 ≠ gb245); clear HO_4; clear HO_5; clear HO_39; clear BK237; clear BK238; clear BK245; clear HB; have HO_4 := n0_; have HO_5 := n1_; have HO_39 := n2_; have BK237 := n3_; have BK238 := n4_; have BK245 := n5_; have HB := n6_; have BK251 := n7_; have GW251 := n8_; have GE251 := n9_; have NB237_251 := n10_; have NB251_237 := n11_; have NB238_251 := n12_; have NB251_238 := n13_; have NB245_251 := n14_; have NB251_245 := n15_; clear n0_ n1_ n2_ n3_ n4_ n5_ n6_ n7_ n8_ n9_ n10_ n11_ n12_ n13_ n14_ n15_; clear hb hbox hg; have hnb48 := NB251_237.out; have hnc48 := NB237_251.out; have hnb49 := NB251_238.out; have hnc49 := NB238_251.out; have hnb50 := NB251_245.out; have hnc50 := NB245_251.out; have hcz51_0 : w47.cell? ⟨gb251, 0, none⟩ = some (.bool false) := (blk_cell BK251.out 0).trans rfl; have hcz51_1 : w47.cell? ⟨gb251, 1, none⟩ = some (.int .i64 0) := (blk_cell BK251.out 1).trans rfl; have hcz51_2 : w47.cell? ⟨gb251, 2, none⟩ = some (.int .i64 0) := (blk_cell BK251.out 2).trans rfl; have hcz51_3 : w47.cell? ⟨gb251, 3, none⟩ = some (.int .i64 0) := (blk_cell BK251.out 3).trans rfl; have hfz51_0 := blk_frozen BK251.out 0; have hfz51_1 := blk_frozen BK251.out 1; have hfz51_2 := blk_frozen BK251.out 2; have hfz51_3 := blk_frozen BK251.out 3; have hcz52_0 : w47.cell? ⟨gb245, 0, none⟩ = some (.bool t240) := (blk_cell BK245.out 0).trans rfl; have hcz52_1 : w47.cell? ⟨gb245, 1, none⟩ = some (.int .i64 t241) := (blk_cell BK245.out 1).trans rfl; have hcz52_2 : w47.cell? ⟨gb245, 2, none⟩ = some (.int .i64 t242) := (blk_cell BK245.out 2).trans rfl; have hcz52_3 : w47.cell? ⟨gb245, 3, none⟩ = some (.int .i64 t243) := (blk_cell BK245.out 3).trans rfl; have hfz52_0 := blk_frozen BK245.out 0; have hfz52_1 := blk_frozen BK245.out 1; have hfz52_2 := blk_frozen BK245.out 2; have hfz52_3 := blk_frozen BK245.out 3; have hcz53_0 : w47.cell? ⟨gb237, 0, none⟩ = some (.string ((rd_T32 t225 x41_2).f0)) := (blk_cell BK237.out 0).trans rfl; have hcz53_1 : w47.cell? ⟨gb237, 1, none⟩ = some (.int .i64 ((rd_T32 t225 x41_2).f1)) := (blk_cell BK237.out 1).trans rfl; have hcz53_2 : w47.cell? ⟨gb237, 2, none⟩ = some (.int .i64 ((rd_T32 t225 x41_2).f2)) := (blk_cell BK237.out 2).trans rfl; have hcz53_3 : w47.cell? ⟨gb237, 3, none⟩ = some (.int .i64 ((rd_T32 t225 x41_2).f3)) := (blk_cell BK237.out 3).trans rfl; have hcz53_4 : w47.cell? ⟨gb237, 4, none⟩ = some (.int .i64 ((rd_T32 t225 x41_2).f4)) := (blk_cell BK237.out 4).trans rfl; have hfz53_0 := blk_frozen BK237.out 0; have hfz53_1 := blk_frozen BK237.out 1; have hfz53_2 := blk_frozen BK237.out 2; have hfz53_3 := blk_frozen BK237.out 3; have hfz53_4 := blk_frozen BK237.out 4))
               go_roundg k2
               case measure => have := HJ1.out; have := HK2.out; omega
               case rel => exact ⟨(wrap64 (x41_2 + 1)), rfs_, H', ⟨by have := HJ1.out; have := HK2.out; omega⟩, ⟨by (with_reducible repeat (first | apply Kd.S_alloc | apply Kd.S_drewN | apply Kd.S_drew)); exact Kd.S_mono (Kd.S_far (p := ⟨gb251, 3, none⟩) (Kd.S_far (p := ⟨gb251, 2, none⟩) (Kd.S_far (p := ⟨gb251, 1, none⟩) (Kd.S_far (p := ⟨gb251, 0, none⟩) (Kd.S_types HO_4.out BK251.out (by decide)) (fun _ hk => hk.2) (.bool t246)) (fun _ hk => hk.2) (.int .i64 t247)) (fun _ hk => hk.2) (.int .i64 t248)) (fun _ hk => hk.2) (.int .i64 t249)) (fun _ hk => hk.1)⟩, ⟨by (with_reducible repeat (first | apply Kd.S_alloc | apply Kd.S_drewN | apply Kd.S_drew)); exact Kd.S_mono (Kd.S_far (p := ⟨gb251, 3, none⟩) (Kd.S_far (p := ⟨gb251, 2, none⟩) (Kd.S_far (p := ⟨gb251, 1, none⟩) (Kd.S_far (p := ⟨gb251, 0, none⟩) (Kd.S_types HO_5.out BK251.out (by decide)) (fun _ hk => hk.2) (.bool t246)) (fun _ hk => hk.2) (.int .i64 t247)) (fun _ hk => hk.2) (.int .i64 t248)) (fun _ hk => hk.2) (.int .i64 t249)) (fun _ hk => hk.1)⟩, ⟨by (with_reducible repeat (first | apply Kd.R_alloc | apply Kd.R_drewN | apply Kd.R_drew)); exact Kd.R_mono (Kd.R_far (p := ⟨gb251, 3, none⟩) (Kd.R_far (p := ⟨gb251, 2, none⟩) (Kd.R_far (p := ⟨gb251, 1, none⟩) (Kd.R_far (p := ⟨gb251, 0, none⟩) (Kd.R_types HO_39.out BK251.out (by decide)) (fun _ hk => hk.2) (.bool t246)) (fun _ hk => hk.2) (.int .i64 t247)) (fun _ hk => hk.2) (.int .i64 t248)) (fun _ hk => hk.2) (.int .i64 t249)) (fun _ hk => trivial)⟩, ⟨bel_⟩⟩
            ·rw [if_neg c28] at H
             exact absurd H (by simp)
           ·rw [if_neg c27] at H
            exact absurd H (by simp)
          ·replace c24 := Bool.eq_false_iff.mpr c24
           subst c24
           rw [if_neg (show ¬ (false = true) by decide)] at H
           have H' := Aside0.mk H
           clear H
           have p236 : 0 ≤ (x41_2 : Int) := of_decide_eq_true (by first | (with_reducible assumption) | assumption)
           have q236 : x41_2 < (t225.length : Int) := of_decide_eq_true (by first | (with_reducible assumption) | assumption)
           obtain ⟨ad236, e236, hx236_0, hx236_1, hx236_2, hx236_3, hx236_4⟩ := at_T32 (Kd.R_reads' HO_39.out).2.2 x41_2 p236 q236
           cases e236
           replace p236 := eq_true p236
           replace q236 := eq_true q236
           go_wp2_with (first | ((with_reducible refine gate_dst (N := 7) rfl ?_); (try (refine gate_guard (by rfl) ?_; dsimp only)); refine box_event ?hg (N := 7) ?hd (cs := #[.string (⟨#[]⟩ : ByteArray), .int .i64 0, .int .i64 0, .int .i64 0, .int .i64 0]) (t := 32) ?hr ?_; (case hd => rfl); (case hg => rfl); (case hr => first | (go_simp; done) | (go_simp; rfl)); intro gb237 hg w54 hbox hb; have n0_ := Aside0.mk (Kd.S_below (by (with_reducible repeat (first | apply Kd.S_alloc | apply Kd.S_drewN | apply Kd.S_drew)); exact HO_4.out) hb); have n1_ := Aside0.mk (Kd.S_below (by (with_reducible repeat (first | apply Kd.S_alloc | apply Kd.S_drewN | apply Kd.S_drew)); exact HO_5.out) hb); have n2_ := Aside0.mk (Kd.R_below (Kd.R_elderB (by (with_reducible repeat (first | apply Kd.R_alloc | apply Kd.R_drewN | apply Kd.R_drew)); exact HO_39.out) gb237 (Nat.le_of_eq hg.symm)) hb); have n3_ := Aside0.mk (below_step bel_ hb); have n4_ := Aside0.mk (hbox); have n5_ := Aside0.mk ((bsz_ hg : w.heap.size ≤ gb237)); have n6_ := Aside0.mk ((bsz_ hg : w.heap.size ≤ gb237)); clear HO_4; clear HO_5; clear HO_39; clear HB; have HO_4 := n0_; have HO_5 := n1_; have HO_39 := n2_; have HB := n3_; have BK237 := n4_; have GW237 := n5_; have GE237 := n6_; clear n0_ n1_ n2_ n3_ n4_ n5_ n6_; clear hb hbox hg; have hcz55_0 : w54.cell? ⟨gb237, 0, none⟩ = some (.string (⟨#[]⟩ : ByteArray)) := (blk_cell BK237.out 0).trans rfl; have hcz55_1 : w54.cell? ⟨gb237, 1, none⟩ = some (.int .i64 0) := (blk_cell BK237.out 1).trans rfl; have hcz55_2 : w54.cell? ⟨gb237, 2, none⟩ = some (.int .i64 0) := (blk_cell BK237.out 2).trans rfl; have hcz55_3 : w54.cell? ⟨gb237, 3, none⟩ = some (.int .i64 0) := (blk_cell BK237.out 3).trans rfl; have hcz55_4 : w54.cell? ⟨gb237, 4, none⟩ = some (.int .i64 0) := (blk_cell BK237.out 4).trans rfl; have hfz55_0 := blk_frozen BK237.out 0; have hfz55_1 := blk_frozen BK237.out 1; have hfz55_2 := blk_frozen BK237.out 2; have hfz55_3 := blk_frozen BK237.out 3; have hfz55_4 := blk_frozen BK237.out 4) | ((with_reducible refine gate_dst (N := 8) rfl ?_); (try (refine gate_guard (by rfl) ?_; dsimp only)); refine box_event ?hg (N := 8) ?hd (cs := #[.int .i64 0, .int .i64 0, .string (⟨#[]⟩ : ByteArray)]) (t := 34) ?hr ?_; (case hd => rfl); (case hg => rfl); (case hr => first | (go_simp; done) | (go_simp; rfl)); intro gb238 hg w56 hbox hb; have n0_ := Aside0.mk (Kd.S_below (by (with_reducible repeat (first | apply Kd.S_alloc | apply Kd.S_drewN | apply Kd.S_drew)); exact (Kd.S_mono (Kd.S_far (p := ⟨gb237, 4, none⟩) (Kd.S_far (p := ⟨gb237, 3, none⟩) (Kd.S_far (p := ⟨gb237, 2, none⟩) (Kd.S_far (p := ⟨gb237, 1, none⟩) (Kd.S_far (p := ⟨gb237, 0, none⟩) (Kd.S_types HO_4.out BK237.out (by decide)) (fun _ hk => hk.2) (.string ((rd_T32 t225 x41_2).f0))) (fun _ hk => hk.2) (.int .i64 ((rd_T32 t225 x41_2).f1))) (fun _ hk => hk.2) (.int .i64 ((rd_T32 t225 x41_2).f2))) (fun _ hk => hk.2) (.int .i64 ((rd_T32 t225 x41_2).f3))) (fun _ hk => hk.2) (.int .i64 ((rd_T32 t225 x41_2).f4))) (fun _ h_ => h_.1))) hb); have n1_ := Aside0.mk (Kd.S_below (by (with_reducible repeat (first | apply Kd.S_alloc | apply Kd.S_drewN | apply Kd.S_drew)); exact (Kd.S_mono (Kd.S_far (p := ⟨gb237, 4, none⟩) (Kd.S_far (p := ⟨gb237, 3, none⟩) (Kd.S_far (p := ⟨gb237, 2, none⟩) (Kd.S_far (p := ⟨gb237, 1, none⟩) (Kd.S_far (p := ⟨gb237, 0, none⟩) (Kd.S_types HO_5.out BK237.out (by decide)) (fun _ hk => hk.2) (.string ((rd_T32 t225 x41_2).f0))) (fun _ hk => hk.2) (.int .i64 ((rd_T32 t225 x41_2).f1))) (fun _ hk => hk.2) (.int .i64 ((rd_T32 t225 x41_2).f2))) (fun _ hk => hk.2) (.int .i64 ((rd_T32 t225 x41_2).f3))) (fun _ hk => hk.2) (.int .i64 ((rd_T32 t225 x41_2).f4))) (fun _ h_ => h_.1))) hb); have n2_ := Aside0.mk (Kd.R_below (by (with_reducible repeat (first | apply Kd.R_alloc | apply Kd.R_drewN | apply Kd.R_drew)); exact (Kd.R_mono (Kd.R_far (p := ⟨gb237, 4, none⟩) (Kd.R_far (p := ⟨gb237, 3, none⟩) (Kd.R_far (p := ⟨gb237, 2, none⟩) (Kd.R_far (p := ⟨gb237, 1, none⟩) (Kd.R_far (p := ⟨gb237, 0, none⟩) (Kd.R_mono HO_39.out (fun k_ hk => (⟨hk, hk.2⟩ : _ ∧ k_ ≠ gb237))) (fun _ hk => hk.2) (.string ((rd_T32 t225 x41_2).f0))) (fun _ hk => hk.2) (.int .i64 ((rd_T32 t225 x41_2).f1))) (fun _ hk => hk.2) (.int .i64 ((rd_T32 t225 x41_2).f2))) (fun _ hk => hk.2) (.int .i64 ((rd_T32 t225 x41_2).f3))) (fun _ hk => hk.2) (.int .i64 ((rd_T32 t225 x41_2).f4))) (fun _ h_ => h_.1))) hb); have n3_ := Aside0.mk (blk_below (g := gb237) (o := .cells #[.string ((rd_T32 t225 x41_2).f0), .int .i64 ((rd_T32 t225 x41_2).f1), .int .i64 ((rd_T32 t225 x41_2).f2), .int .i64 ((rd_T32 t225 x41_2).f3), .int .i64 ((rd_T32 t225 x41_2).f4)] 32 (0, 0)) (by (with_reducible repeat (first | refine blk_drewN ?_ _ | refine blk_drew ?_ | refine blk_alloc ?_ _)); refine blk_put (cs := #[.string ((rd_T32 t225 x41_2).f0), .int .i64 ((rd_T32 t225 x41_2).f1), .int .i64 ((rd_T32 t225 x41_2).f2), .int .i64 ((rd_T32 t225 x41_2).f3), .int .i64 0]) ?_ 4 _ rfl; (with_reducible repeat (first | refine blk_drewN ?_ _ | refine blk_drew ?_ | refine blk_alloc ?_ _)); refine blk_put (cs := #[.string ((rd_T32 t225 x41_2).f0), .int .i64 ((rd_T32 t225 x41_2).f1), .int .i64 ((rd_T32 t225 x41_2).f2), .int .i64 0, .int .i64 0]) ?_ 3 _ rfl; (with_reducible repeat (first | refine blk_drewN ?_ _ | refine blk_drew ?_ | refine blk_alloc ?_ _)); refine blk_put (cs := #[.string ((rd_T32 t225 x41_2).f0), .int .i64 ((rd_T32 t225 x41_2).f1), .int .i64 0, .int .i64 0, .int .i64 0]) ?_ 2 _ rfl; (with_reducible repeat (first | refine blk_drewN ?_ _ | refine blk_drew ?_ | refine blk_alloc ?_ _)); refine blk_put (cs := #[.string ((rd_T32 t225 x41_2).f0), .int .i64 0, .int .i64 0, .int .i64 0, .int .i64 0]) ?_ 1 _ rfl; (with_reducible repeat (first | refine blk_drewN ?_ _ | refine blk_drew ?_ | refine blk_alloc ?_ _)); refine blk_put (cs := #[.string (⟨#[]⟩ : ByteArray), .int .i64 0, .int .i64 0, .int .i64 0, .int .i64 0]) ?_ 0 _ rfl; (with_reducible repeat (first | refine blk_drewN ?_ _ | refine blk_drew ?_ | refine blk_alloc ?_ _)); exact BK237.out) hb); have n4_ := Aside0.mk (below_step bel_ hb); have n5_ := Aside0.mk (hbox); have n6_ := Aside0.mk ((bsz_ hg : w.heap.size ≤ gb238)); have n7_ := Aside0.mk ((bsz_ hg : w.heap.size ≤ gb238)); have n8_ := Aside0.mk ((by rw [hg]; exact Nat.ne_of_lt (blk_lt (g := gb237) (o := .cells #[.string ((rd_T32 t225 x41_2).f0), .int .i64 ((rd_T32 t225 x41_2).f1), .int .i64 ((rd_T32 t225 x41_2).f2), .int .i64 ((rd_T32 t225 x41_2).f3), .int .i64 ((rd_T32 t225 x41_2).f4)] 32 (0, 0)) (by (with_reducible repeat (first | refine blk_drewN ?_ _ | refine blk_drew ?_ | refine blk_alloc ?_ _)); refine blk_put (cs := #[.string ((rd_T32 t225 x41_2).f0), .int .i64 ((rd_T32 t225 x41_2).f1), .int .i64 ((rd_T32 t225 x41_2).f2), .int .i64 ((rd_T32 t225 x41_2).f3), .int .i64 0]) ?_ 4 _ rfl; (with_reducible repeat (first | refine blk_drewN ?_ _ | refine blk_drew ?_ | refine blk_alloc ?_ _)); refine blk_put (cs := #[.string ((rd_T32 t225 x41_2).f0), .int .i64 ((rd_T32 t225 x41_2).f1), .int .i64 ((rd_T32 t225 x41_2).f2), .int .i64 0, .int .i64 0]) ?_ 3 _ rfl; (with_reducible repeat (first | refine blk_drewN ?_ _ | refine blk_drew ?_ | refine blk_alloc ?_ _)); refine blk_put (cs := #[.string ((rd_T32 t225 x41_2).f0), .int .i64 ((rd_T32 t225 x41_2).f1), .int .i64 0, .int .i64 0, .int .i64 0]) ?_ 2 _ rfl; (with_reducible repeat (first | refine blk_drewN ?_ _ | refine blk_drew ?_ | refine blk_alloc ?_ _)); refine blk_put (cs := #[.string ((rd_T32 t225 x41_2).f0), .int .i64 0, .int .i64 0, .int .i64 0, .int .i64 0]) ?_ 1 _ rfl; (with_reducible repeat (first | refine blk_drewN ?_ _ | refine blk_drew ?_ | refine blk_alloc ?_ _)); refine blk_put (cs := #[.string (⟨#[]⟩ : ByteArray), .int .i64 0, .int .i64 0, .int .i64 0, .int .i64 0]) ?_ 0 _ rfl; (with_reducible repeat (first | refine blk_drewN ?_ _ | refine blk_drew ?_ | refine blk_alloc ?_ _)); exact BK237.out)) : gb237 ≠ gb238)); have n9_ := Aside0.mk ((by rw [hg]; exact Nat.ne_of_gt (blk_lt (g := gb237) (o := .cells #[.string ((rd_T32 t225 x41_2).f0), .int .i64 ((rd_T32 t225 x41_2).f1), .int .i64 ((rd_T32 t225 x41_2).f2), .int .i64 ((rd_T32 t225 x41_2).f3), .int .i64 ((rd_T32 t225 x41_2).f4)] 32 (0, 0)) (by (with_reducible repeat (first | refine blk_drewN ?_ _ | refine blk_drew ?_ | refine blk_alloc ?_ _)); refine blk_put (cs := #[.string ((rd_T32 t225 x41_2).f0), .int .i64 ((rd_T32 t225 x41_2).f1), .int .i64 ((rd_T32 t225 x41_2).f2), .int .i64 ((rd_T32 t225 x41_2).f3), .int .i64 0]) ?_ 4 _ rfl; (with_reducible repeat (first | refine blk_drewN ?_ _ | refine blk_drew ?_ | refine blk_alloc ?_ _)); refine blk_put (cs := #[.string ((rd_T32 t225 x41_2).f0), .int .i64 ((rd_T32 t225 x41_2).f1), .int .i64 ((rd_T32 t225 x41_2).f2), .int .i64 0, .int .i64 0]) ?_ 3 _ rfl; (with_reducible repeat (first | refine blk_drewN ?_ _ | refine blk_drew ?_ | refine blk_alloc ?_ _)); refine blk_put (cs := #[.string ((rd_T32 t225 x41_2).f0), .int .i64 ((rd_T32 t225 x41_2).f1), .int .i64 0, .int .i64 0, .int .i64 0]) ?_ 2 _ rfl; (with_reducible repeat (first | refine blk_drewN ?_ _ | refine blk_drew ?_ | refine blk_alloc ?_ _)); refine blk_put (cs := #[.string ((rd_T32 t225 x41_2).f0), .int .i64 0, .int .i64 0, .int .i64 0, .int .i64 0]) ?_ 1 _ rfl; (with_reducible repeat (first | refine blk_drewN ?_ _ | refine blk_drew ?_ | refine blk_alloc ?_ _)); refine blk_put (cs := #[.string (⟨#[]⟩ : ByteArray), .int .i64 0, .int .i64 0, .int .i64 0, .int .i64 0]) ?_ 0 _ rfl; (with_reducible repeat (first | refine blk_drewN ?_ _ | refine blk_drew ?_ | refine blk_alloc ?_ _)); exact BK237.out)) : gb238 ≠ gb237)); clear HO_4; clear HO_5; clear HO_39; clear BK237; clear HB; have HO_4 := n0_; have HO_5 := n1_; have HO_39 := n2_; have BK237 := n3_; have HB := n4_; have BK238 := n5_; have GW238 := n6_; have GE238 := n7_; have NB237_238 := n8_; have NB238_237 := n9_; clear n0_ n1_ n2_ n3_ n4_ n5_ n6_ n7_ n8_ n9_; clear hb hbox hg; have hnb57 := NB238_237.out; have hnc57 := NB237_238.out; have hcz58_0 : w56.cell? ⟨gb238, 0, none⟩ = some (.int .i64 0) := (blk_cell BK238.out 0).trans rfl; have hcz58_1 : w56.cell? ⟨gb238, 1, none⟩ = some (.int .i64 0) := (blk_cell BK238.out 1).trans rfl; have hcz58_2 : w56.cell? ⟨gb238, 2, none⟩ = some (.string (⟨#[]⟩ : ByteArray)) := (blk_cell BK238.out 2).trans rfl; have hfz58_0 := blk_frozen BK238.out 0; have hfz58_1 := blk_frozen BK238.out 1; have hfz58_2 := blk_frozen BK238.out 2) | ((with_reducible refine gate_callee (f := 13) rfl ?_); refine goesL_ (some 49) rfl rfl Try.func13 (by kernel_rfl) rfl #[.agg #[.int .i64 3, .int .i64 0, .string ((rd_T32 t225 x41_2).f0)]] rfl goa_ ?_; (with_reducible refine (line_Good.calls k2 3 0 ((rd_T32 t225 x41_2).f0) false _ A23.out).mono ?_); rintro e w59 ⟨rfl, hb⟩; refine ⟨_, rfl, ?_⟩; have n0_ := Aside0.mk (Kd.S_below (by (with_reducible repeat (first | apply Kd.S_alloc | apply Kd.S_drewN | apply Kd.S_drew)); exact (Kd.S_mono (Kd.S_far (p := ⟨gb238, 2, none⟩) (Kd.S_far (p := ⟨gb238, 1, none⟩) (Kd.S_far (p := ⟨gb238, 0, none⟩) (Kd.S_types HO_4.out BK238.out (by decide)) (fun _ hk => hk.2) (.int .i64 3)) (fun _ hk => hk.2) (.int .i64 0)) (fun _ hk => hk.2) (.string ((rd_T32 t225 x41_2).f0))) (fun _ h_ => h_.1))) hb); have n1_ := Aside0.mk (Kd.S_below (by (with_reducible repeat (first | apply Kd.S_alloc | apply Kd.S_drewN | apply Kd.S_drew)); exact (Kd.S_mono (Kd.S_far (p := ⟨gb238, 2, none⟩) (Kd.S_far (p := ⟨gb238, 1, none⟩) (Kd.S_far (p := ⟨gb238, 0, none⟩) (Kd.S_types HO_5.out BK238.out (by decide)) (fun _ hk => hk.2) (.int .i64 3)) (fun _ hk => hk.2) (.int .i64 0)) (fun _ hk => hk.2) (.string ((rd_T32 t225 x41_2).f0))) (fun _ h_ => h_.1))) hb); have n2_ := Aside0.mk (Kd.R_below (by (with_reducible repeat (first | apply Kd.R_alloc | apply Kd.R_drewN | apply Kd.R_drew)); exact (Kd.R_mono (Kd.R_far (p := ⟨gb238, 2, none⟩) (Kd.R_far (p := ⟨gb238, 1, none⟩) (Kd.R_far (p := ⟨gb238, 0, none⟩) (Kd.R_types HO_39.out BK238.out (by decide)) (fun _ hk => hk.2) (.int .i64 3)) (fun _ hk => hk.2) (.int .i64 0)) (fun _ hk => hk.2) (.string ((rd_T32 t225 x41_2).f0))) (fun _ h_ => h_.1))) hb); have n3_ := Aside0.mk (blk_below (g := gb237) (o := .cells #[.string ((rd_T32 t225 x41_2).f0), .int .i64 ((rd_T32 t225 x41_2).f1), .int .i64 ((rd_T32 t225 x41_2).f2), .int .i64 ((rd_T32 t225 x41_2).f3), .int .i64 ((rd_T32 t225 x41_2).f4)] 32 (0, 0)) (by (with_reducible repeat (first | refine blk_drewN ?_ _ | refine blk_drew ?_ | refine blk_alloc ?_ _)); refine blk_far ?_ NB237_238.out _; (with_reducible repeat (first | refine blk_drewN ?_ _ | refine blk_drew ?_ | refine blk_alloc ?_ _)); refine blk_far ?_ NB237_238.out _; (with_reducible repeat (first | refine blk_drewN ?_ _ | refine blk_drew ?_ | refine blk_alloc ?_ _)); refine blk_far ?_ NB237_238.out _; (with_reducible repeat (first | refine blk_drewN ?_ _ | refine blk_drew ?_ | refine blk_alloc ?_ _)); exact BK237.out) hb); have n4_ := Aside0.mk (blk_below (g := gb238) (o := .cells #[.int .i64 3, .int .i64 0, .string ((rd_T32 t225 x41_2).f0)] 34 (0, 0)) (by (with_reducible repeat (first | refine blk_drewN ?_ _ | refine blk_drew ?_ | refine blk_alloc ?_ _)); refine blk_put (cs := #[.int .i64 3, .int .i64 0, .string (⟨#[]⟩ : ByteArray)]) ?_ 2 _ rfl; (with_reducible repeat (first | refine blk_drewN ?_ _ | refine blk_drew ?_ | refine blk_alloc ?_ _)); refine blk_put (cs := #[.int .i64 3, .int .i64 0, .string (⟨#[]⟩ : ByteArray)]) ?_ 1 _ rfl; (with_reducible repeat (first | refine blk_drewN ?_ _ | refine blk_drew ?_ | refine blk_alloc ?_ _)); refine blk_put (cs := #[.int .i64 0, .int .i64 0, .string (⟨#[]⟩ : ByteArray)]) ?_ 0 _ rfl; (with_reducible repeat (first | refine blk_drewN ?_ _ | refine blk_drew ?_ | refine blk_alloc ?_ _)); exact BK238.out) hb); have n5_ := Aside0.mk (below_step bel_ hb); clear HO_4; clear HO_5; clear HO_39; clear BK237; clear BK238; clear HB; have HO_4 := n0_; have HO_5 := n1_; have HO_39 := n2_; have BK237 := n3_; have BK238 := n4_; have HB := n5_; clear n0_ n1_ n2_ n3_ n4_ n5_; clear hb))
           go_roundg k2
           case measure => have := HJ1.out; have := HK2.out; omega
           case rel => exact ⟨(wrap64 (x41_2 + 1)), rfs_, H', ⟨by have := HJ1.out; have := HK2.out; omega⟩, ⟨by (with_reducible repeat (first | apply Kd.S_alloc | apply Kd.S_drewN | apply Kd.S_drew)); exact HO_4.out⟩, ⟨by (with_reducible repeat (first | apply Kd.S_alloc | apply Kd.S_drewN | apply Kd.S_drew)); exact HO_5.out⟩, ⟨by (with_reducible repeat (first | apply Kd.R_alloc | apply Kd.R_drewN | apply Kd.R_drew)); exact Kd.R_mono HO_39.out (fun _ hk => trivial)⟩, ⟨bel_⟩⟩
         ·rw [if_neg c22] at H
          exact absurd H (by simp)
        ·rw [if_neg c21] at H
         exact absurd H (by simp)
       ·rw [if_neg c20] at H
        have c20b0 : decide (x41_2 < (t225.length : Int)) = false := decide_eq_false c20
        clear c20
        replace H := Option.bind_eq_some_iff.mp H
        obtain ⟨t235, A600, H⟩ := H
        try dsimp only at H
        have A60 := Aside0.mk A600
        clear A600
        obtain rfl := Option.some.inj H
        go_wp2_with (first | ((with_reducible refine gate_callee (f := 11) rfl ?_); refine goesL_ (some 96) rfl rfl Try.func11 (by kernel_rfl) rfl #[] rfl goa_ ?_; (with_reducible refine (parterrelaw18_lives.calls k2  t235 _ A60.out).mono ?_); rintro e w61 ⟨rfl, hb⟩; refine ⟨_, rfl, ?_⟩; have n0_ := Aside0.mk (Kd.S_below (by (with_reducible repeat (first | apply Kd.S_alloc | apply Kd.S_drewN | apply Kd.S_drew)); exact HO_4.out) hb); have n1_ := Aside0.mk (Kd.S_below (by (with_reducible repeat (first | apply Kd.S_alloc | apply Kd.S_drewN | apply Kd.S_drew)); exact HO_5.out) hb); have n2_ := Aside0.mk (Kd.R_below (by (with_reducible repeat (first | apply Kd.R_alloc | apply Kd.R_drewN | apply Kd.R_drew)); exact HO_39.out) hb); have n3_ := Aside0.mk (below_step bel_ hb); clear HO_4; clear HO_5; clear HO_39; clear HB; have HO_4 := n0_; have HO_5 := n1_; have HO_39 := n2_; have HB := n3_; clear n0_ n1_ n2_ n3_; clear hb))
        go_ret
        exact ⟨rsl_, bel_⟩
    ·rw [if_neg c13] at H
     exact absurd H (by simp)

/-- THE ONE PURE STATEMENT of parterrelaw18_ResolveAreas. -/
def parterrelaw18_ResolveAreas.Pure : Prop := ∀ (l0 : List (List ByteArray)), gSl 24 (gSl 16 gStr) l0 → ∃ k, parterrelaw18_ResolveAreas.f k l0 = some true

end Go.Proofs.Ytaalmkkekbhpnaa.PRa
