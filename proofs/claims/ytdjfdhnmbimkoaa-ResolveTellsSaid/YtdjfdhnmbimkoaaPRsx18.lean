-- Written by a program of this session (wip/p2) out of the translation; Lean checks it.
import Derived.Test.YtdjfdhnmbimkoaaSq
import Derived.Test.YtdjfdhnmbimkoaaPRsx0
import Derived.Test.YtdjfdhnmbimkoaaPRsx16
import Derived.Test.YtdjfdhnmbimkoaaPRsx17
namespace Go.Proofs.Ytdjfdhnmbimkoaa.PRs
open Go.RowKit Go.Proofs.YtdjfdhnmbimkoaaW.PrintWords Go.Proofs.YtdjfdhnmbimkoaaW.PrintLast Go.Proofs.YtdjfdhnmbimkoaaW.PrintMore
attribute [local go_sem] max2_int min2_int max_two min_two max_three min_three max_four min_four   -- for this text's walks alone
set_option linter.unusedVariables false
set_option linter.unusedSimpArgs false
open Go.Proofs.Ytdjfdhnmbimkoaa.Opn Go.Proofs.Ytdjfdhnmbimkoaa.Giv

/-! ### parterreref16_Nth: function 26 -/
def parterreref16_Nth.j0 : Nat → List (List ByteArray) → ByteArray → Int → Bool → Option (Int)
 | 0, _, _, _, _ => none
 | k + 1, x0, x1, x2, x21 => if x21 = true then (some 0) else (if x2 > 0 then ((parterreref16_Along.f k x0 x1 (-1) x2).bind fun t282 => (some t282)) else ((parterreref16_Along.f k x0 x1 (x0.length : Int) x2).bind fun t283 => (some t283)))
def parterreref16_Nth.f (k : Nat) (l0 : List (List ByteArray)) (a1 : ByteArray) (a2 : Int) : Option (Int) := if a2 = 0 then (parterreref16_Nth.j0 k l0 a1 a2 true) else (if (l0.length : Int) = 0 then (parterreref16_Nth.j0 k l0 a1 a2 true) else (if a2 > 10000 then (parterreref16_Nth.j0 k l0 a1 a2 true) else (parterreref16_Nth.j0 k l0 a1 a2 (decide (a2 < (-10000))))))
theorem parterreref16_Nth.mono_l : ∀ k, (∀ y0 y1 y2 y3, LeO (parterreref16_Nth.j0 k y0 y1 y2 y3) (parterreref16_Nth.j0 (k + 1) y0 y1 y2 y3))
 | 0 => fun _ _ _ _ r h => by simp [parterreref16_Nth.j0] at h
 | k + 1 => by
  have ih0 := parterreref16_Nth.mono_l k
  ·intro y0 y1 y2 y3
   unfold parterreref16_Nth.j0
   repeat' first
   | (with_reducible exact ih0 _ _ _ _)
   | (with_reducible exact parterreref16_Along.mono _ _ _ _ _)
   | (with_reducible exact LeO.refl _)
   | (with_reducible exact LeO.none _)
   | (with_reducible refine LeO.ite ?_ ?_)
   | (with_reducible refine LeO.bind ?_ (fun _ => ?_))
theorem parterreref16_Nth.mono : ∀ a0 a1 a2 k, LeO (parterreref16_Nth.f k a0 a1 a2) (parterreref16_Nth.f (k + 1) a0 a1 a2) := by
 intro a0 a1 a2 k
 have ih0 := parterreref16_Nth.mono_l k
 unfold parterreref16_Nth.f
 repeat' first
   | (with_reducible exact ih0 _ _ _ _)
   | (with_reducible exact parterreref16_Along.mono _ _ _ _ _)
   | (with_reducible exact LeO.refl _)
   | (with_reducible exact LeO.none _)
   | (with_reducible refine LeO.ite ?_ ?_)
   | (with_reducible refine LeO.bind ?_ (fun _ => ?_))
set_option maxHeartbeats 8000000 in
set_option maxRecDepth 100000 in
theorem parterreref16_Nth.calls (k : Nat) (A0 : Option Addr) (c0 : Nat) (l0 : List (List ByteArray)) (a1 : ByteArray) (a2 : Int) (r : Int) (w : World) (hr0 : Kd.C (Kd.slice 9 Kd.string) w A0 l0.length l0) (hc0 : l0.length ≤ c0) (h : parterreref16_Nth.f k l0 a1 a2 = some r) :
  Calls Try.prog 26 #[.slice A0 l0.length c0, .string a1, .int .i64 a2] w fun e w' => e = .returned (.int .i64 r) ∧ Drawn0 w w' := by
 have HR0 := Aside0.mk hr0
 have HC0 := Aside0.mk hc0
 clear hr0 hc0
 have H : (if a2 = 0 then (parterreref16_Nth.j0 k l0 a1 a2 true) else (if (l0.length : Int) = 0 then (parterreref16_Nth.j0 k l0 a1 a2 true) else (if a2 > 10000 then (parterreref16_Nth.j0 k l0 a1 a2 true) else (parterreref16_Nth.j0 k l0 a1 a2 (decide (a2 < (-10000))))))) = some r := h
 clear h
 have HC4 := Aside0.mk H
 clear H
 go_enter Try.func26, Try.ntmps26
 go_upto_region 1 with (fail)
 go_cut [21] (fun v21 wc => ∃ (kq : Nat) (x21_3 : Bool), v21 = .bool x21_3 ∧ Aside0 (parterreref16_Nth.j0 kq l0 a1 a2 x21_3 = some r) ∧ Aside0 (kq ≤ k) ∧ Drawn0 w wc)
 case first =>
  have H := HC4.out
  clear HC4
  by_cases c5 : a2 = 0
  ·rw [if_pos c5] at H
   have c5b0 : (a2 == 0) = true := beq_iff_eq.mpr c5
   have c5b1 : (a2 != 0) = false := bne_eq_false_iff_eq.mpr c5
   clear c5
   (first | rw [c5b0] | (simp only [i64_w, i32_w]; rw [c5b0]) | skip)
   have H' := Aside0.mk H
   clear H
   go_wp2
   go_meet
   case rel => exact ⟨_, (true), rfs_, H', ⟨ole_⟩, by repeat (first | exact Drawn0.refl _ | apply Drawn0.step)⟩
  ·rw [if_neg c5] at H
   have c5b0 : (a2 == 0) = false := beq_eq_false_iff_ne.mpr c5
   have c5b1 : (a2 != 0) = true := bne_iff_ne.mpr c5
   (first | rw [c5b0] | (simp only [i64_w, i32_w]; rw [c5b0]) | skip)
   by_cases c6 : (l0.length : Int) = 0
   ·rw [if_pos c6] at H
    have c6b0 : ((l0.length : Int) == 0) = true := beq_iff_eq.mpr c6
    have c6b1 : ((l0.length : Int) != 0) = false := bne_eq_false_iff_eq.mpr c6
    clear c6
    have H' := Aside0.mk H
    clear H
    go_wp2
    go_meet
    case rel => exact ⟨_, (true), rfs_, H', ⟨ole_⟩, by repeat (first | exact Drawn0.refl _ | apply Drawn0.step)⟩
   ·rw [if_neg c6] at H
    have c6b0 : ((l0.length : Int) == 0) = false := beq_eq_false_iff_ne.mpr c6
    have c6b1 : ((l0.length : Int) != 0) = true := bne_iff_ne.mpr c6
    have c6b2 : ¬ (l0 = []) := fun h_ => c6 (by rw [h_]; rfl)
    by_cases c7 : a2 > 10000
    ·rw [if_pos c7] at H
     have c7b0 : decide (10000 < a2) = true := decide_eq_true c7
     clear c7
     have H' := Aside0.mk H
     clear H
     go_wp2
     go_meet
     case rel => exact ⟨_, (true), rfs_, H', ⟨ole_⟩, by repeat (first | exact Drawn0.refl _ | apply Drawn0.step)⟩
    ·rw [if_neg c7] at H
     have c7b0 : decide (10000 < a2) = false := decide_eq_false c7
     clear c7
     have H' := Aside0.mk H
     clear H
     go_wp2
     go_meet
     case rel => exact ⟨_, (decide (a2 < (-10000))), rfs_, H', ⟨ole_⟩, by repeat (first | exact Drawn0.refl _ | apply Drawn0.step)⟩
 case rest =>
  clear HC4
  try clear c2
  try clear p2
  try clear c5
  try clear c5b0
  try clear c5b1
  try clear c6
  try clear c6b0
  try clear c6b1
  try clear c6b2
  try clear c7
  try clear c7b0
  obtain ⟨kq, x21_3, rfl, HA, HJ3, ⟨mc3, rfl⟩⟩ := hcut
  cases kq with
  | zero => exact absurd HA.out (by simp [parterreref16_Nth.j0])
  | succ kj3 =>
   have H := HA.out
   clear HA
   simp only [parterreref16_Nth.j0] at H
   by_cases c8 : x21_3 = true
   ·subst c8
    rw [if_pos rfl] at H
    obtain rfl := Option.some.inj H
    go_wp2
    go_ret
    exact ⟨by first | rfl | (simp; done) | (simp [*]; done), by repeat (first | exact Drawn0.refl _ | apply Drawn0.step)⟩
   ·replace c8 := Bool.eq_false_iff.mpr c8
    subst c8
    rw [if_neg (show ¬ (false = true) by decide)] at H
    by_cases c9 : a2 > 0
    ·rw [if_pos c9] at H
     have c9b0 : decide (0 < a2) = true := decide_eq_true c9
     clear c9
     replace H := Option.bind_eq_some_iff.mp H
     obtain ⟨t282, A100, H⟩ := H
     try dsimp only at H
     have A10 := Aside0.mk A100
     clear A100
     obtain rfl := Option.some.inj H
     go_wp2_with (first | ((with_reducible refine gate_callee (f := 19) rfl ?_); refine goesL_ (some 27) rfl rfl Try.func19 (by kernel_rfl) rfl #[.slice A0 l0.length c0, .string a1, .int .i64 (-1), .int .i64 a2] rfl goa_ ?_; (with_reducible refine (parterreref16_Along.calls kj3 _ _ l0 a1 (-1) a2 t282 _ ?side1 ?side2 A10.out).mono ?_); (case side1 => repeat (first | exact HR0.out | (with_reducible refine Kd.C_alloc ?_ _) | (with_reducible refine Kd.C_drewN ?_ _) | (with_reducible refine Kd.C_drew ?_))); (case side2 => exact HC0.out); rintro e w' ⟨rfl, ⟨nd, rfl⟩⟩; refine ⟨_, rfl, ?_⟩))
     go_ret
     exact ⟨by first | rfl | (simp; done) | (simp [*]; done), by repeat (first | exact Drawn0.refl _ | apply Drawn0.step)⟩
    ·rw [if_neg c9] at H
     have c9b0 : decide (0 < a2) = false := decide_eq_false c9
     clear c9
     replace H := Option.bind_eq_some_iff.mp H
     obtain ⟨t283, A110, H⟩ := H
     try dsimp only at H
     have A11 := Aside0.mk A110
     clear A110
     obtain rfl := Option.some.inj H
     go_wp2_with (first | ((with_reducible refine gate_callee (f := 19) rfl ?_); refine goesL_ (some 33) rfl rfl Try.func19 (by kernel_rfl) rfl #[.slice A0 l0.length c0, .string a1, .int .i64 (l0.length : Int), .int .i64 a2] rfl goa_ ?_; (with_reducible refine (parterreref16_Along.calls kj3 _ _ l0 a1 (l0.length : Int) a2 t283 _ ?side1 ?side2 A11.out).mono ?_); (case side1 => repeat (first | exact HR0.out | (with_reducible refine Kd.C_alloc ?_ _) | (with_reducible refine Kd.C_drewN ?_ _) | (with_reducible refine Kd.C_drew ?_))); (case side2 => exact HC0.out); rintro e w' ⟨rfl, ⟨nd, rfl⟩⟩; refine ⟨_, rfl, ?_⟩))
     go_ret
     exact ⟨by first | rfl | (simp; done) | (simp [*]; done), by repeat (first | exact Drawn0.refl _ | apply Drawn0.step)⟩

/-! ### parterreref18_at: function 92 -/
def parterreref18_at.f (k : Nat) (l0 : List (List ByteArray)) (a1_0 : Int) (a1_1 : Int) (a1_2 : ByteArray) (a2 : Bool) : Option (Int) := if a1_0 = 2 then ((parterreref16_Nth.f k l0 a1_2 a1_1).bind fun t285 => (some t285)) else ((parterreref16_Edge.f k l0 a1_2 a2).bind fun bt286 => (if bt286.2 = true then (some bt286.1) else ((parterreref16_Nth.f k l0 a1_2 1).bind fun t288 => (some t288))))
theorem parterreref18_at.mono : ∀ a0 a1 a2 a3 a4 k, LeO (parterreref18_at.f k a0 a1 a2 a3 a4) (parterreref18_at.f (k + 1) a0 a1 a2 a3 a4) := by
 intro a0 a1 a2 a3 a4 k
 unfold parterreref18_at.f
 repeat' first
   | (with_reducible exact parterreref16_Edge.mono _ _ _ _)
   | (with_reducible exact parterreref16_Nth.mono _ _ _ _)
   | (with_reducible exact LeO.refl _)
   | (with_reducible exact LeO.none _)
   | (with_reducible refine LeO.ite ?_ ?_)
   | (with_reducible refine LeO.bind ?_ (fun _ => ?_))
set_option maxHeartbeats 8000000 in
set_option maxRecDepth 100000 in
theorem parterreref18_at.calls (k : Nat) (A0 : Option Addr) (c0 : Nat) (l0 : List (List ByteArray)) (a1_0 : Int) (a1_1 : Int) (a1_2 : ByteArray) (a2 : Bool) (r : Int) (w : World) (hr0 : Kd.C (Kd.slice 9 Kd.string) w A0 l0.length l0) (hc0 : l0.length ≤ c0) (h : parterreref18_at.f k l0 a1_0 a1_1 a1_2 a2 = some r) :
  Calls Try.prog 92 #[.slice A0 l0.length c0, .agg #[.int .i64 a1_0, .int .i64 a1_1, .string a1_2], .bool a2] w fun e w' => e = .returned (.int .i64 r) ∧ Below w.heap.size w w' := by
 have hu69 := Try.underlying69
 have HR0 := Aside0.mk hr0
 have HC0 := Aside0.mk hc0
 clear hr0 hc0
 have HB := Aside0.mk (Below.refl w.heap.size w)
 have H : (if a1_0 = 2 then ((parterreref16_Nth.f k l0 a1_2 a1_1).bind fun t285 => (some t285)) else ((parterreref16_Edge.f k l0 a1_2 a2).bind fun bt286 => (if bt286.2 = true then (some bt286.1) else ((parterreref16_Nth.f k l0 a1_2 1).bind fun t288 => (some t288))))) = some r := h
 clear h
 by_cases c4 : a1_0 = 2
 ·rw [if_pos c4] at H
  have c4b0 : (a1_0 == 2) = true := beq_iff_eq.mpr c4
  have c4b1 : (a1_0 != 2) = false := bne_eq_false_iff_eq.mpr c4
  clear c4
  replace H := Option.bind_eq_some_iff.mp H
  obtain ⟨t285, A50, H⟩ := H
  try dsimp only at H
  have A5 := Aside0.mk A50
  clear A50
  obtain rfl := Option.some.inj H
  go_enter Try.func92, Try.ntmps92
  go_wp2_with (first | ((with_reducible refine gate_dst (N := 4) rfl ?_); refine box_event ?hg (N := 4) ?hd (cs := #[.int .i64 a1_0, .int .i64 a1_1, .string a1_2]) (t := 69) ?hr ?_; (case hd => rfl); (case hg => rfl); (case hr => first | (go_simp; done) | (go_simp; rfl)); intro gb284 hg w6 hbox hb; have n0_ := Aside0.mk (below_step bel_ hb); have n1_ := Aside0.mk (hbox); have n2_ := Aside0.mk ((bsz_ hg : w.heap.size ≤ gb284)); have n3_ := Aside0.mk ((bsz_ hg : w.heap.size ≤ gb284)); clear HB; have HB := n0_; have BK284 := n1_; have GW284 := n2_; have GE284 := n3_; clear n0_ n1_ n2_ n3_; clear hb hbox hg; have hcz7_0 : w6.cell? ⟨gb284, 0, none⟩ = some (.int .i64 a1_0) := (blk_cell BK284.out 0).trans rfl; have hcz7_1 : w6.cell? ⟨gb284, 1, none⟩ = some (.int .i64 a1_1) := (blk_cell BK284.out 1).trans rfl; have hcz7_2 : w6.cell? ⟨gb284, 2, none⟩ = some (.string a1_2) := (blk_cell BK284.out 2).trans rfl; have hfz7_0 := blk_frozen BK284.out 0; have hfz7_1 := blk_frozen BK284.out 1; have hfz7_2 := blk_frozen BK284.out 2) | ((with_reducible refine gate_callee (f := 26) rfl ?_); refine goesL_ (some 17) rfl rfl Try.func26 (by kernel_rfl) rfl #[.slice A0 l0.length c0, .string a1_2, .int .i64 a1_1] rfl goa_ ?_; (with_reducible refine (parterreref16_Nth.calls k _ _ l0 a1_2 a1_1 t285 _ ?side1 ?side2 A5.out).mono ?_); (case side1 => repeat (first | exact (Kd.C_below HR0.out HB.out) | (with_reducible refine Kd.C_alloc ?_ _) | (with_reducible refine Kd.C_drewN ?_ _) | (with_reducible refine Kd.C_drew ?_))); (case side2 => exact HC0.out); rintro e w' ⟨rfl, ⟨nd, rfl⟩⟩; refine ⟨_, rfl, ?_⟩))
  go_ret
  exact ⟨rsl_, bel_⟩
 ·rw [if_neg c4] at H
  have c4b0 : (a1_0 == 2) = false := beq_eq_false_iff_ne.mpr c4
  have c4b1 : (a1_0 != 2) = true := bne_iff_ne.mpr c4
  replace H := Option.bind_eq_some_iff.mp H
  obtain ⟨⟨t286, t287⟩, A80, H⟩ := H
  try dsimp only at H
  have A8 := Aside0.mk A80
  clear A80
  by_cases c9 : t287 = true
  ·subst c9
   rw [if_pos rfl] at H
   obtain rfl := Option.some.inj H
   go_enter Try.func92, Try.ntmps92
   go_wp2_with (first | ((with_reducible refine gate_dst (N := 4) rfl ?_); refine box_event ?hg (N := 4) ?hd (cs := #[.int .i64 a1_0, .int .i64 a1_1, .string a1_2]) (t := 69) ?hr ?_; (case hd => rfl); (case hg => rfl); (case hr => first | (go_simp; done) | (go_simp; rfl)); intro gb284 hg w10 hbox hb; have n0_ := Aside0.mk (below_step bel_ hb); have n1_ := Aside0.mk (hbox); have n2_ := Aside0.mk ((bsz_ hg : w.heap.size ≤ gb284)); have n3_ := Aside0.mk ((bsz_ hg : w.heap.size ≤ gb284)); clear HB; have HB := n0_; have BK284 := n1_; have GW284 := n2_; have GE284 := n3_; clear n0_ n1_ n2_ n3_; clear hb hbox hg; have hcz11_0 : w10.cell? ⟨gb284, 0, none⟩ = some (.int .i64 a1_0) := (blk_cell BK284.out 0).trans rfl; have hcz11_1 : w10.cell? ⟨gb284, 1, none⟩ = some (.int .i64 a1_1) := (blk_cell BK284.out 1).trans rfl; have hcz11_2 : w10.cell? ⟨gb284, 2, none⟩ = some (.string a1_2) := (blk_cell BK284.out 2).trans rfl; have hfz11_0 := blk_frozen BK284.out 0; have hfz11_1 := blk_frozen BK284.out 1; have hfz11_2 := blk_frozen BK284.out 2) | ((with_reducible refine gate_callee (f := 22) rfl ?_); refine goesL_ (some 23) rfl rfl Try.func22 (by kernel_rfl) rfl #[.slice A0 l0.length c0, .string a1_2, .bool a2] rfl goa_ ?_; (with_reducible refine (parterreref16_Edge.calls k _ _ l0 a1_2 a2 t286 true _ ?side1 ?side2 A8.out).mono ?_); (case side1 => repeat (first | exact (Kd.C_below HR0.out HB.out) | (with_reducible refine Kd.C_alloc ?_ _) | (with_reducible refine Kd.C_drewN ?_ _) | (with_reducible refine Kd.C_drew ?_))); (case side2 => exact HC0.out); rintro e w12 ⟨rfl, hb⟩; refine ⟨_, rfl, ?_⟩; have n0_ := blb_ BK284 hb; have n1_ := Aside0.mk (below_step bel_ hb); clear BK284; clear HB; have BK284 := n0_; have HB := n1_; clear n0_ n1_; clear hb))
   go_ret
   exact ⟨rsl_, bel_⟩
  ·replace c9 := Bool.eq_false_iff.mpr c9
   subst c9
   rw [if_neg (show ¬ (false = true) by decide)] at H
   replace H := Option.bind_eq_some_iff.mp H
   obtain ⟨t288, A130, H⟩ := H
   try dsimp only at H
   have A13 := Aside0.mk A130
   clear A130
   obtain rfl := Option.some.inj H
   go_enter Try.func92, Try.ntmps92
   go_wp2_with (first | ((with_reducible refine gate_dst (N := 4) rfl ?_); refine box_event ?hg (N := 4) ?hd (cs := #[.int .i64 a1_0, .int .i64 a1_1, .string a1_2]) (t := 69) ?hr ?_; (case hd => rfl); (case hg => rfl); (case hr => first | (go_simp; done) | (go_simp; rfl)); intro gb284 hg w14 hbox hb; have n0_ := Aside0.mk (below_step bel_ hb); have n1_ := Aside0.mk (hbox); have n2_ := Aside0.mk ((bsz_ hg : w.heap.size ≤ gb284)); have n3_ := Aside0.mk ((bsz_ hg : w.heap.size ≤ gb284)); clear HB; have HB := n0_; have BK284 := n1_; have GW284 := n2_; have GE284 := n3_; clear n0_ n1_ n2_ n3_; clear hb hbox hg; have hcz15_0 : w14.cell? ⟨gb284, 0, none⟩ = some (.int .i64 a1_0) := (blk_cell BK284.out 0).trans rfl; have hcz15_1 : w14.cell? ⟨gb284, 1, none⟩ = some (.int .i64 a1_1) := (blk_cell BK284.out 1).trans rfl; have hcz15_2 : w14.cell? ⟨gb284, 2, none⟩ = some (.string a1_2) := (blk_cell BK284.out 2).trans rfl; have hfz15_0 := blk_frozen BK284.out 0; have hfz15_1 := blk_frozen BK284.out 1; have hfz15_2 := blk_frozen BK284.out 2) | ((with_reducible refine gate_callee (f := 22) rfl ?_); refine goesL_ (some 23) rfl rfl Try.func22 (by kernel_rfl) rfl #[.slice A0 l0.length c0, .string a1_2, .bool a2] rfl goa_ ?_; (with_reducible refine (parterreref16_Edge.calls k _ _ l0 a1_2 a2 t286 false _ ?side1 ?side2 A8.out).mono ?_); (case side1 => repeat (first | exact (Kd.C_below HR0.out HB.out) | (with_reducible refine Kd.C_alloc ?_ _) | (with_reducible refine Kd.C_drewN ?_ _) | (with_reducible refine Kd.C_drew ?_))); (case side2 => exact HC0.out); rintro e w16 ⟨rfl, hb⟩; refine ⟨_, rfl, ?_⟩; have n0_ := blb_ BK284 hb; have n1_ := Aside0.mk (below_step bel_ hb); clear BK284; clear HB; have BK284 := n0_; have HB := n1_; clear n0_ n1_; clear hb; have hcz17_0 : w16.cell? ⟨gb284, 0, none⟩ = some (.int .i64 a1_0) := (blk_cell BK284.out 0).trans rfl; have hcz17_1 : w16.cell? ⟨gb284, 1, none⟩ = some (.int .i64 a1_1) := (blk_cell BK284.out 1).trans rfl; have hcz17_2 : w16.cell? ⟨gb284, 2, none⟩ = some (.string a1_2) := (blk_cell BK284.out 2).trans rfl; have hfz17_0 := blk_frozen BK284.out 0; have hfz17_1 := blk_frozen BK284.out 1; have hfz17_2 := blk_frozen BK284.out 2) | ((with_reducible refine gate_callee (f := 26) rfl ?_); refine goesL_ (some 31) rfl rfl Try.func26 (by kernel_rfl) rfl #[.slice A0 l0.length c0, .string a1_2, .int .i64 1] rfl goa_ ?_; (with_reducible refine (parterreref16_Nth.calls k _ _ l0 a1_2 1 t288 _ ?side1 ?side2 A13.out).mono ?_); (case side1 => repeat (first | exact (Kd.C_below HR0.out HB.out) | (with_reducible refine Kd.C_alloc ?_ _) | (with_reducible refine Kd.C_drewN ?_ _) | (with_reducible refine Kd.C_drew ?_))); (case side2 => exact HC0.out); rintro e w' ⟨rfl, ⟨nd, rfl⟩⟩; refine ⟨_, rfl, ?_⟩))
   go_ret
   exact ⟨rsl_, bel_⟩

/-! ### parterreref18_far: function 93 -/
def parterreref18_far.f (k : Nat) (l0 : List (List ByteArray)) (a1 : Int) (a2_0 : Int) (a2_1 : Int) (a2_2 : ByteArray) (a3 : Int) : Option (Int) := if a2_0 = 4 then (if a2_2.toList = ([] : List UInt8) then (some (wrap64 (a1 + (wrap64 (a3 * a2_1))))) else ((parterreref16_Along.f k l0 a2_2 a1 (wrap64 (a3 * a2_1))).bind fun t290 => (some t290))) else (some (wrap64 (a1 + a3)))
theorem parterreref18_far.mono : ∀ a0 a1 a2 a3 a4 a5 k, LeO (parterreref18_far.f k a0 a1 a2 a3 a4 a5) (parterreref18_far.f (k + 1) a0 a1 a2 a3 a4 a5) := by
 intro a0 a1 a2 a3 a4 a5 k
 unfold parterreref18_far.f
 repeat' first
   | (with_reducible exact parterreref16_Along.mono _ _ _ _ _)
   | (with_reducible exact LeO.refl _)
   | (with_reducible exact LeO.none _)
   | (with_reducible refine LeO.ite ?_ ?_)
   | (with_reducible refine LeO.bind ?_ (fun _ => ?_))
set_option maxHeartbeats 8000000 in
set_option maxRecDepth 100000 in
theorem parterreref18_far.calls (k : Nat) (A0 : Option Addr) (c0 : Nat) (l0 : List (List ByteArray)) (a1 : Int) (a2_0 : Int) (a2_1 : Int) (a2_2 : ByteArray) (a3 : Int) (r : Int) (w : World) (hr0 : Kd.C (Kd.slice 9 Kd.string) w A0 l0.length l0) (hc0 : l0.length ≤ c0) (h : parterreref18_far.f k l0 a1 a2_0 a2_1 a2_2 a3 = some r) :
  Calls Try.prog 93 #[.slice A0 l0.length c0, .int .i64 a1, .agg #[.int .i64 a2_0, .int .i64 a2_1, .string a2_2], .int .i64 a3] w fun e w' => e = .returned (.int .i64 r) ∧ Below w.heap.size w w' := by
 have hu69 := Try.underlying69
 have HR0 := Aside0.mk hr0
 have HC0 := Aside0.mk hc0
 clear hr0 hc0
 have HB := Aside0.mk (Below.refl w.heap.size w)
 have H : (if a2_0 = 4 then (if a2_2.toList = ([] : List UInt8) then (some (wrap64 (a1 + (wrap64 (a3 * a2_1))))) else ((parterreref16_Along.f k l0 a2_2 a1 (wrap64 (a3 * a2_1))).bind fun t290 => (some t290))) else (some (wrap64 (a1 + a3)))) = some r := h
 clear h
 by_cases c5 : a2_0 = 4
 ·rw [if_pos c5] at H
  have c5b0 : (a2_0 == 4) = true := beq_iff_eq.mpr c5
  have c5b1 : (a2_0 != 4) = false := bne_eq_false_iff_eq.mpr c5
  clear c5
  by_cases c6 : a2_2.toList = ([] : List UInt8)
  ·rw [if_pos c6] at H
   have c6b0 : (a2_2.toList == ([] : List UInt8)) = true := beq_iff_eq.mpr c6
   have c6b1 : (a2_2.toList != ([] : List UInt8)) = false := bne_eq_false_iff_eq.mpr c6
   clear c6
   obtain rfl := Option.some.inj H
   go_enter Try.func93, Try.ntmps93
   go_wp2_with (first | ((with_reducible refine gate_dst (N := 6) rfl ?_); refine box_event ?hg (N := 6) ?hd (cs := #[.int .i64 a2_0, .int .i64 a2_1, .string a2_2]) (t := 69) ?hr ?_; (case hd => rfl); (case hg => rfl); (case hr => first | (go_simp; done) | (go_simp; rfl)); intro gb289 hg w7 hbox hb; have n0_ := Aside0.mk (below_step bel_ hb); have n1_ := Aside0.mk (hbox); have n2_ := Aside0.mk ((bsz_ hg : w.heap.size ≤ gb289)); have n3_ := Aside0.mk ((bsz_ hg : w.heap.size ≤ gb289)); clear HB; have HB := n0_; have BK289 := n1_; have GW289 := n2_; have GE289 := n3_; clear n0_ n1_ n2_ n3_; clear hb hbox hg; have hcz8_0 : w7.cell? ⟨gb289, 0, none⟩ = some (.int .i64 a2_0) := (blk_cell BK289.out 0).trans rfl; have hcz8_1 : w7.cell? ⟨gb289, 1, none⟩ = some (.int .i64 a2_1) := (blk_cell BK289.out 1).trans rfl; have hcz8_2 : w7.cell? ⟨gb289, 2, none⟩ = some (.string a2_2) := (blk_cell BK289.out 2).trans rfl; have hfz8_0 := blk_frozen BK289.out 0; have hfz8_1 := blk_frozen BK289.out 1; have hfz8_2 := blk_frozen BK289.out 2))
   go_ret
   exact ⟨rsl_, bel_⟩
  ·rw [if_neg c6] at H
   have c6b0 : (a2_2.toList == ([] : List UInt8)) = false := beq_eq_false_iff_ne.mpr c6
   have c6b1 : (a2_2.toList != ([] : List UInt8)) = true := bne_iff_ne.mpr c6
   replace H := Option.bind_eq_some_iff.mp H
   obtain ⟨t290, A90, H⟩ := H
   try dsimp only at H
   have A9 := Aside0.mk A90
   clear A90
   obtain rfl := Option.some.inj H
   go_enter Try.func93, Try.ntmps93
   go_wp2_with (first | ((with_reducible refine gate_dst (N := 6) rfl ?_); refine box_event ?hg (N := 6) ?hd (cs := #[.int .i64 a2_0, .int .i64 a2_1, .string a2_2]) (t := 69) ?hr ?_; (case hd => rfl); (case hg => rfl); (case hr => first | (go_simp; done) | (go_simp; rfl)); intro gb289 hg w10 hbox hb; have n0_ := Aside0.mk (below_step bel_ hb); have n1_ := Aside0.mk (hbox); have n2_ := Aside0.mk ((bsz_ hg : w.heap.size ≤ gb289)); have n3_ := Aside0.mk ((bsz_ hg : w.heap.size ≤ gb289)); clear HB; have HB := n0_; have BK289 := n1_; have GW289 := n2_; have GE289 := n3_; clear n0_ n1_ n2_ n3_; clear hb hbox hg; have hcz11_0 : w10.cell? ⟨gb289, 0, none⟩ = some (.int .i64 a2_0) := (blk_cell BK289.out 0).trans rfl; have hcz11_1 : w10.cell? ⟨gb289, 1, none⟩ = some (.int .i64 a2_1) := (blk_cell BK289.out 1).trans rfl; have hcz11_2 : w10.cell? ⟨gb289, 2, none⟩ = some (.string a2_2) := (blk_cell BK289.out 2).trans rfl; have hfz11_0 := blk_frozen BK289.out 0; have hfz11_1 := blk_frozen BK289.out 1; have hfz11_2 := blk_frozen BK289.out 2) | ((with_reducible refine gate_callee (f := 19) rfl ?_); refine goesL_ (some 32) rfl rfl Try.func19 (by kernel_rfl) rfl #[.slice A0 l0.length c0, .string a2_2, .int .i64 a1, .int .i64 (wrap64 (a3 * a2_1))] rfl goa_ ?_; (with_reducible refine (parterreref16_Along.calls k _ _ l0 a2_2 a1 (wrap64 (a3 * a2_1)) t290 _ ?side1 ?side2 A9.out).mono ?_); (case side1 => repeat (first | exact (Kd.C_below HR0.out HB.out) | (with_reducible refine Kd.C_alloc ?_ _) | (with_reducible refine Kd.C_drewN ?_ _) | (with_reducible refine Kd.C_drew ?_))); (case side2 => exact HC0.out); rintro e w' ⟨rfl, ⟨nd, rfl⟩⟩; refine ⟨_, rfl, ?_⟩))
   go_ret
   exact ⟨rsl_, bel_⟩
 ·rw [if_neg c5] at H
  have c5b0 : (a2_0 == 4) = false := beq_eq_false_iff_ne.mpr c5
  have c5b1 : (a2_0 != 4) = true := bne_iff_ne.mpr c5
  obtain rfl := Option.some.inj H
  go_enter Try.func93, Try.ntmps93
  go_wp2_with (first | ((with_reducible refine gate_dst (N := 6) rfl ?_); refine box_event ?hg (N := 6) ?hd (cs := #[.int .i64 a2_0, .int .i64 a2_1, .string a2_2]) (t := 69) ?hr ?_; (case hd => rfl); (case hg => rfl); (case hr => first | (go_simp; done) | (go_simp; rfl)); intro gb289 hg w12 hbox hb; have n0_ := Aside0.mk (below_step bel_ hb); have n1_ := Aside0.mk (hbox); have n2_ := Aside0.mk ((bsz_ hg : w.heap.size ≤ gb289)); have n3_ := Aside0.mk ((bsz_ hg : w.heap.size ≤ gb289)); clear HB; have HB := n0_; have BK289 := n1_; have GW289 := n2_; have GE289 := n3_; clear n0_ n1_ n2_ n3_; clear hb hbox hg; have hcz13_0 : w12.cell? ⟨gb289, 0, none⟩ = some (.int .i64 a2_0) := (blk_cell BK289.out 0).trans rfl; have hcz13_1 : w12.cell? ⟨gb289, 1, none⟩ = some (.int .i64 a2_1) := (blk_cell BK289.out 1).trans rfl; have hcz13_2 : w12.cell? ⟨gb289, 2, none⟩ = some (.string a2_2) := (blk_cell BK289.out 2).trans rfl; have hfz13_0 := blk_frozen BK289.out 0; have hfz13_1 := blk_frozen BK289.out 1; have hfz13_2 := blk_frozen BK289.out 2))
  go_ret
  exact ⟨rsl_, bel_⟩

end Go.Proofs.Ytdjfdhnmbimkoaa.PRs
