/- AreaBackCardSaid, part 10 of 13: contracts of the program's functions, the words that they use, and the plain laws on what they compute. Conditions: none beyond what the statements say. -/
import Derived.Test.YtofdhdafabmhmaaDoorKAb1
import Derived.Test.YtofdhdafabmhmaaDoorKAb2
import Derived.Test.YtofdhdafabmhmaaDoorKAb7
import Derived.Test.YtofdhdafabmhmaaDoorKAb8
import Derived.Test.YtofdhdafabmhmaaDoorKAb5
set_option linter.unusedVariables false
set_option linter.unusedSimpArgs false
section
namespace Go.Proofs.YtofdhdafabmhmaaDoor.PAr
open Go.RowKit Go.Proofs.YtofdhdafabmhmaaDoorW.PrintWords Go.Proofs.YtofdhdafabmhmaaDoorW.PrintLast Go.Proofs.YtofdhdafabmhmaaDoorW.PrintMore
attribute [local go_sem] max2_int min2_int max_two min_two max_three min_three max_four min_four
open Go.Proofs.YtofdhdafabmhmaaDoor.Opn Go.Proofs.YtofdhdafabmhmaaDoor.Giv

/-! ### parterrelaw08_AreaApart: function 4 -/
mutual
def parterrelaw08_AreaApart.j0 : Nat → List (List ByteArray) → Bool → Option (Bool)
 | 0, _, _ => none
 | k + 1, x0, x17 => if x17 = true then ((parterrelaw08_lives.f k).bind fun t291 => (some t291)) else ((area_Rects.f k x0).bind fun t292 => (parterrelaw08_AreaApart.l0 k x0 t292 (x0.length : Int) 0))
def parterrelaw08_AreaApart.l0 : Nat → List (List ByteArray) → List (S33) → Int → Int → Option (Bool)
 | 0, _, _, _, _ => none
 | k + 1, x0, x3, x22, x23 => if x23 < x22 then (if 0 ≤ x23 then (if x23 < (x0.length : Int) then (parterrelaw08_AreaApart.l1 k x0 x3 x23 x22 x23 (rd_L1 x0 x23) ((rd_L1 x0 x23).length : Int) 0) else (none)) else (none)) else ((parterrelaw08_lives.f k).bind fun t295 => (some t295))
def parterrelaw08_AreaApart.l1 : Nat → List (List ByteArray) → List (S33) → Int → Int → Int → List ByteArray → Int → Int → Option (Bool)
 | 0, _, _, _, _, _, _, _, _ => none
 | k + 1, x0, x3, x4, x22, x23, x29, x30, x31 => if x31 < x30 then (if 0 ≤ x31 then (if x31 < (x29.length : Int) then (parterrelaw08_AreaApart.l2 k x0 x3 x4 x31 (rdOf ByteArray.empty x29 x31) 0 x22 x23 x29 x30 x31 x3 (x3.length : Int) 0) else (none)) else (none)) else (parterrelaw08_AreaApart.l0 k x0 x3 x22 (wrap64 (x23 + 1)))
def parterrelaw08_AreaApart.l2 : Nat → List (List ByteArray) → List (S33) → Int → Int → ByteArray → Int → Int → Int → List ByteArray → Int → Int → List (S33) → Int → Int → Option (Bool)
 | 0, _, _, _, _, _, _, _, _, _, _, _, _, _, _ => none
 | k + 1, x0, x3, x4, x5, x6, x7, x22, x23, x29, x30, x31, x36, x37, x38 => if x38 < x37 then (if 0 ≤ x38 then (if x38 < (x36.length : Int) then (if x4 ≥ ((rd_T33 x36 x38).f1) then (if x4 < (wrap64 (((rd_T33 x36 x38).f1) + ((rd_T33 x36 x38).f3))) then (if x5 ≥ ((rd_T33 x36 x38).f2) then (parterrelaw08_AreaApart.j4 k x0 x3 x4 x5 x6 x7 x22 x23 x29 x30 x31 x36 x37 x38 (decide (x5 < (wrap64 (((rd_T33 x36 x38).f2) + ((rd_T33 x36 x38).f4))))) ((rd_T33 x36 x38).f0) ((rd_T33 x36 x38).f1) ((rd_T33 x36 x38).f2) ((rd_T33 x36 x38).f3) ((rd_T33 x36 x38).f4)) else (parterrelaw08_AreaApart.j4 k x0 x3 x4 x5 x6 x7 x22 x23 x29 x30 x31 x36 x37 x38 false ((rd_T33 x36 x38).f0) ((rd_T33 x36 x38).f1) ((rd_T33 x36 x38).f2) ((rd_T33 x36 x38).f3) ((rd_T33 x36 x38).f4))) else (parterrelaw08_AreaApart.j4 k x0 x3 x4 x5 x6 x7 x22 x23 x29 x30 x31 x36 x37 x38 false ((rd_T33 x36 x38).f0) ((rd_T33 x36 x38).f1) ((rd_T33 x36 x38).f2) ((rd_T33 x36 x38).f3) ((rd_T33 x36 x38).f4))) else (parterrelaw08_AreaApart.j4 k x0 x3 x4 x5 x6 x7 x22 x23 x29 x30 x31 x36 x37 x38 false ((rd_T33 x36 x38).f0) ((rd_T33 x36 x38).f1) ((rd_T33 x36 x38).f2) ((rd_T33 x36 x38).f3) ((rd_T33 x36 x38).f4))) else (none)) else (none)) else (if x7 = (mn 1 (x6.size : Int)) then (parterrelaw08_AreaApart.l1 k x0 x3 x4 x22 x23 x29 x30 (wrap64 (x31 + 1))) else (none))
def parterrelaw08_AreaApart.j4 : Nat → List (List ByteArray) → List (S33) → Int → Int → ByteArray → Int → Int → Int → List ByteArray → Int → Int → List (S33) → Int → Int → Bool → ByteArray → Int → Int → Int → Int → Option (Bool)
 | 0, _, _, _, _, _, _, _, _, _, _, _, _, _, _, _, _, _, _, _, _ => none
 | k + 1, x0, x3, x4, x5, x6, x7, x22, x23, x29, x30, x31, x36, x37, x38, x69, x300000, x300001, x300002, x300003, x300004 => if x69 = true then (if x300000.toList = x6.toList then (parterrelaw08_AreaApart.l2 k x0 x3 x4 x5 x6 (wrap64 (x7 + 1)) x22 x23 x29 x30 x31 x36 x37 (wrap64 (x38 + 1))) else (none)) else (parterrelaw08_AreaApart.l2 k x0 x3 x4 x5 x6 x7 x22 x23 x29 x30 x31 x36 x37 (wrap64 (x38 + 1)))
end
def parterrelaw08_AreaApart.f (k : Nat) (l0 : List (List ByteArray)) : Option (Bool) := (parterrelaw08_Light.f k l0).bind fun t289 => (if t289 = true then ((area_Good.f k l0).bind fun t290 => (parterrelaw08_AreaApart.j0 k l0 (!t290))) else (parterrelaw08_AreaApart.j0 k l0 true))
theorem parterrelaw08_AreaApart.mono_l : ∀ k, (∀ y0 y1, LeO (parterrelaw08_AreaApart.j0 k y0 y1) (parterrelaw08_AreaApart.j0 (k + 1) y0 y1)) ∧ (∀ y0 y1 y2 y3, LeO (parterrelaw08_AreaApart.l0 k y0 y1 y2 y3) (parterrelaw08_AreaApart.l0 (k + 1) y0 y1 y2 y3)) ∧ (∀ y0 y1 y2 y3 y4 y5 y6 y7, LeO (parterrelaw08_AreaApart.l1 k y0 y1 y2 y3 y4 y5 y6 y7) (parterrelaw08_AreaApart.l1 (k + 1) y0 y1 y2 y3 y4 y5 y6 y7)) ∧ (∀ y0 y1 y2 y3 y4 y5 y6 y7 y8 y9 y10 y11 y12 y13, LeO (parterrelaw08_AreaApart.l2 k y0 y1 y2 y3 y4 y5 y6 y7 y8 y9 y10 y11 y12 y13) (parterrelaw08_AreaApart.l2 (k + 1) y0 y1 y2 y3 y4 y5 y6 y7 y8 y9 y10 y11 y12 y13)) ∧ (∀ y0 y1 y2 y3 y4 y5 y6 y7 y8 y9 y10 y11 y12 y13 y14 y15 y16 y17 y18 y19, LeO (parterrelaw08_AreaApart.j4 k y0 y1 y2 y3 y4 y5 y6 y7 y8 y9 y10 y11 y12 y13 y14 y15 y16 y17 y18 y19) (parterrelaw08_AreaApart.j4 (k + 1) y0 y1 y2 y3 y4 y5 y6 y7 y8 y9 y10 y11 y12 y13 y14 y15 y16 y17 y18 y19))
 | 0 => ⟨fun _ _ r h => by simp [parterrelaw08_AreaApart.j0] at h, fun _ _ _ _ r h => by simp [parterrelaw08_AreaApart.l0] at h, fun _ _ _ _ _ _ _ _ r h => by simp [parterrelaw08_AreaApart.l1] at h, fun _ _ _ _ _ _ _ _ _ _ _ _ _ _ r h => by simp [parterrelaw08_AreaApart.l2] at h, fun _ _ _ _ _ _ _ _ _ _ _ _ _ _ _ _ _ _ _ _ r h => by simp [parterrelaw08_AreaApart.j4] at h⟩
 | k + 1 => by
  obtain ⟨ih0, ih1, ih2, ih3, ih4⟩ := parterrelaw08_AreaApart.mono_l k
  refine ⟨?_, ?_, ?_, ?_, ?_⟩
  ·intro y0 y1
   unfold parterrelaw08_AreaApart.j0
   repeat' first
   | (with_reducible exact ih0 _ _)
   | (with_reducible exact ih1 _ _ _ _)
   | (with_reducible exact ih2 _ _ _ _ _ _ _ _)
   | (with_reducible exact ih3 _ _ _ _ _ _ _ _ _ _ _ _ _ _)
   | (with_reducible exact ih4 _ _ _ _ _ _ _ _ _ _ _ _ _ _ _ _ _ _ _ _)
   | (with_reducible exact area_Good.mono _ _)
   | (with_reducible exact area_Rects.mono _ _)
   | (with_reducible exact parterrelaw08_Light.mono _ _)
   | (with_reducible exact parterrelaw08_lives.mono _)
   | (with_reducible exact LeO.refl _)
   | (with_reducible exact LeO.none _)
   | (with_reducible refine LeO.ite ?_ ?_)
   | (with_reducible refine LeO.bind ?_ (fun _ => ?_))
  ·intro y0 y1 y2 y3
   unfold parterrelaw08_AreaApart.l0
   repeat' first
   | (with_reducible exact ih0 _ _)
   | (with_reducible exact ih1 _ _ _ _)
   | (with_reducible exact ih2 _ _ _ _ _ _ _ _)
   | (with_reducible exact ih3 _ _ _ _ _ _ _ _ _ _ _ _ _ _)
   | (with_reducible exact ih4 _ _ _ _ _ _ _ _ _ _ _ _ _ _ _ _ _ _ _ _)
   | (with_reducible exact area_Good.mono _ _)
   | (with_reducible exact area_Rects.mono _ _)
   | (with_reducible exact parterrelaw08_Light.mono _ _)
   | (with_reducible exact parterrelaw08_lives.mono _)
   | (with_reducible exact LeO.refl _)
   | (with_reducible exact LeO.none _)
   | (with_reducible refine LeO.ite ?_ ?_)
   | (with_reducible refine LeO.bind ?_ (fun _ => ?_))
  ·intro y0 y1 y2 y3 y4 y5 y6 y7
   unfold parterrelaw08_AreaApart.l1
   repeat' first
   | (with_reducible exact ih0 _ _)
   | (with_reducible exact ih1 _ _ _ _)
   | (with_reducible exact ih2 _ _ _ _ _ _ _ _)
   | (with_reducible exact ih3 _ _ _ _ _ _ _ _ _ _ _ _ _ _)
   | (with_reducible exact ih4 _ _ _ _ _ _ _ _ _ _ _ _ _ _ _ _ _ _ _ _)
   | (with_reducible exact area_Good.mono _ _)
   | (with_reducible exact area_Rects.mono _ _)
   | (with_reducible exact parterrelaw08_Light.mono _ _)
   | (with_reducible exact parterrelaw08_lives.mono _)
   | (with_reducible exact LeO.refl _)
   | (with_reducible exact LeO.none _)
   | (with_reducible refine LeO.ite ?_ ?_)
   | (with_reducible refine LeO.bind ?_ (fun _ => ?_))
  ·intro y0 y1 y2 y3 y4 y5 y6 y7 y8 y9 y10 y11 y12 y13
   unfold parterrelaw08_AreaApart.l2
   repeat' first
   | (with_reducible exact ih0 _ _)
   | (with_reducible exact ih1 _ _ _ _)
   | (with_reducible exact ih2 _ _ _ _ _ _ _ _)
   | (with_reducible exact ih3 _ _ _ _ _ _ _ _ _ _ _ _ _ _)
   | (with_reducible exact ih4 _ _ _ _ _ _ _ _ _ _ _ _ _ _ _ _ _ _ _ _)
   | (with_reducible exact area_Good.mono _ _)
   | (with_reducible exact area_Rects.mono _ _)
   | (with_reducible exact parterrelaw08_Light.mono _ _)
   | (with_reducible exact parterrelaw08_lives.mono _)
   | (with_reducible exact LeO.refl _)
   | (with_reducible exact LeO.none _)
   | (with_reducible refine LeO.ite ?_ ?_)
   | (with_reducible refine LeO.bind ?_ (fun _ => ?_))
  ·intro y0 y1 y2 y3 y4 y5 y6 y7 y8 y9 y10 y11 y12 y13 y14 y15 y16 y17 y18 y19
   unfold parterrelaw08_AreaApart.j4
   repeat' first
   | (with_reducible exact ih0 _ _)
   | (with_reducible exact ih1 _ _ _ _)
   | (with_reducible exact ih2 _ _ _ _ _ _ _ _)
   | (with_reducible exact ih3 _ _ _ _ _ _ _ _ _ _ _ _ _ _)
   | (with_reducible exact ih4 _ _ _ _ _ _ _ _ _ _ _ _ _ _ _ _ _ _ _ _)
   | (with_reducible exact area_Good.mono _ _)
   | (with_reducible exact area_Rects.mono _ _)
   | (with_reducible exact parterrelaw08_Light.mono _ _)
   | (with_reducible exact parterrelaw08_lives.mono _)
   | (with_reducible exact LeO.refl _)
   | (with_reducible exact LeO.none _)
   | (with_reducible refine LeO.ite ?_ ?_)
   | (with_reducible refine LeO.bind ?_ (fun _ => ?_))
theorem parterrelaw08_AreaApart.mono : ∀ a0 k, LeO (parterrelaw08_AreaApart.f k a0) (parterrelaw08_AreaApart.f (k + 1) a0) := by
 intro a0 k
 obtain ⟨ih0, ih1, ih2, ih3, ih4⟩ := parterrelaw08_AreaApart.mono_l k
 unfold parterrelaw08_AreaApart.f
 repeat' first
   | (with_reducible exact ih0 _ _)
   | (with_reducible exact ih1 _ _ _ _)
   | (with_reducible exact ih2 _ _ _ _ _ _ _ _)
   | (with_reducible exact ih3 _ _ _ _ _ _ _ _ _ _ _ _ _ _)
   | (with_reducible exact ih4 _ _ _ _ _ _ _ _ _ _ _ _ _ _ _ _ _ _ _ _)
   | (with_reducible exact area_Good.mono _ _)
   | (with_reducible exact area_Rects.mono _ _)
   | (with_reducible exact parterrelaw08_Light.mono _ _)
   | (with_reducible exact parterrelaw08_lives.mono _)
   | (with_reducible exact LeO.refl _)
   | (with_reducible exact LeO.none _)
   | (with_reducible refine LeO.ite ?_ ?_)
   | (with_reducible refine LeO.bind ?_ (fun _ => ?_))
set_option maxHeartbeats 8000000 in
set_option maxRecDepth 100000 in
theorem parterrelaw08_AreaApart.calls (k : Nat) (A0 : Option Addr) (c0 : Nat) (l0 : List (List ByteArray)) (r : Bool) (w : World) (hr0 : Kd.C (Kd.slice 9 Kd.string) w A0 l0.length l0) (hc0 : l0.length ≤ c0) (h : parterrelaw08_AreaApart.f k l0 = some r) :
  Calls Tryd.prog 4 #[.slice A0 l0.length c0] w fun e w' => e = .returned (.bool r) ∧ Below w.heap.size w w' := by
 have hu33 := Tryd.underlying33
 have HR0 := Aside0.mk hr0
 have HC0 := Aside0.mk hc0
 clear hr0 hc0
 have HB := Aside0.mk (Below.refl w.heap.size w)
 have H : ((parterrelaw08_Light.f k l0).bind fun t289 => (if t289 = true then ((area_Good.f k l0).bind fun t290 => (parterrelaw08_AreaApart.j0 k l0 (!t290))) else (parterrelaw08_AreaApart.j0 k l0 true))) = some r := h
 clear h
 have HC2 := Aside0.mk H
 clear H
 go_enter Tryd.func4, Tryd.ntmps4
 go_upto_region 1 with (fail)
 go_cut [17] (fun v17 wc => ∃ (kq : Nat) (x17_1 : Bool), v17 = .bool x17_1 ∧ Aside0 (parterrelaw08_AreaApart.j0 kq l0 x17_1 = some r) ∧ Aside0 (kq ≤ k) ∧ Aside0 (Below w.heap.size w wc))
 case first =>
  have H := HC2.out
  clear HC2
  replace H := Option.bind_eq_some_iff.mp H
  obtain ⟨t289, A30, H⟩ := H
  try dsimp only at H
  have A3 := Aside0.mk A30
  clear A30
  by_cases c4 : t289 = true
  ·subst c4
   rw [if_pos rfl] at H
   replace H := Option.bind_eq_some_iff.mp H
   obtain ⟨t290, A50, H⟩ := H
   try dsimp only at H
   have A5 := Aside0.mk A50
   clear A50
   have H' := Aside0.mk H
   clear H
   go_wp2_with (first | ((with_reducible refine gate_callee (f := 12) rfl ?_); refine goesL_ (some 11) rfl rfl Tryd.func12 (by kernel_rfl) rfl #[.slice A0 l0.length c0] rfl goa_ ?_; (with_reducible refine (parterrelaw08_Light.calls k _ _ l0 true _ ?side1 ?side2 A3.out).mono ?_); (case side1 => repeat (first | exact (Kd.C_below HR0.out HB.out) | (with_reducible refine Kd.C_alloc ?_ _) | (with_reducible refine Kd.C_drewN ?_ _) | (with_reducible refine Kd.C_drew ?_))); (case side2 => exact HC0.out); rintro e w6 ⟨rfl, hb⟩; refine ⟨_, rfl, ?_⟩; have n0_ := Aside0.mk (below_step bel_ hb); clear HB; have HB := n0_; clear n0_; clear hb) | (go_at_call 13; (with_reducible refine (area_Good.calls k _ _ l0 t290 _ ?side1 ?side2 A5.out).mono ?_); (case side1 => repeat (first | exact (Kd.C_below HR0.out HB.out) | (with_reducible refine Kd.C_alloc ?_ _) | (with_reducible refine Kd.C_drewN ?_ _) | (with_reducible refine Kd.C_drew ?_))); (case side2 => exact HC0.out); rintro e w7 ⟨rfl, hb⟩; have n0_ := Aside0.mk (below_step bel_ hb); clear HB; have HB := n0_; clear n0_; clear hb))
   go_meet
   case rel => exact ⟨_, (!t290), rfs_, (by first | exact H' | (subst_vars; exact H')), ⟨ole_⟩, ⟨bel_⟩⟩
  ·replace c4 := Bool.eq_false_iff.mpr c4
   subst c4
   rw [if_neg (show ¬ (false = true) by decide)] at H
   have H' := Aside0.mk H
   clear H
   go_wp2_with (first | ((with_reducible refine gate_callee (f := 12) rfl ?_); refine goesL_ (some 11) rfl rfl Tryd.func12 (by kernel_rfl) rfl #[.slice A0 l0.length c0] rfl goa_ ?_; (with_reducible refine (parterrelaw08_Light.calls k _ _ l0 false _ ?side1 ?side2 A3.out).mono ?_); (case side1 => repeat (first | exact (Kd.C_below HR0.out HB.out) | (with_reducible refine Kd.C_alloc ?_ _) | (with_reducible refine Kd.C_drewN ?_ _) | (with_reducible refine Kd.C_drew ?_))); (case side2 => exact HC0.out); rintro e w8 ⟨rfl, hb⟩; refine ⟨_, rfl, ?_⟩; have n0_ := Aside0.mk (below_step bel_ hb); clear HB; have HB := n0_; clear n0_; clear hb))
   go_meet
   case rel => exact ⟨_, (true), rfs_, (by first | exact H' | (subst_vars; exact H')), ⟨ole_⟩, ⟨bel_⟩⟩
 case rest =>
  clear HC2
  try clear c1
  try clear p2
  try clear c4
  obtain ⟨kq, x17_1, rfl, HA, HJ1, HB⟩ := hcut
  cases kq with
  | zero => exact absurd HA.out (by simp [parterrelaw08_AreaApart.j0])
  | succ kj1 =>
   have H := HA.out
   clear HA
   simp only [parterrelaw08_AreaApart.j0] at H
   by_cases c9 : x17_1 = true
   ·subst c9
    rw [if_pos rfl] at H
    replace H := Option.bind_eq_some_iff.mp H
    obtain ⟨t291, A100, H⟩ := H
    try dsimp only at H
    have A10 := Aside0.mk A100
    clear A100
    obtain rfl := Option.some.inj H
    go_wp2_with (first | ((with_reducible refine gate_callee (f := 8) rfl ?_); refine goesL_ (some 18) rfl rfl Tryd.func8 (by kernel_rfl) rfl #[] rfl goa_ ?_; (with_reducible refine (parterrelaw08_lives.calls kj1  t291 _ A10.out).mono ?_); rintro e w11 ⟨rfl, hb⟩; refine ⟨_, rfl, ?_⟩; have n0_ := Aside0.mk (below_step bel_ hb); clear HB; have HB := n0_; clear n0_; clear hb))
    go_ret
    exact ⟨rsl_, bel_⟩
   ·replace c9 := Bool.eq_false_iff.mpr c9
    subst c9
    rw [if_neg (show ¬ (false = true) by decide)] at H
    replace H := Option.bind_eq_some_iff.mp H
    obtain ⟨t292, A120, H⟩ := H
    try dsimp only at H
    have A12 := Aside0.mk A120
    clear A120
    have H' := Aside0.mk H
    clear H
    go_wp2_with (first | ((with_reducible refine gate_callee (f := 14) rfl ?_); refine goesL_ (some 20) rfl rfl Tryd.func14 (by kernel_rfl) rfl #[.slice A0 l0.length c0] rfl goa_ ?_; (with_reducible refine (area_Rects.calls kj1 _ _ l0 t292 _ ?side1 ?side2 A12.out).mono ?_); (case side1 => repeat (first | exact (Kd.C_below HR0.out HB.out) | (with_reducible refine Kd.C_alloc ?_ _) | (with_reducible refine Kd.C_drewN ?_ _) | (with_reducible refine Kd.C_drew ?_))); (case side2 => exact HC0.out); rintro e w13 ⟨v293, rfl, ho0, hb⟩; refine ⟨_, rfl, ?_⟩; have n0_ := Aside0.mk (Kd.R_lower ho0 (below_size bel_)); have n1_ := Aside0.mk (below_step bel_ hb); clear HB; have HO294 := n0_; have HB := n1_; clear n0_ n1_; (try clear hb); (try clear hb2); (try clear hk); (try clear hi); (try clear ho0)))
    go_loopg [23] kj1 (fun kq v23 w' => ∃ (x23_2 : Int), v23 = .int .i64 x23_2 ∧ Aside0 (parterrelaw08_AreaApart.l0 kq l0 t292 (l0.length : Int) x23_2 = some r) ∧ Aside0 (kq ≤ kj1) ∧ Aside0 (Kd.R k33 33 w' w.heap.size (fun _ => True) v293 t292) ∧ Aside0 (Below w.heap.size w w'))
    case atStart => exact ⟨(0), rfs_, H', ⟨Nat.le_refl _⟩, ⟨by (with_reducible repeat (first | apply Kd.R_alloc | apply Kd.R_drewN | apply Kd.R_drew)); exact HO294.out⟩, ⟨bel_⟩⟩
    case round =>
     clear H'
     try clear c1
     try clear p2
     try clear c4
     try clear c8
     try clear c9
     try clear c12
     try clear p2
     obtain ⟨x23_2, rfl, HA, HK2, HO_3, HB⟩ := hrel
     cases gk with
     | zero => exact absurd HA.out (by simp [parterrelaw08_AreaApart.l0])
     | succ k2 =>
      have H := HA.out
      clear HA
      simp only [parterrelaw08_AreaApart.l0] at H
      by_cases c14 : x23_2 < (l0.length : Int)
      ·rw [if_pos c14] at H
       have c14b0 : decide (x23_2 < (l0.length : Int)) = true := decide_eq_true c14
       clear c14
       by_cases c15 : 0 ≤ x23_2
       ·rw [if_pos c15] at H
        have c15b0 : decide (0 ≤ x23_2) = true := decide_eq_true c15
        clear c15
        by_cases c16 : x23_2 < (l0.length : Int)
        ·rw [if_pos c16] at H
         have c16b0 : decide (x23_2 < (l0.length : Int)) = true := decide_eq_true c16
         clear c16
         have H' := Aside0.mk H
         clear H
         have p296 : 0 ≤ (x23_2 : Int) := of_decide_eq_true (by first | (with_reducible assumption) | assumption)
         have q296 : x23_2 < (l0.length : Int) := of_decide_eq_true (by first | (with_reducible assumption) | assumption)
         obtain ⟨ad296, A296_0, c296_0, e296, hx296_0, hl296_0, hi296_0⟩ := at_L1 HR0.out x23_2 p296 q296
         cases e296
         replace hx296_0 := (HB.out.cell (World.block_lt_of_cell? w _ hx296_0)).trans hx296_0
         have HR296_0 := Aside0.mk hi296_0
         have HC296_0 := Aside0.mk hl296_0
         clear hi296_0 hl296_0
         replace p296 := eq_true p296
         replace q296 := eq_true q296
         go_wp2
         go_loopg [31] k2 (fun kq v31 w' => ∃ (x31_3 : Int), v31 = .int .i64 x31_3 ∧ Aside0 (parterrelaw08_AreaApart.l1 kq l0 t292 x23_2 (l0.length : Int) x23_2 (rd_L1 l0 x23_2) ((rd_L1 l0 x23_2).length : Int) x31_3 = some r) ∧ Aside0 (kq ≤ k2) ∧ Aside0 (Kd.R k33 33 w' w.heap.size (fun _ => True) v293 t292) ∧ Aside0 (Below w.heap.size w w'))
         case atStart => exact ⟨(0), rfs_, H', ⟨Nat.le_refl _⟩, ⟨by (with_reducible repeat (first | apply Kd.R_alloc | apply Kd.R_drewN | apply Kd.R_drew)); exact HO_3.out⟩, ⟨bel_⟩⟩
         case round =>
          clear H'
          try clear c1
          try clear c2
          try clear p2
          try clear q2
          try clear hx2
          try clear c4
          try clear c8
          try clear c9
          try clear c12
          try clear c14
          try clear c14b0
          try clear c15
          try clear c15b0
          try clear c16
          try clear c16b0
          try clear hx296_0
          try clear p2
          try clear p296
          try clear q296
          obtain ⟨x31_3, rfl, HA, HK3, HO_3, HB⟩ := hrel
          cases gk with
          | zero => exact absurd HA.out (by simp [parterrelaw08_AreaApart.l1])
          | succ k3 =>
           have H := HA.out
           clear HA
           simp only [parterrelaw08_AreaApart.l1] at H
           by_cases c17 : x31_3 < ((rd_L1 l0 x23_2).length : Int)
           ·rw [if_pos c17] at H
            have c17b0 : decide (x31_3 < ((rd_L1 l0 x23_2).length : Int)) = true := decide_eq_true c17
            clear c17
            by_cases c18 : 0 ≤ x31_3
            ·rw [if_pos c18] at H
             have c18b0 : decide (0 ≤ x31_3) = true := decide_eq_true c18
             clear c18
             by_cases c19 : x31_3 < ((rd_L1 l0 x23_2).length : Int)
             ·rw [if_pos c19] at H
              have c19b0 : decide (x31_3 < ((rd_L1 l0 x23_2).length : Int)) = true := decide_eq_true c19
              clear c19
              have H' := Aside0.mk H
              clear H
              have p297 : 0 ≤ (x31_3 : Int) := of_decide_eq_true (by first | (with_reducible assumption) | assumption)
              have q297 : x31_3 < ((rd_L1 l0 x23_2).length : Int) := of_decide_eq_true (by first | (with_reducible assumption) | assumption)
              obtain ⟨ad297, e297, hx297_0⟩ := Kd.at_string HR296_0.out x31_3 p297 q297
              cases e297
              replace hx297_0 := (HB.out.cell (World.block_lt_of_cell? w _ hx297_0)).trans hx297_0
              replace p297 := eq_true p297
              replace q297 := eq_true q297
              obtain ⟨Ao20, co20, eo20⟩ := Kd.R_slice HO_3.out
              subst eo20
              go_wp2
              go_loopg [7, 38] k3 (fun kq v7 v38 w' => ∃ (x7_4 : Int) (x38_4 : Int), v7 = .int .i64 x7_4 ∧ v38 = .int .i64 x38_4 ∧ Aside0 (parterrelaw08_AreaApart.l2 kq l0 t292 x23_2 x31_3 (rdOf ByteArray.empty (rd_L1 l0 x23_2) x31_3) x7_4 (l0.length : Int) x23_2 (rd_L1 l0 x23_2) ((rd_L1 l0 x23_2).length : Int) x31_3 t292 (t292.length : Int) x38_4 = some r) ∧ Aside0 (kq ≤ k3) ∧ Aside0 (Kd.R k33 33 w' w.heap.size (fun _ => True) (.slice Ao20 t292.length co20) t292) ∧ Aside0 (Kd.R k33 33 w' w.heap.size (fun _ => True) (.slice Ao20 t292.length co20) t292) ∧ Aside0 (Below w.heap.size w w'))
              case atStart => exact ⟨(0), (0), rfs_, rfs_, H', ⟨Nat.le_refl _⟩, ⟨by (with_reducible repeat (first | apply Kd.R_alloc | apply Kd.R_drewN | apply Kd.R_drew)); exact HO_3.out⟩, ⟨by (with_reducible repeat (first | apply Kd.R_alloc | apply Kd.R_drewN | apply Kd.R_drew)); exact HO_3.out⟩, ⟨bel_⟩⟩
              case round =>
               clear H'
               try clear c1
               try clear c2
               try clear p2
               try clear q2
               try clear hx2
               try clear c4
               try clear c8
               try clear c9
               try clear c12
               try clear c14
               try clear c14b0
               try clear c15
               try clear c15b0
               try clear c16
               try clear c16b0
               try clear c17
               try clear c17b0
               try clear c18
               try clear c18b0
               try clear c19
               try clear c19b0
               try clear hx296_0
               try clear hx297_0
               try clear p2
               try clear p296
               try clear p297
               try clear q2
               try clear q296
               try clear q297
               obtain ⟨x7_4, x38_4, rfl, rfl, HA, HK4, HO_3, HO_36, HB⟩ := hrel
               cases gk with
               | zero => exact absurd HA.out (by simp [parterrelaw08_AreaApart.l2])
               | succ k4 =>
                have H := HA.out
                clear HA
                simp only [parterrelaw08_AreaApart.l2] at H
                by_cases c21 : x38_4 < (t292.length : Int)
                ·rw [if_pos c21] at H
                 have c21b0 : decide (x38_4 < (t292.length : Int)) = true := decide_eq_true c21
                 clear c21
                 by_cases c22 : 0 ≤ x38_4
                 ·rw [if_pos c22] at H
                  have c22b0 : decide (0 ≤ x38_4) = true := decide_eq_true c22
                  clear c22
                  by_cases c23 : x38_4 < (t292.length : Int)
                  ·rw [if_pos c23] at H
                   have c23b0 : decide (x38_4 < (t292.length : Int)) = true := decide_eq_true c23
                   clear c23
                   have HC24 := Aside0.mk H
                   clear H
                   have p298 : 0 ≤ (x38_4 : Int) := of_decide_eq_true (by first | (with_reducible assumption) | assumption)
                   have q298 : x38_4 < (t292.length : Int) := of_decide_eq_true (by first | (with_reducible assumption) | assumption)
                   obtain ⟨ad298, e298, hx298_0, hx298_1, hx298_2, hx298_3, hx298_4⟩ := at_T33 (Kd.R_reads' HO_36.out).2.2 x38_4 p298 q298
                   cases e298
                   replace p298 := eq_true p298
                   replace q298 := eq_true q298
                   go_upto_region 14 with (first | ((with_reducible refine gate_dst (N := 9) rfl ?_); refine box_event ?hg (N := 9) ?hd (cs := #[.string (⟨#[]⟩ : ByteArray), .int .i64 0, .int .i64 0, .int .i64 0, .int .i64 0]) (t := 33) ?hr ?_; (case hd => rfl); (case hg => rfl); (case hr => first | (go_simp; done) | (go_simp; rfl)); intro gb299 hg w25 hbox hb; have n0_ := Aside0.mk (Kd.R_below (Kd.R_elderB (by (with_reducible repeat (first | apply Kd.R_alloc | apply Kd.R_drewN | apply Kd.R_drew)); exact HO_3.out) gb299 (Nat.le_of_eq hg.symm)) hb); have n1_ := Aside0.mk (Kd.R_below (Kd.R_elderB (by (with_reducible repeat (first | apply Kd.R_alloc | apply Kd.R_drewN | apply Kd.R_drew)); exact HO_36.out) gb299 (Nat.le_of_eq hg.symm)) hb); have n2_ := Aside0.mk (below_step bel_ hb); have n3_ := Aside0.mk (hbox); have n4_ := Aside0.mk ((bsz_ hg : w.heap.size ≤ gb299)); have n5_ := Aside0.mk ((bsz_ hg : w.heap.size ≤ gb299)); clear HO_3; clear HO_36; clear HB; have HO_3 := n0_; have HO_36 := n1_; have HB := n2_; have BK299 := n3_; have GW299 := n4_; have GE299 := n5_; clear n0_ n1_ n2_ n3_ n4_ n5_; clear hb hbox hg; have hcz26_0 : w25.cell? ⟨gb299, 0, none⟩ = some (.string (⟨#[]⟩ : ByteArray)) := (blk_cell BK299.out 0).trans rfl; have hcz26_1 : w25.cell? ⟨gb299, 1, none⟩ = some (.int .i64 0) := (blk_cell BK299.out 1).trans rfl; have hcz26_2 : w25.cell? ⟨gb299, 2, none⟩ = some (.int .i64 0) := (blk_cell BK299.out 2).trans rfl; have hcz26_3 : w25.cell? ⟨gb299, 3, none⟩ = some (.int .i64 0) := (blk_cell BK299.out 3).trans rfl; have hcz26_4 : w25.cell? ⟨gb299, 4, none⟩ = some (.int .i64 0) := (blk_cell BK299.out 4).trans rfl; have hfz26_0 := blk_frozen BK299.out 0; have hfz26_1 := blk_frozen BK299.out 1; have hfz26_2 := blk_frozen BK299.out 2; have hfz26_3 := blk_frozen BK299.out 3; have hfz26_4 := blk_frozen BK299.out 4))
                   (try simp only [Act.put, List.setIfInBounds_toArray, List.set_cons_zero, List.set_cons_succ])
                   go_cut [69] (fun v69 wc => ∃ (kq : Nat) (x69_23 : Bool), v69 = .bool x69_23 ∧ Aside0 (parterrelaw08_AreaApart.j4 kq l0 t292 x23_2 x31_3 (rdOf ByteArray.empty (rd_L1 l0 x23_2) x31_3) x7_4 (l0.length : Int) x23_2 (rd_L1 l0 x23_2) ((rd_L1 l0 x23_2).length : Int) x31_3 t292 (t292.length : Int) x38_4 x69_23 ((rd_T33 t292 x38_4).f0) ((rd_T33 t292 x38_4).f1) ((rd_T33 t292 x38_4).f2) ((rd_T33 t292 x38_4).f3) ((rd_T33 t292 x38_4).f4) = some r) ∧ Aside0 (kq ≤ k4) ∧ Aside0 (Kd.R k33 33 wc w.heap.size (fun k_ => k_ ≠ gb299) (.slice (some ad298) t292.length co20) t292) ∧ Aside0 (Kd.R k33 33 wc w.heap.size (fun k_ => k_ ≠ gb299) (.slice (some ad298) t292.length co20) t292) ∧ Aside0 (wc.heap[gb299]? = some (.cells #[.string ((rd_T33 t292 x38_4).f0), .int .i64 ((rd_T33 t292 x38_4).f1), .int .i64 ((rd_T33 t292 x38_4).f2), .int .i64 ((rd_T33 t292 x38_4).f3), .int .i64 ((rd_T33 t292 x38_4).f4)] 33 (0, 0))) ∧ Aside0 (Below w.heap.size w wc))
                   case first =>
                    have H := HC24.out
                    clear HC24
                    by_cases c27 : x23_2 ≥ ((rd_T33 t292 x38_4).f1)
                    ·rw [if_pos c27] at H
                     have c27b0 : decide (((rd_T33 t292 x38_4).f1) ≤ x23_2) = true := decide_eq_true c27
                     clear c27
                     (first | rw [c27b0] | (simp only [i64_w, i32_w]; rw [c27b0]) | skip)
                     by_cases c28 : x23_2 < (wrap64 (((rd_T33 t292 x38_4).f1) + ((rd_T33 t292 x38_4).f3)))
                     ·rw [if_pos c28] at H
                      have c28b0 : decide (x23_2 < (wrap64 (((rd_T33 t292 x38_4).f1) + ((rd_T33 t292 x38_4).f3)))) = true := decide_eq_true c28
                      clear c28
                      by_cases c29 : x31_3 ≥ ((rd_T33 t292 x38_4).f2)
                      ·rw [if_pos c29] at H
                       have c29b0 : decide (((rd_T33 t292 x38_4).f2) ≤ x31_3) = true := decide_eq_true c29
                       clear c29
                       have H' := Aside0.mk H
                       clear H
                       have hcz30_0 : w25.cell? ⟨gb299, 0, none⟩ = some (.string (⟨#[]⟩ : ByteArray)) := (blk_cell BK299.out 0).trans rfl
                       have hcz30_1 : w25.cell? ⟨gb299, 1, none⟩ = some (.int .i64 0) := (blk_cell BK299.out 1).trans rfl
                       have hcz30_2 : w25.cell? ⟨gb299, 2, none⟩ = some (.int .i64 0) := (blk_cell BK299.out 2).trans rfl
                       have hcz30_3 : w25.cell? ⟨gb299, 3, none⟩ = some (.int .i64 0) := (blk_cell BK299.out 3).trans rfl
                       have hcz30_4 : w25.cell? ⟨gb299, 4, none⟩ = some (.int .i64 0) := (blk_cell BK299.out 4).trans rfl
                       have hfz30_0 := blk_frozen BK299.out 0
                       have hfz30_1 := blk_frozen BK299.out 1
                       have hfz30_2 := blk_frozen BK299.out 2
                       have hfz30_3 := blk_frozen BK299.out 3
                       have hfz30_4 := blk_frozen BK299.out 4
                       go_wp2
                       go_meet
                       case rel => exact ⟨_, (decide (x31_3 < (wrap64 (((rd_T33 t292 x38_4).f2) + ((rd_T33 t292 x38_4).f4))))), rfs_, H', ⟨by have := HJ1.out; have := HK2.out; have := HK3.out; have := HK4.out; first | omega | exact Nat.le_refl _⟩, ⟨by (with_reducible repeat (first | apply Kd.R_alloc | apply Kd.R_drewN | apply Kd.R_drew)); exact Kd.R_mono (Kd.R_far (p := ⟨gb299, 4, none⟩) (Kd.R_far (p := ⟨gb299, 3, none⟩) (Kd.R_far (p := ⟨gb299, 2, none⟩) (Kd.R_far (p := ⟨gb299, 1, none⟩) (Kd.R_far (p := ⟨gb299, 0, none⟩) (Kd.R_mono HO_3.out (fun k_ hk => (⟨hk, hk.2⟩ : _ ∧ k_ ≠ gb299))) (fun _ hk => hk.2) (.string ((rd_T33 t292 x38_4).f0))) (fun _ hk => hk.2) (.int .i64 ((rd_T33 t292 x38_4).f1))) (fun _ hk => hk.2) (.int .i64 ((rd_T33 t292 x38_4).f2))) (fun _ hk => hk.2) (.int .i64 ((rd_T33 t292 x38_4).f3))) (fun _ hk => hk.2) (.int .i64 ((rd_T33 t292 x38_4).f4))) (fun _ hk => hk.1.2)⟩, ⟨by (with_reducible repeat (first | apply Kd.R_alloc | apply Kd.R_drewN | apply Kd.R_drew)); exact Kd.R_mono (Kd.R_far (p := ⟨gb299, 4, none⟩) (Kd.R_far (p := ⟨gb299, 3, none⟩) (Kd.R_far (p := ⟨gb299, 2, none⟩) (Kd.R_far (p := ⟨gb299, 1, none⟩) (Kd.R_far (p := ⟨gb299, 0, none⟩) (Kd.R_mono HO_36.out (fun k_ hk => (⟨hk, hk.2⟩ : _ ∧ k_ ≠ gb299))) (fun _ hk => hk.2) (.string ((rd_T33 t292 x38_4).f0))) (fun _ hk => hk.2) (.int .i64 ((rd_T33 t292 x38_4).f1))) (fun _ hk => hk.2) (.int .i64 ((rd_T33 t292 x38_4).f2))) (fun _ hk => hk.2) (.int .i64 ((rd_T33 t292 x38_4).f3))) (fun _ hk => hk.2) (.int .i64 ((rd_T33 t292 x38_4).f4))) (fun _ hk => hk.1.2)⟩, ⟨by (with_reducible repeat (first | refine blk_drewN ?_ _ | refine blk_drew ?_ | refine blk_alloc ?_ _)); refine blk_put (cs := #[.string ((rd_T33 t292 x38_4).f0), .int .i64 ((rd_T33 t292 x38_4).f1), .int .i64 ((rd_T33 t292 x38_4).f2), .int .i64 ((rd_T33 t292 x38_4).f3), .int .i64 0]) ?_ 4 _ rfl; (with_reducible repeat (first | refine blk_drewN ?_ _ | refine blk_drew ?_ | refine blk_alloc ?_ _)); refine blk_put (cs := #[.string ((rd_T33 t292 x38_4).f0), .int .i64 ((rd_T33 t292 x38_4).f1), .int .i64 ((rd_T33 t292 x38_4).f2), .int .i64 0, .int .i64 0]) ?_ 3 _ rfl; (with_reducible repeat (first | refine blk_drewN ?_ _ | refine blk_drew ?_ | refine blk_alloc ?_ _)); refine blk_put (cs := #[.string ((rd_T33 t292 x38_4).f0), .int .i64 ((rd_T33 t292 x38_4).f1), .int .i64 0, .int .i64 0, .int .i64 0]) ?_ 2 _ rfl; (with_reducible repeat (first | refine blk_drewN ?_ _ | refine blk_drew ?_ | refine blk_alloc ?_ _)); refine blk_put (cs := #[.string ((rd_T33 t292 x38_4).f0), .int .i64 0, .int .i64 0, .int .i64 0, .int .i64 0]) ?_ 1 _ rfl; (with_reducible repeat (first | refine blk_drewN ?_ _ | refine blk_drew ?_ | refine blk_alloc ?_ _)); refine blk_put (cs := #[.string (⟨#[]⟩ : ByteArray), .int .i64 0, .int .i64 0, .int .i64 0, .int .i64 0]) ?_ 0 _ rfl; (with_reducible repeat (first | refine blk_drewN ?_ _ | refine blk_drew ?_ | refine blk_alloc ?_ _)); exact BK299.out⟩, ⟨bel_⟩⟩
                      ·rw [if_neg c29] at H
                       have c29b0 : decide (((rd_T33 t292 x38_4).f2) ≤ x31_3) = false := decide_eq_false c29
                       clear c29
                       have H' := Aside0.mk H
                       clear H
                       have hcz31_0 : w25.cell? ⟨gb299, 0, none⟩ = some (.string (⟨#[]⟩ : ByteArray)) := (blk_cell BK299.out 0).trans rfl
                       have hcz31_1 : w25.cell? ⟨gb299, 1, none⟩ = some (.int .i64 0) := (blk_cell BK299.out 1).trans rfl
                       have hcz31_2 : w25.cell? ⟨gb299, 2, none⟩ = some (.int .i64 0) := (blk_cell BK299.out 2).trans rfl
                       have hcz31_3 : w25.cell? ⟨gb299, 3, none⟩ = some (.int .i64 0) := (blk_cell BK299.out 3).trans rfl
                       have hcz31_4 : w25.cell? ⟨gb299, 4, none⟩ = some (.int .i64 0) := (blk_cell BK299.out 4).trans rfl
                       have hfz31_0 := blk_frozen BK299.out 0
                       have hfz31_1 := blk_frozen BK299.out 1
                       have hfz31_2 := blk_frozen BK299.out 2
                       have hfz31_3 := blk_frozen BK299.out 3
                       have hfz31_4 := blk_frozen BK299.out 4
                       go_wp2
                       go_meet
                       case rel => exact ⟨_, (false), rfs_, H', ⟨by have := HJ1.out; have := HK2.out; have := HK3.out; have := HK4.out; first | omega | exact Nat.le_refl _⟩, ⟨by (with_reducible repeat (first | apply Kd.R_alloc | apply Kd.R_drewN | apply Kd.R_drew)); exact Kd.R_mono (Kd.R_far (p := ⟨gb299, 4, none⟩) (Kd.R_far (p := ⟨gb299, 3, none⟩) (Kd.R_far (p := ⟨gb299, 2, none⟩) (Kd.R_far (p := ⟨gb299, 1, none⟩) (Kd.R_far (p := ⟨gb299, 0, none⟩) (Kd.R_mono HO_3.out (fun k_ hk => (⟨hk, hk.2⟩ : _ ∧ k_ ≠ gb299))) (fun _ hk => hk.2) (.string ((rd_T33 t292 x38_4).f0))) (fun _ hk => hk.2) (.int .i64 ((rd_T33 t292 x38_4).f1))) (fun _ hk => hk.2) (.int .i64 ((rd_T33 t292 x38_4).f2))) (fun _ hk => hk.2) (.int .i64 ((rd_T33 t292 x38_4).f3))) (fun _ hk => hk.2) (.int .i64 ((rd_T33 t292 x38_4).f4))) (fun _ hk => hk.1.2)⟩, ⟨by (with_reducible repeat (first | apply Kd.R_alloc | apply Kd.R_drewN | apply Kd.R_drew)); exact Kd.R_mono (Kd.R_far (p := ⟨gb299, 4, none⟩) (Kd.R_far (p := ⟨gb299, 3, none⟩) (Kd.R_far (p := ⟨gb299, 2, none⟩) (Kd.R_far (p := ⟨gb299, 1, none⟩) (Kd.R_far (p := ⟨gb299, 0, none⟩) (Kd.R_mono HO_36.out (fun k_ hk => (⟨hk, hk.2⟩ : _ ∧ k_ ≠ gb299))) (fun _ hk => hk.2) (.string ((rd_T33 t292 x38_4).f0))) (fun _ hk => hk.2) (.int .i64 ((rd_T33 t292 x38_4).f1))) (fun _ hk => hk.2) (.int .i64 ((rd_T33 t292 x38_4).f2))) (fun _ hk => hk.2) (.int .i64 ((rd_T33 t292 x38_4).f3))) (fun _ hk => hk.2) (.int .i64 ((rd_T33 t292 x38_4).f4))) (fun _ hk => hk.1.2)⟩, ⟨by (with_reducible repeat (first | refine blk_drewN ?_ _ | refine blk_drew ?_ | refine blk_alloc ?_ _)); refine blk_put (cs := #[.string ((rd_T33 t292 x38_4).f0), .int .i64 ((rd_T33 t292 x38_4).f1), .int .i64 ((rd_T33 t292 x38_4).f2), .int .i64 ((rd_T33 t292 x38_4).f3), .int .i64 0]) ?_ 4 _ rfl; (with_reducible repeat (first | refine blk_drewN ?_ _ | refine blk_drew ?_ | refine blk_alloc ?_ _)); refine blk_put (cs := #[.string ((rd_T33 t292 x38_4).f0), .int .i64 ((rd_T33 t292 x38_4).f1), .int .i64 ((rd_T33 t292 x38_4).f2), .int .i64 0, .int .i64 0]) ?_ 3 _ rfl; (with_reducible repeat (first | refine blk_drewN ?_ _ | refine blk_drew ?_ | refine blk_alloc ?_ _)); refine blk_put (cs := #[.string ((rd_T33 t292 x38_4).f0), .int .i64 ((rd_T33 t292 x38_4).f1), .int .i64 0, .int .i64 0, .int .i64 0]) ?_ 2 _ rfl; (with_reducible repeat (first | refine blk_drewN ?_ _ | refine blk_drew ?_ | refine blk_alloc ?_ _)); refine blk_put (cs := #[.string ((rd_T33 t292 x38_4).f0), .int .i64 0, .int .i64 0, .int .i64 0, .int .i64 0]) ?_ 1 _ rfl; (with_reducible repeat (first | refine blk_drewN ?_ _ | refine blk_drew ?_ | refine blk_alloc ?_ _)); refine blk_put (cs := #[.string (⟨#[]⟩ : ByteArray), .int .i64 0, .int .i64 0, .int .i64 0, .int .i64 0]) ?_ 0 _ rfl; (with_reducible repeat (first | refine blk_drewN ?_ _ | refine blk_drew ?_ | refine blk_alloc ?_ _)); exact BK299.out⟩, ⟨bel_⟩⟩
                     ·rw [if_neg c28] at H
                      have c28b0 : decide (x23_2 < (wrap64 (((rd_T33 t292 x38_4).f1) + ((rd_T33 t292 x38_4).f3)))) = false := decide_eq_false c28
                      clear c28
                      have H' := Aside0.mk H
                      clear H
                      have hcz32_0 : w25.cell? ⟨gb299, 0, none⟩ = some (.string (⟨#[]⟩ : ByteArray)) := (blk_cell BK299.out 0).trans rfl
                      have hcz32_1 : w25.cell? ⟨gb299, 1, none⟩ = some (.int .i64 0) := (blk_cell BK299.out 1).trans rfl
                      have hcz32_2 : w25.cell? ⟨gb299, 2, none⟩ = some (.int .i64 0) := (blk_cell BK299.out 2).trans rfl
                      have hcz32_3 : w25.cell? ⟨gb299, 3, none⟩ = some (.int .i64 0) := (blk_cell BK299.out 3).trans rfl
                      have hcz32_4 : w25.cell? ⟨gb299, 4, none⟩ = some (.int .i64 0) := (blk_cell BK299.out 4).trans rfl
                      have hfz32_0 := blk_frozen BK299.out 0
                      have hfz32_1 := blk_frozen BK299.out 1
                      have hfz32_2 := blk_frozen BK299.out 2
                      have hfz32_3 := blk_frozen BK299.out 3
                      have hfz32_4 := blk_frozen BK299.out 4
                      go_wp2
                      go_meet
                      case rel => exact ⟨_, (false), rfs_, H', ⟨by have := HJ1.out; have := HK2.out; have := HK3.out; have := HK4.out; first | omega | exact Nat.le_refl _⟩, ⟨by (with_reducible repeat (first | apply Kd.R_alloc | apply Kd.R_drewN | apply Kd.R_drew)); exact Kd.R_mono (Kd.R_far (p := ⟨gb299, 4, none⟩) (Kd.R_far (p := ⟨gb299, 3, none⟩) (Kd.R_far (p := ⟨gb299, 2, none⟩) (Kd.R_far (p := ⟨gb299, 1, none⟩) (Kd.R_far (p := ⟨gb299, 0, none⟩) (Kd.R_mono HO_3.out (fun k_ hk => (⟨hk, hk.2⟩ : _ ∧ k_ ≠ gb299))) (fun _ hk => hk.2) (.string ((rd_T33 t292 x38_4).f0))) (fun _ hk => hk.2) (.int .i64 ((rd_T33 t292 x38_4).f1))) (fun _ hk => hk.2) (.int .i64 ((rd_T33 t292 x38_4).f2))) (fun _ hk => hk.2) (.int .i64 ((rd_T33 t292 x38_4).f3))) (fun _ hk => hk.2) (.int .i64 ((rd_T33 t292 x38_4).f4))) (fun _ hk => hk.1.2)⟩, ⟨by (with_reducible repeat (first | apply Kd.R_alloc | apply Kd.R_drewN | apply Kd.R_drew)); exact Kd.R_mono (Kd.R_far (p := ⟨gb299, 4, none⟩) (Kd.R_far (p := ⟨gb299, 3, none⟩) (Kd.R_far (p := ⟨gb299, 2, none⟩) (Kd.R_far (p := ⟨gb299, 1, none⟩) (Kd.R_far (p := ⟨gb299, 0, none⟩) (Kd.R_mono HO_36.out (fun k_ hk => (⟨hk, hk.2⟩ : _ ∧ k_ ≠ gb299))) (fun _ hk => hk.2) (.string ((rd_T33 t292 x38_4).f0))) (fun _ hk => hk.2) (.int .i64 ((rd_T33 t292 x38_4).f1))) (fun _ hk => hk.2) (.int .i64 ((rd_T33 t292 x38_4).f2))) (fun _ hk => hk.2) (.int .i64 ((rd_T33 t292 x38_4).f3))) (fun _ hk => hk.2) (.int .i64 ((rd_T33 t292 x38_4).f4))) (fun _ hk => hk.1.2)⟩, ⟨by (with_reducible repeat (first | refine blk_drewN ?_ _ | refine blk_drew ?_ | refine blk_alloc ?_ _)); refine blk_put (cs := #[.string ((rd_T33 t292 x38_4).f0), .int .i64 ((rd_T33 t292 x38_4).f1), .int .i64 ((rd_T33 t292 x38_4).f2), .int .i64 ((rd_T33 t292 x38_4).f3), .int .i64 0]) ?_ 4 _ rfl; (with_reducible repeat (first | refine blk_drewN ?_ _ | refine blk_drew ?_ | refine blk_alloc ?_ _)); refine blk_put (cs := #[.string ((rd_T33 t292 x38_4).f0), .int .i64 ((rd_T33 t292 x38_4).f1), .int .i64 ((rd_T33 t292 x38_4).f2), .int .i64 0, .int .i64 0]) ?_ 3 _ rfl; (with_reducible repeat (first | refine blk_drewN ?_ _ | refine blk_drew ?_ | refine blk_alloc ?_ _)); refine blk_put (cs := #[.string ((rd_T33 t292 x38_4).f0), .int .i64 ((rd_T33 t292 x38_4).f1), .int .i64 0, .int .i64 0, .int .i64 0]) ?_ 2 _ rfl; (with_reducible repeat (first | refine blk_drewN ?_ _ | refine blk_drew ?_ | refine blk_alloc ?_ _)); refine blk_put (cs := #[.string ((rd_T33 t292 x38_4).f0), .int .i64 0, .int .i64 0, .int .i64 0, .int .i64 0]) ?_ 1 _ rfl; (with_reducible repeat (first | refine blk_drewN ?_ _ | refine blk_drew ?_ | refine blk_alloc ?_ _)); refine blk_put (cs := #[.string (⟨#[]⟩ : ByteArray), .int .i64 0, .int .i64 0, .int .i64 0, .int .i64 0]) ?_ 0 _ rfl; (with_reducible repeat (first | refine blk_drewN ?_ _ | refine blk_drew ?_ | refine blk_alloc ?_ _)); exact BK299.out⟩, ⟨bel_⟩⟩
                    ·rw [if_neg c27] at H
                     have c27b0 : decide (((rd_T33 t292 x38_4).f1) ≤ x23_2) = false := decide_eq_false c27
                     clear c27
                     (first | rw [c27b0] | (simp only [i64_w, i32_w]; rw [c27b0]) | skip)
                     have H' := Aside0.mk H
                     clear H
                     have hcz33_0 : w25.cell? ⟨gb299, 0, none⟩ = some (.string (⟨#[]⟩ : ByteArray)) := (blk_cell BK299.out 0).trans rfl
                     have hcz33_1 : w25.cell? ⟨gb299, 1, none⟩ = some (.int .i64 0) := (blk_cell BK299.out 1).trans rfl
                     have hcz33_2 : w25.cell? ⟨gb299, 2, none⟩ = some (.int .i64 0) := (blk_cell BK299.out 2).trans rfl
                     have hcz33_3 : w25.cell? ⟨gb299, 3, none⟩ = some (.int .i64 0) := (blk_cell BK299.out 3).trans rfl
                     have hcz33_4 : w25.cell? ⟨gb299, 4, none⟩ = some (.int .i64 0) := (blk_cell BK299.out 4).trans rfl
                     have hfz33_0 := blk_frozen BK299.out 0
                     have hfz33_1 := blk_frozen BK299.out 1
                     have hfz33_2 := blk_frozen BK299.out 2
                     have hfz33_3 := blk_frozen BK299.out 3
                     have hfz33_4 := blk_frozen BK299.out 4
                     go_wp2
                     go_meet
                     case rel => exact ⟨_, (false), rfs_, H', ⟨by have := HJ1.out; have := HK2.out; have := HK3.out; have := HK4.out; first | omega | exact Nat.le_refl _⟩, ⟨by (with_reducible repeat (first | apply Kd.R_alloc | apply Kd.R_drewN | apply Kd.R_drew)); exact Kd.R_mono (Kd.R_far (p := ⟨gb299, 4, none⟩) (Kd.R_far (p := ⟨gb299, 3, none⟩) (Kd.R_far (p := ⟨gb299, 2, none⟩) (Kd.R_far (p := ⟨gb299, 1, none⟩) (Kd.R_far (p := ⟨gb299, 0, none⟩) (Kd.R_mono HO_3.out (fun k_ hk => (⟨hk, hk.2⟩ : _ ∧ k_ ≠ gb299))) (fun _ hk => hk.2) (.string ((rd_T33 t292 x38_4).f0))) (fun _ hk => hk.2) (.int .i64 ((rd_T33 t292 x38_4).f1))) (fun _ hk => hk.2) (.int .i64 ((rd_T33 t292 x38_4).f2))) (fun _ hk => hk.2) (.int .i64 ((rd_T33 t292 x38_4).f3))) (fun _ hk => hk.2) (.int .i64 ((rd_T33 t292 x38_4).f4))) (fun _ hk => hk.1.2)⟩, ⟨by (with_reducible repeat (first | apply Kd.R_alloc | apply Kd.R_drewN | apply Kd.R_drew)); exact Kd.R_mono (Kd.R_far (p := ⟨gb299, 4, none⟩) (Kd.R_far (p := ⟨gb299, 3, none⟩) (Kd.R_far (p := ⟨gb299, 2, none⟩) (Kd.R_far (p := ⟨gb299, 1, none⟩) (Kd.R_far (p := ⟨gb299, 0, none⟩) (Kd.R_mono HO_36.out (fun k_ hk => (⟨hk, hk.2⟩ : _ ∧ k_ ≠ gb299))) (fun _ hk => hk.2) (.string ((rd_T33 t292 x38_4).f0))) (fun _ hk => hk.2) (.int .i64 ((rd_T33 t292 x38_4).f1))) (fun _ hk => hk.2) (.int .i64 ((rd_T33 t292 x38_4).f2))) (fun _ hk => hk.2) (.int .i64 ((rd_T33 t292 x38_4).f3))) (fun _ hk => hk.2) (.int .i64 ((rd_T33 t292 x38_4).f4))) (fun _ hk => hk.1.2)⟩, ⟨by (with_reducible repeat (first | refine blk_drewN ?_ _ | refine blk_drew ?_ | refine blk_alloc ?_ _)); refine blk_put (cs := #[.string ((rd_T33 t292 x38_4).f0), .int .i64 ((rd_T33 t292 x38_4).f1), .int .i64 ((rd_T33 t292 x38_4).f2), .int .i64 ((rd_T33 t292 x38_4).f3), .int .i64 0]) ?_ 4 _ rfl; (with_reducible repeat (first | refine blk_drewN ?_ _ | refine blk_drew ?_ | refine blk_alloc ?_ _)); refine blk_put (cs := #[.string ((rd_T33 t292 x38_4).f0), .int .i64 ((rd_T33 t292 x38_4).f1), .int .i64 ((rd_T33 t292 x38_4).f2), .int .i64 0, .int .i64 0]) ?_ 3 _ rfl; (with_reducible repeat (first | refine blk_drewN ?_ _ | refine blk_drew ?_ | refine blk_alloc ?_ _)); refine blk_put (cs := #[.string ((rd_T33 t292 x38_4).f0), .int .i64 ((rd_T33 t292 x38_4).f1), .int .i64 0, .int .i64 0, .int .i64 0]) ?_ 2 _ rfl; (with_reducible repeat (first | refine blk_drewN ?_ _ | refine blk_drew ?_ | refine blk_alloc ?_ _)); refine blk_put (cs := #[.string ((rd_T33 t292 x38_4).f0), .int .i64 0, .int .i64 0, .int .i64 0, .int .i64 0]) ?_ 1 _ rfl; (with_reducible repeat (first | refine blk_drewN ?_ _ | refine blk_drew ?_ | refine blk_alloc ?_ _)); refine blk_put (cs := #[.string (⟨#[]⟩ : ByteArray), .int .i64 0, .int .i64 0, .int .i64 0, .int .i64 0]) ?_ 0 _ rfl; (with_reducible repeat (first | refine blk_drewN ?_ _ | refine blk_drew ?_ | refine blk_alloc ?_ _)); exact BK299.out⟩, ⟨bel_⟩⟩
                   case rest =>
                    clear HC24
                    try clear c1
                    try clear c2
                    try clear p2
                    try clear q2
                    try clear hx2
                    try clear c4
                    try clear p6
                    try clear c8
                    try clear c9
                    try clear c12
                    try clear c14
                    try clear c14b0
                    try clear c15
                    try clear c15b0
                    try clear c16
                    try clear c16b0
                    try clear c17
                    try clear c17b0
                    try clear c18
                    try clear c18b0
                    try clear c19
                    try clear c19b0
                    try clear c21
                    try clear c21b0
                    try clear c22
                    try clear c22b0
                    try clear c23
                    try clear c23b0
                    try clear c27
                    try clear c27b0
                    try clear c28
                    try clear c28b0
                    try clear c29
                    try clear c29b0
                    try clear p29
                    try clear q29
                    try clear hx29
                    try clear hcz26_0
                    try clear hcz26_1
                    try clear hcz26_2
                    try clear hcz26_3
                    try clear hcz26_4
                    try clear hcz30_0
                    try clear hcz30_1
                    try clear hcz30_2
                    try clear hcz30_3
                    try clear hcz30_4
                    try clear hcz31_0
                    try clear hcz31_1
                    try clear hcz31_2
                    try clear hcz31_3
                    try clear hcz31_4
                    try clear hcz32_0
                    try clear hcz32_1
                    try clear hcz32_2
                    try clear hcz32_3
                    try clear hcz32_4
                    try clear hcz33_0
                    try clear hcz33_1
                    try clear hcz33_2
                    try clear hcz33_3
                    try clear hcz33_4
                    try clear hfz26_0
                    try clear hfz26_1
                    try clear hfz26_2
                    try clear hfz26_3
                    try clear hfz26_4
                    try clear hfz30_0
                    try clear hfz30_1
                    try clear hfz30_2
                    try clear hfz30_3
                    try clear hfz30_4
                    try clear hfz31_0
                    try clear hfz31_1
                    try clear hfz31_2
                    try clear hfz31_3
                    try clear hfz31_4
                    try clear hfz32_0
                    try clear hfz32_1
                    try clear hfz32_2
                    try clear hfz32_3
                    try clear hfz32_4
                    try clear hfz33_0
                    try clear hfz33_1
                    try clear hfz33_2
                    try clear hfz33_3
                    try clear hfz33_4
                    try clear hx296_0
                    try clear hx297_0
                    try clear hx298_0
                    try clear hx298_1
                    try clear hx298_2
                    try clear hx298_3
                    try clear hx298_4
                    try clear p2
                    try clear p296
                    try clear p297
                    try clear p298
                    try clear q2
                    try clear q296
                    try clear q297
                    try clear q298
                    obtain ⟨kq, x69_23, rfl, HA, HJ23, HO_3, HO_36, BK299, HB⟩ := hcut
                    cases kq with
                    | zero => exact absurd HA.out (by simp [parterrelaw08_AreaApart.j4])
                    | succ kj23 =>
                     have H := HA.out
                     clear HA
                     simp only [parterrelaw08_AreaApart.j4] at H
                     by_cases c34 : x69_23 = true
                     ·subst c34
                      rw [if_pos rfl] at H
                      by_cases c35 : ((rd_T33 t292 x38_4).f0).toList = (rdOf ByteArray.empty (rd_L1 l0 x23_2) x31_3).toList
                      ·rw [if_pos c35] at H
                       have c35b0 : (((rd_T33 t292 x38_4).f0).toList == (rdOf ByteArray.empty (rd_L1 l0 x23_2) x31_3).toList) = true := beq_iff_eq.mpr c35
                       have c35b1 : (((rd_T33 t292 x38_4).f0).toList != (rdOf ByteArray.empty (rd_L1 l0 x23_2) x31_3).toList) = false := bne_eq_false_iff_eq.mpr c35
                       clear c35
                       have H' := Aside0.mk H
                       clear H
                       have hcz36_0 : wc.cell? ⟨gb299, 0, none⟩ = some (.string ((rd_T33 t292 x38_4).f0)) := (blk_cell BK299.out 0).trans rfl
                       have hcz36_1 : wc.cell? ⟨gb299, 1, none⟩ = some (.int .i64 ((rd_T33 t292 x38_4).f1)) := (blk_cell BK299.out 1).trans rfl
                       have hcz36_2 : wc.cell? ⟨gb299, 2, none⟩ = some (.int .i64 ((rd_T33 t292 x38_4).f2)) := (blk_cell BK299.out 2).trans rfl
                       have hcz36_3 : wc.cell? ⟨gb299, 3, none⟩ = some (.int .i64 ((rd_T33 t292 x38_4).f3)) := (blk_cell BK299.out 3).trans rfl
                       have hcz36_4 : wc.cell? ⟨gb299, 4, none⟩ = some (.int .i64 ((rd_T33 t292 x38_4).f4)) := (blk_cell BK299.out 4).trans rfl
                       have hfz36_0 := blk_frozen BK299.out 0
                       have hfz36_1 := blk_frozen BK299.out 1
                       have hfz36_2 := blk_frozen BK299.out 2
                       have hfz36_3 := blk_frozen BK299.out 3
                       have hfz36_4 := blk_frozen BK299.out 4
                       go_wp2
                       go_roundg kj23
                       case measure => have := HJ1.out; have := HK2.out; have := HK3.out; have := HK4.out; have := HJ23.out; omega
                       case rel => exact ⟨(wrap64 (x7_4 + 1)), (wrap64 (x38_4 + 1)), rfs_, rfs_, H', ⟨by have := HJ1.out; have := HK2.out; have := HK3.out; have := HK4.out; have := HJ23.out; omega⟩, ⟨by (with_reducible repeat (first | apply Kd.R_alloc | apply Kd.R_drewN | apply Kd.R_drew)); exact Kd.R_mono HO_3.out (fun _ hk => trivial)⟩, ⟨by (with_reducible repeat (first | apply Kd.R_alloc | apply Kd.R_drewN | apply Kd.R_drew)); exact Kd.R_mono HO_36.out (fun _ hk => trivial)⟩, ⟨bel_⟩⟩
                      ·rw [if_neg c35] at H
                       exact absurd H (by simp)
                     ·replace c34 := Bool.eq_false_iff.mpr c34
                      subst c34
                      rw [if_neg (show ¬ (false = true) by decide)] at H
                      have H' := Aside0.mk H
                      clear H
                      go_wp2
                      go_roundg kj23
                      case measure => have := HJ1.out; have := HK2.out; have := HK3.out; have := HK4.out; have := HJ23.out; omega
                      case rel => exact ⟨(x7_4), (wrap64 (x38_4 + 1)), rfs_, rfs_, H', ⟨by have := HJ1.out; have := HK2.out; have := HK3.out; have := HK4.out; have := HJ23.out; omega⟩, ⟨by (with_reducible repeat (first | apply Kd.R_alloc | apply Kd.R_drewN | apply Kd.R_drew)); exact Kd.R_mono HO_3.out (fun _ hk => trivial)⟩, ⟨by (with_reducible repeat (first | apply Kd.R_alloc | apply Kd.R_drewN | apply Kd.R_drew)); exact Kd.R_mono HO_36.out (fun _ hk => trivial)⟩, ⟨bel_⟩⟩
                  ·rw [if_neg c23] at H
                   exact absurd H (by simp)
                 ·rw [if_neg c22] at H
                  exact absurd H (by simp)
                ·rw [if_neg c21] at H
                 have c21b0 : decide (x38_4 < (t292.length : Int)) = false := decide_eq_false c21
                 clear c21
                 obtain ⟨ji37, hji37⟩ : ∃ j_ : Int, (mn 1 ((rdOf ByteArray.empty (rd_L1 l0 x23_2) x31_3).size : Int)) = j_ := ⟨_, rfl⟩
                 replace H : (if x7_4 = (ji37) then (parterrelaw08_AreaApart.l1 k4 l0 t292 x23_2 (l0.length : Int) x23_2 (rd_L1 l0 x23_2) ((rd_L1 l0 x23_2).length : Int) (wrap64 (x31_3 + 1))) else (none)) = some r := by first | (rw [hji37] at H; exact H) | (simp only [hji37] at H ⊢; exact H)
                 have hji37_ : (if ((rdOf ByteArray.empty (rd_L1 l0 x23_2) x31_3).size : Int) < 1 then ((rdOf ByteArray.empty (rd_L1 l0 x23_2) x31_3).size : Int) else 1) = ji37 := hji37
                 by_cases c38 : x7_4 = (ji37)
                 ·rw [if_pos c38] at H
                  have c38b0 : (x7_4 == (ji37)) = true := beq_iff_eq.mpr c38
                  have c38b1 : (x7_4 != (ji37)) = false := bne_eq_false_iff_eq.mpr c38
                  clear c38
                  have H' := Aside0.mk H
                  clear H
                  go_wp2
                  go_roundg k4
                  case measure => have := HJ1.out; have := HK2.out; have := HK3.out; have := HK4.out; omega
                  case rel => exact ⟨(wrap64 (x31_3 + 1)), rfs_, H', ⟨by have := HJ1.out; have := HK2.out; have := HK3.out; have := HK4.out; omega⟩, ⟨by (with_reducible repeat (first | apply Kd.R_alloc | apply Kd.R_drewN | apply Kd.R_drew)); exact HO_3.out⟩, ⟨bel_⟩⟩
                 ·rw [if_neg c38] at H
                  exact absurd H (by simp)
             ·rw [if_neg c19] at H
              exact absurd H (by simp)
            ·rw [if_neg c18] at H
             exact absurd H (by simp)
           ·rw [if_neg c17] at H
            have c17b0 : decide (x31_3 < ((rd_L1 l0 x23_2).length : Int)) = false := decide_eq_false c17
            clear c17
            have H' := Aside0.mk H
            clear H
            go_wp2
            go_roundg k3
            case measure => have := HJ1.out; have := HK2.out; have := HK3.out; omega
            case rel => exact ⟨(wrap64 (x23_2 + 1)), rfs_, H', ⟨by have := HJ1.out; have := HK2.out; have := HK3.out; omega⟩, ⟨by (with_reducible repeat (first | apply Kd.R_alloc | apply Kd.R_drewN | apply Kd.R_drew)); exact HO_3.out⟩, ⟨bel_⟩⟩
        ·rw [if_neg c16] at H
         exact absurd H (by simp)
       ·rw [if_neg c15] at H
        exact absurd H (by simp)
      ·rw [if_neg c14] at H
       have c14b0 : decide (x23_2 < (l0.length : Int)) = false := decide_eq_false c14
       clear c14
       replace H := Option.bind_eq_some_iff.mp H
       obtain ⟨t295, A390, H⟩ := H
       try dsimp only at H
       have A39 := Aside0.mk A390
       clear A390
       obtain rfl := Option.some.inj H
       go_wp2_with (first | ((with_reducible refine gate_callee (f := 8) rfl ?_); refine goesL_ (some 84) rfl rfl Tryd.func8 (by kernel_rfl) rfl #[] rfl goa_ ?_; (with_reducible refine (parterrelaw08_lives.calls k2  t295 _ A39.out).mono ?_); rintro e w40 ⟨rfl, hb⟩; refine ⟨_, rfl, ?_⟩; have n0_ := Aside0.mk (Kd.R_below (by (with_reducible repeat (first | apply Kd.R_alloc | apply Kd.R_drewN | apply Kd.R_drew)); exact HO_3.out) hb); have n1_ := Aside0.mk (below_step bel_ hb); clear HO_3; clear HB; have HO_3 := n0_; have HB := n1_; clear n0_ n1_; clear hb))
       go_ret
       exact ⟨rsl_, bel_⟩

/-- THE ONE PURE STATEMENT of parterrelaw08_AreaApart. -/
def parterrelaw08_AreaApart.Pure : Prop := ∀ (l0 : List (List ByteArray)), gSl 24 (gSl 16 gStr) l0 → ∃ k, parterrelaw08_AreaApart.f k l0 = some true

/-! ### ident_control: function 60 -/
def ident_control.f (a0 : Int) : Option (Bool) := if a0 < 32 then (some true) else (some (a0 == 127))
set_option maxHeartbeats 8000000 in
set_option maxRecDepth 100000 in
theorem ident_control.calls (a0 : Int) (r : Bool) (w : World) (h : ident_control.f a0 = some r) :
  Calls Tryd.prog 60 #[.int .u8 a0] w fun e w' => e = .returned (.bool r) ∧ Drawn0 w w' := by
 have H : (if a0 < 32 then (some true) else (some (a0 == 127))) = some r := h
 clear h
 by_cases c2 : a0 < 32
 ·rw [if_pos c2] at H
  have c2b0 : decide (a0 < 32) = true := decide_eq_true c2
  clear c2
  obtain rfl := Option.some.inj H
  go_enter Tryd.func60, Tryd.ntmps60
  go_wp2
  go_ret
  exact ⟨by first | rfl | (simp; done) | (simp [*]; done), drs_⟩
 ·rw [if_neg c2] at H
  have c2b0 : decide (a0 < 32) = false := decide_eq_false c2
  clear c2
  obtain rfl := Option.some.inj H
  go_enter Tryd.func60, Tryd.ntmps60
  go_wp2
  go_ret
  exact ⟨by first | rfl | (simp; done) | (simp [*]; done), drs_⟩

/-! ### ident_escaped: function 61 -/
def ident_escaped.f (a0 : Int) : Option (ByteArray) := if (a0 / 16) > 0 then (if 0 ≤ (a0 / 16) then (if (a0 / 16) ≤ (((a0 / 16) + 1) % 256) then (if (((a0 / 16) + 1) % 256) ≤ 16 then (if 1 + ((⟨#[48, 49, 50, 51, 52, 53, 54, 55, 56, 57, 97, 98, 99, 100, 101, 102]⟩ : ByteArray).extract ((a0 / 16) : Int).toNat ((((a0 / 16) + 1) % 256) : Int).toNat).size ≤ 9223372036854775807 then (if 0 ≤ (Go.bits .and .u8 a0 15) then (if (Go.bits .and .u8 a0 15) ≤ (((Go.bits .and .u8 a0 15) + 1) % 256) then (if (((Go.bits .and .u8 a0 15) + 1) % 256) ≤ 16 then (if ((⟨#[92]⟩ : ByteArray) ++ ((⟨#[48, 49, 50, 51, 52, 53, 54, 55, 56, 57, 97, 98, 99, 100, 101, 102]⟩ : ByteArray).extract ((a0 / 16) : Int).toNat ((((a0 / 16) + 1) % 256) : Int).toNat)).size + ((⟨#[48, 49, 50, 51, 52, 53, 54, 55, 56, 57, 97, 98, 99, 100, 101, 102]⟩ : ByteArray).extract ((Go.bits .and .u8 a0 15) : Int).toNat ((((Go.bits .and .u8 a0 15) + 1) % 256) : Int).toNat).size ≤ 9223372036854775807 then (if (((⟨#[92]⟩ : ByteArray) ++ ((⟨#[48, 49, 50, 51, 52, 53, 54, 55, 56, 57, 97, 98, 99, 100, 101, 102]⟩ : ByteArray).extract ((a0 / 16) : Int).toNat ((((a0 / 16) + 1) % 256) : Int).toNat)) ++ ((⟨#[48, 49, 50, 51, 52, 53, 54, 55, 56, 57, 97, 98, 99, 100, 101, 102]⟩ : ByteArray).extract ((Go.bits .and .u8 a0 15) : Int).toNat ((((Go.bits .and .u8 a0 15) + 1) % 256) : Int).toNat)).size + 1 ≤ 9223372036854775807 then (some ((((⟨#[92]⟩ : ByteArray) ++ ((⟨#[48, 49, 50, 51, 52, 53, 54, 55, 56, 57, 97, 98, 99, 100, 101, 102]⟩ : ByteArray).extract ((a0 / 16) : Int).toNat ((((a0 / 16) + 1) % 256) : Int).toNat)) ++ ((⟨#[48, 49, 50, 51, 52, 53, 54, 55, 56, 57, 97, 98, 99, 100, 101, 102]⟩ : ByteArray).extract ((Go.bits .and .u8 a0 15) : Int).toNat ((((Go.bits .and .u8 a0 15) + 1) % 256) : Int).toNat)) ++ (⟨#[32]⟩ : ByteArray))) else (none)) else (none)) else (none)) else (none)) else (none)) else (none)) else (none)) else (none)) else (none)) else (if 0 ≤ (Go.bits .and .u8 a0 15) then (if (Go.bits .and .u8 a0 15) ≤ (((Go.bits .and .u8 a0 15) + 1) % 256) then (if (((Go.bits .and .u8 a0 15) + 1) % 256) ≤ 16 then (if 1 + ((⟨#[48, 49, 50, 51, 52, 53, 54, 55, 56, 57, 97, 98, 99, 100, 101, 102]⟩ : ByteArray).extract ((Go.bits .and .u8 a0 15) : Int).toNat ((((Go.bits .and .u8 a0 15) + 1) % 256) : Int).toNat).size ≤ 9223372036854775807 then (if ((⟨#[92]⟩ : ByteArray) ++ ((⟨#[48, 49, 50, 51, 52, 53, 54, 55, 56, 57, 97, 98, 99, 100, 101, 102]⟩ : ByteArray).extract ((Go.bits .and .u8 a0 15) : Int).toNat ((((Go.bits .and .u8 a0 15) + 1) % 256) : Int).toNat)).size + 1 ≤ 9223372036854775807 then (some (((⟨#[92]⟩ : ByteArray) ++ ((⟨#[48, 49, 50, 51, 52, 53, 54, 55, 56, 57, 97, 98, 99, 100, 101, 102]⟩ : ByteArray).extract ((Go.bits .and .u8 a0 15) : Int).toNat ((((Go.bits .and .u8 a0 15) + 1) % 256) : Int).toNat)) ++ (⟨#[32]⟩ : ByteArray))) else (none)) else (none)) else (none)) else (none)) else (none))
set_option maxHeartbeats 8000000 in
set_option maxRecDepth 100000 in
theorem ident_escaped.calls (a0 : Int) (r : ByteArray) (w : World) (h : ident_escaped.f a0 = some r) :
  Calls Tryd.prog 61 #[.int .u8 a0] w fun e w' => e = .returned (.string r) ∧ Drawn0 w w' := by
 have H : (if (a0 / 16) > 0 then (if 0 ≤ (a0 / 16) then (if (a0 / 16) ≤ (((a0 / 16) + 1) % 256) then (if (((a0 / 16) + 1) % 256) ≤ 16 then (if 1 + ((⟨#[48, 49, 50, 51, 52, 53, 54, 55, 56, 57, 97, 98, 99, 100, 101, 102]⟩ : ByteArray).extract ((a0 / 16) : Int).toNat ((((a0 / 16) + 1) % 256) : Int).toNat).size ≤ 9223372036854775807 then (if 0 ≤ (Go.bits .and .u8 a0 15) then (if (Go.bits .and .u8 a0 15) ≤ (((Go.bits .and .u8 a0 15) + 1) % 256) then (if (((Go.bits .and .u8 a0 15) + 1) % 256) ≤ 16 then (if ((⟨#[92]⟩ : ByteArray) ++ ((⟨#[48, 49, 50, 51, 52, 53, 54, 55, 56, 57, 97, 98, 99, 100, 101, 102]⟩ : ByteArray).extract ((a0 / 16) : Int).toNat ((((a0 / 16) + 1) % 256) : Int).toNat)).size + ((⟨#[48, 49, 50, 51, 52, 53, 54, 55, 56, 57, 97, 98, 99, 100, 101, 102]⟩ : ByteArray).extract ((Go.bits .and .u8 a0 15) : Int).toNat ((((Go.bits .and .u8 a0 15) + 1) % 256) : Int).toNat).size ≤ 9223372036854775807 then (if (((⟨#[92]⟩ : ByteArray) ++ ((⟨#[48, 49, 50, 51, 52, 53, 54, 55, 56, 57, 97, 98, 99, 100, 101, 102]⟩ : ByteArray).extract ((a0 / 16) : Int).toNat ((((a0 / 16) + 1) % 256) : Int).toNat)) ++ ((⟨#[48, 49, 50, 51, 52, 53, 54, 55, 56, 57, 97, 98, 99, 100, 101, 102]⟩ : ByteArray).extract ((Go.bits .and .u8 a0 15) : Int).toNat ((((Go.bits .and .u8 a0 15) + 1) % 256) : Int).toNat)).size + 1 ≤ 9223372036854775807 then (some ((((⟨#[92]⟩ : ByteArray) ++ ((⟨#[48, 49, 50, 51, 52, 53, 54, 55, 56, 57, 97, 98, 99, 100, 101, 102]⟩ : ByteArray).extract ((a0 / 16) : Int).toNat ((((a0 / 16) + 1) % 256) : Int).toNat)) ++ ((⟨#[48, 49, 50, 51, 52, 53, 54, 55, 56, 57, 97, 98, 99, 100, 101, 102]⟩ : ByteArray).extract ((Go.bits .and .u8 a0 15) : Int).toNat ((((Go.bits .and .u8 a0 15) + 1) % 256) : Int).toNat)) ++ (⟨#[32]⟩ : ByteArray))) else (none)) else (none)) else (none)) else (none)) else (none)) else (none)) else (none)) else (none)) else (none)) else (if 0 ≤ (Go.bits .and .u8 a0 15) then (if (Go.bits .and .u8 a0 15) ≤ (((Go.bits .and .u8 a0 15) + 1) % 256) then (if (((Go.bits .and .u8 a0 15) + 1) % 256) ≤ 16 then (if 1 + ((⟨#[48, 49, 50, 51, 52, 53, 54, 55, 56, 57, 97, 98, 99, 100, 101, 102]⟩ : ByteArray).extract ((Go.bits .and .u8 a0 15) : Int).toNat ((((Go.bits .and .u8 a0 15) + 1) % 256) : Int).toNat).size ≤ 9223372036854775807 then (if ((⟨#[92]⟩ : ByteArray) ++ ((⟨#[48, 49, 50, 51, 52, 53, 54, 55, 56, 57, 97, 98, 99, 100, 101, 102]⟩ : ByteArray).extract ((Go.bits .and .u8 a0 15) : Int).toNat ((((Go.bits .and .u8 a0 15) + 1) % 256) : Int).toNat)).size + 1 ≤ 9223372036854775807 then (some (((⟨#[92]⟩ : ByteArray) ++ ((⟨#[48, 49, 50, 51, 52, 53, 54, 55, 56, 57, 97, 98, 99, 100, 101, 102]⟩ : ByteArray).extract ((Go.bits .and .u8 a0 15) : Int).toNat ((((Go.bits .and .u8 a0 15) + 1) % 256) : Int).toNat)) ++ (⟨#[32]⟩ : ByteArray))) else (none)) else (none)) else (none)) else (none)) else (none))) = some r := h
 clear h
 by_cases c2 : (a0 / 16) > 0
 ·rw [if_pos c2] at H
  have c2b0 : decide (0 < (a0 / 16)) = true := decide_eq_true c2
  clear c2
  obtain ⟨ji3, hji3⟩ : ∃ j_ : Int, (a0 / 16) = j_ := ⟨_, rfl⟩
  replace H : (if 0 ≤ (ji3) then (if (ji3) ≤ (((ji3) + 1) % 256) then (if (((ji3) + 1) % 256) ≤ 16 then (if 1 + ((⟨#[48, 49, 50, 51, 52, 53, 54, 55, 56, 57, 97, 98, 99, 100, 101, 102]⟩ : ByteArray).extract ((ji3) : Int).toNat ((((ji3) + 1) % 256) : Int).toNat).size ≤ 9223372036854775807 then (if 0 ≤ (Go.bits .and .u8 a0 15) then (if (Go.bits .and .u8 a0 15) ≤ (((Go.bits .and .u8 a0 15) + 1) % 256) then (if (((Go.bits .and .u8 a0 15) + 1) % 256) ≤ 16 then (if ((⟨#[92]⟩ : ByteArray) ++ ((⟨#[48, 49, 50, 51, 52, 53, 54, 55, 56, 57, 97, 98, 99, 100, 101, 102]⟩ : ByteArray).extract ((ji3) : Int).toNat ((((ji3) + 1) % 256) : Int).toNat)).size + ((⟨#[48, 49, 50, 51, 52, 53, 54, 55, 56, 57, 97, 98, 99, 100, 101, 102]⟩ : ByteArray).extract ((Go.bits .and .u8 a0 15) : Int).toNat ((((Go.bits .and .u8 a0 15) + 1) % 256) : Int).toNat).size ≤ 9223372036854775807 then (if (((⟨#[92]⟩ : ByteArray) ++ ((⟨#[48, 49, 50, 51, 52, 53, 54, 55, 56, 57, 97, 98, 99, 100, 101, 102]⟩ : ByteArray).extract ((ji3) : Int).toNat ((((ji3) + 1) % 256) : Int).toNat)) ++ ((⟨#[48, 49, 50, 51, 52, 53, 54, 55, 56, 57, 97, 98, 99, 100, 101, 102]⟩ : ByteArray).extract ((Go.bits .and .u8 a0 15) : Int).toNat ((((Go.bits .and .u8 a0 15) + 1) % 256) : Int).toNat)).size + 1 ≤ 9223372036854775807 then (some ((((⟨#[92]⟩ : ByteArray) ++ ((⟨#[48, 49, 50, 51, 52, 53, 54, 55, 56, 57, 97, 98, 99, 100, 101, 102]⟩ : ByteArray).extract ((ji3) : Int).toNat ((((ji3) + 1) % 256) : Int).toNat)) ++ ((⟨#[48, 49, 50, 51, 52, 53, 54, 55, 56, 57, 97, 98, 99, 100, 101, 102]⟩ : ByteArray).extract ((Go.bits .and .u8 a0 15) : Int).toNat ((((Go.bits .and .u8 a0 15) + 1) % 256) : Int).toNat)) ++ (⟨#[32]⟩ : ByteArray))) else (none)) else (none)) else (none)) else (none)) else (none)) else (none)) else (none)) else (none)) else (none)) = some r := by first | (rw [hji3] at H; exact H) | (simp only [hji3] at H ⊢; exact H)
  (try rw [hji3] at c2b0)
  by_cases c4 : 0 ≤ (ji3)
  ·rw [if_pos c4] at H
   have c4b0 := eq_true c4
   have c4b1 : decide (0 ≤ (ji3)) = true := decide_eq_true c4
   clear c4
   by_cases c5 : (ji3) ≤ (((ji3) + 1) % 256)
   ·rw [if_pos c5] at H
    have c5b0 := eq_true c5
    have c5b1 : decide ((ji3) ≤ (((ji3) + 1) % 256)) = true := decide_eq_true c5
    by_cases c6 : (((ji3) + 1) % 256) ≤ 16
    ·rw [if_pos c6] at H
     have c6b0 := eq_true c6
     have c6b1 : decide ((((ji3) + 1) % 256) ≤ 16) = true := decide_eq_true c6
     by_cases c7 : 1 + ((⟨#[48, 49, 50, 51, 52, 53, 54, 55, 56, 57, 97, 98, 99, 100, 101, 102]⟩ : ByteArray).extract ((ji3) : Int).toNat ((((ji3) + 1) % 256) : Int).toNat).size ≤ 9223372036854775807
     ·rw [if_pos c7] at H
      have c7b0 := eq_true c7
      have c7b1 : decide (1 + ((⟨#[48, 49, 50, 51, 52, 53, 54, 55, 56, 57, 97, 98, 99, 100, 101, 102]⟩ : ByteArray).extract ((ji3) : Int).toNat ((((ji3) + 1) % 256) : Int).toNat).size ≤ 9223372036854775807) = true := decide_eq_true c7
      try have c7b2 : (9223372036854775807 < 1 + ((⟨#[48, 49, 50, 51, 52, 53, 54, 55, 56, 57, 97, 98, 99, 100, 101, 102]⟩ : ByteArray).extract ((ji3) : Int).toNat ((((ji3) + 1) % 256) : Int).toNat).size) = False := eq_false (Nat.not_lt.2 c7)
      by_cases c8 : 0 ≤ (Go.bits .and .u8 a0 15)
      ·rw [if_pos c8] at H
       have c8b0 := eq_true c8
       have c8b1 : decide (0 ≤ (Go.bits .and .u8 a0 15)) = true := decide_eq_true c8
       clear c8
       by_cases c9 : (Go.bits .and .u8 a0 15) ≤ (((Go.bits .and .u8 a0 15) + 1) % 256)
       ·rw [if_pos c9] at H
        have c9b0 := eq_true c9
        have c9b1 : decide ((Go.bits .and .u8 a0 15) ≤ (((Go.bits .and .u8 a0 15) + 1) % 256)) = true := decide_eq_true c9
        by_cases c10 : (((Go.bits .and .u8 a0 15) + 1) % 256) ≤ 16
        ·rw [if_pos c10] at H
         have c10b0 := eq_true c10
         have c10b1 : decide ((((Go.bits .and .u8 a0 15) + 1) % 256) ≤ 16) = true := decide_eq_true c10
         by_cases c11 : ((⟨#[92]⟩ : ByteArray) ++ ((⟨#[48, 49, 50, 51, 52, 53, 54, 55, 56, 57, 97, 98, 99, 100, 101, 102]⟩ : ByteArray).extract ((ji3) : Int).toNat ((((ji3) + 1) % 256) : Int).toNat)).size + ((⟨#[48, 49, 50, 51, 52, 53, 54, 55, 56, 57, 97, 98, 99, 100, 101, 102]⟩ : ByteArray).extract ((Go.bits .and .u8 a0 15) : Int).toNat ((((Go.bits .and .u8 a0 15) + 1) % 256) : Int).toNat).size ≤ 9223372036854775807
         ·rw [if_pos c11] at H
          have c11b0 := eq_true c11
          have c11b1 : decide (((⟨#[92]⟩ : ByteArray) ++ ((⟨#[48, 49, 50, 51, 52, 53, 54, 55, 56, 57, 97, 98, 99, 100, 101, 102]⟩ : ByteArray).extract ((ji3) : Int).toNat ((((ji3) + 1) % 256) : Int).toNat)).size + ((⟨#[48, 49, 50, 51, 52, 53, 54, 55, 56, 57, 97, 98, 99, 100, 101, 102]⟩ : ByteArray).extract ((Go.bits .and .u8 a0 15) : Int).toNat ((((Go.bits .and .u8 a0 15) + 1) % 256) : Int).toNat).size ≤ 9223372036854775807) = true := decide_eq_true c11
          try have c11b2 : (9223372036854775807 < ((⟨#[92]⟩ : ByteArray) ++ ((⟨#[48, 49, 50, 51, 52, 53, 54, 55, 56, 57, 97, 98, 99, 100, 101, 102]⟩ : ByteArray).extract ((ji3) : Int).toNat ((((ji3) + 1) % 256) : Int).toNat)).size + ((⟨#[48, 49, 50, 51, 52, 53, 54, 55, 56, 57, 97, 98, 99, 100, 101, 102]⟩ : ByteArray).extract ((Go.bits .and .u8 a0 15) : Int).toNat ((((Go.bits .and .u8 a0 15) + 1) % 256) : Int).toNat).size) = False := eq_false (Nat.not_lt.2 c11)
          by_cases c12 : (((⟨#[92]⟩ : ByteArray) ++ ((⟨#[48, 49, 50, 51, 52, 53, 54, 55, 56, 57, 97, 98, 99, 100, 101, 102]⟩ : ByteArray).extract ((ji3) : Int).toNat ((((ji3) + 1) % 256) : Int).toNat)) ++ ((⟨#[48, 49, 50, 51, 52, 53, 54, 55, 56, 57, 97, 98, 99, 100, 101, 102]⟩ : ByteArray).extract ((Go.bits .and .u8 a0 15) : Int).toNat ((((Go.bits .and .u8 a0 15) + 1) % 256) : Int).toNat)).size + 1 ≤ 9223372036854775807
          ·rw [if_pos c12] at H
           have c12b0 := eq_true c12
           have c12b1 : decide ((((⟨#[92]⟩ : ByteArray) ++ ((⟨#[48, 49, 50, 51, 52, 53, 54, 55, 56, 57, 97, 98, 99, 100, 101, 102]⟩ : ByteArray).extract ((ji3) : Int).toNat ((((ji3) + 1) % 256) : Int).toNat)) ++ ((⟨#[48, 49, 50, 51, 52, 53, 54, 55, 56, 57, 97, 98, 99, 100, 101, 102]⟩ : ByteArray).extract ((Go.bits .and .u8 a0 15) : Int).toNat ((((Go.bits .and .u8 a0 15) + 1) % 256) : Int).toNat)).size + 1 ≤ 9223372036854775807) = true := decide_eq_true c12
           try have c12b2 : (9223372036854775807 < (((⟨#[92]⟩ : ByteArray) ++ ((⟨#[48, 49, 50, 51, 52, 53, 54, 55, 56, 57, 97, 98, 99, 100, 101, 102]⟩ : ByteArray).extract ((ji3) : Int).toNat ((((ji3) + 1) % 256) : Int).toNat)) ++ ((⟨#[48, 49, 50, 51, 52, 53, 54, 55, 56, 57, 97, 98, 99, 100, 101, 102]⟩ : ByteArray).extract ((Go.bits .and .u8 a0 15) : Int).toNat ((((Go.bits .and .u8 a0 15) + 1) % 256) : Int).toNat)).size + 1) = False := eq_false (Nat.not_lt.2 c12)
           obtain rfl := Option.some.inj H
           go_enter Tryd.func61, Tryd.ntmps61
           go_wp2
           go_ret
           exact ⟨by first | rfl | (simp; done) | (simp only [← hji3] <;> (first | rfl | simp)) | (simp [*]; done), drs_⟩
          ·rw [if_neg c12] at H
           exact absurd H (by simp)
         ·rw [if_neg c11] at H
          exact absurd H (by simp)
        ·rw [if_neg c10] at H
         exact absurd H (by simp)
       ·rw [if_neg c9] at H
        exact absurd H (by simp)
      ·rw [if_neg c8] at H
       exact absurd H (by simp)
     ·rw [if_neg c7] at H
      exact absurd H (by simp)
    ·rw [if_neg c6] at H
     exact absurd H (by simp)
   ·rw [if_neg c5] at H
    exact absurd H (by simp)
  ·rw [if_neg c4] at H
   exact absurd H (by simp)
 ·rw [if_neg c2] at H
  have c2b0 : decide (0 < (a0 / 16)) = false := decide_eq_false c2
  clear c2
  by_cases c13 : 0 ≤ (Go.bits .and .u8 a0 15)
  ·rw [if_pos c13] at H
   have c13b0 := eq_true c13
   have c13b1 : decide (0 ≤ (Go.bits .and .u8 a0 15)) = true := decide_eq_true c13
   clear c13
   by_cases c14 : (Go.bits .and .u8 a0 15) ≤ (((Go.bits .and .u8 a0 15) + 1) % 256)
   ·rw [if_pos c14] at H
    have c14b0 := eq_true c14
    have c14b1 : decide ((Go.bits .and .u8 a0 15) ≤ (((Go.bits .and .u8 a0 15) + 1) % 256)) = true := decide_eq_true c14
    by_cases c15 : (((Go.bits .and .u8 a0 15) + 1) % 256) ≤ 16
    ·rw [if_pos c15] at H
     have c15b0 := eq_true c15
     have c15b1 : decide ((((Go.bits .and .u8 a0 15) + 1) % 256) ≤ 16) = true := decide_eq_true c15
     by_cases c16 : 1 + ((⟨#[48, 49, 50, 51, 52, 53, 54, 55, 56, 57, 97, 98, 99, 100, 101, 102]⟩ : ByteArray).extract ((Go.bits .and .u8 a0 15) : Int).toNat ((((Go.bits .and .u8 a0 15) + 1) % 256) : Int).toNat).size ≤ 9223372036854775807
     ·rw [if_pos c16] at H
      have c16b0 := eq_true c16
      have c16b1 : decide (1 + ((⟨#[48, 49, 50, 51, 52, 53, 54, 55, 56, 57, 97, 98, 99, 100, 101, 102]⟩ : ByteArray).extract ((Go.bits .and .u8 a0 15) : Int).toNat ((((Go.bits .and .u8 a0 15) + 1) % 256) : Int).toNat).size ≤ 9223372036854775807) = true := decide_eq_true c16
      try have c16b2 : (9223372036854775807 < 1 + ((⟨#[48, 49, 50, 51, 52, 53, 54, 55, 56, 57, 97, 98, 99, 100, 101, 102]⟩ : ByteArray).extract ((Go.bits .and .u8 a0 15) : Int).toNat ((((Go.bits .and .u8 a0 15) + 1) % 256) : Int).toNat).size) = False := eq_false (Nat.not_lt.2 c16)
      by_cases c17 : ((⟨#[92]⟩ : ByteArray) ++ ((⟨#[48, 49, 50, 51, 52, 53, 54, 55, 56, 57, 97, 98, 99, 100, 101, 102]⟩ : ByteArray).extract ((Go.bits .and .u8 a0 15) : Int).toNat ((((Go.bits .and .u8 a0 15) + 1) % 256) : Int).toNat)).size + 1 ≤ 9223372036854775807
      ·rw [if_pos c17] at H
       have c17b0 := eq_true c17
       have c17b1 : decide (((⟨#[92]⟩ : ByteArray) ++ ((⟨#[48, 49, 50, 51, 52, 53, 54, 55, 56, 57, 97, 98, 99, 100, 101, 102]⟩ : ByteArray).extract ((Go.bits .and .u8 a0 15) : Int).toNat ((((Go.bits .and .u8 a0 15) + 1) % 256) : Int).toNat)).size + 1 ≤ 9223372036854775807) = true := decide_eq_true c17
       try have c17b2 : (9223372036854775807 < ((⟨#[92]⟩ : ByteArray) ++ ((⟨#[48, 49, 50, 51, 52, 53, 54, 55, 56, 57, 97, 98, 99, 100, 101, 102]⟩ : ByteArray).extract ((Go.bits .and .u8 a0 15) : Int).toNat ((((Go.bits .and .u8 a0 15) + 1) % 256) : Int).toNat)).size + 1) = False := eq_false (Nat.not_lt.2 c17)
       obtain rfl := Option.some.inj H
       go_enter Tryd.func61, Tryd.ntmps61
       go_wp2
       go_ret
       exact ⟨by first | rfl | (simp; done) | (simp [*]; done), drs_⟩
      ·rw [if_neg c17] at H
       exact absurd H (by simp)
     ·rw [if_neg c16] at H
      exact absurd H (by simp)
    ·rw [if_neg c15] at H
     exact absurd H (by simp)
   ·rw [if_neg c14] at H
    exact absurd H (by simp)
  ·rw [if_neg c13] at H
   exact absurd H (by simp)

end Go.Proofs.YtofdhdafabmhmaaDoor.PAr
end
section
namespace Go.Proofs.YtofdhdafabmhmaaDoor.PAr
open Go.RowKit Go.Proofs.YtofdhdafabmhmaaDoorW.PrintWords Go.Proofs.YtofdhdafabmhmaaDoorW.PrintLast Go.Proofs.YtofdhdafabmhmaaDoorW.PrintMore
attribute [local go_sem] max2_int min2_int max_two min_two max_three min_three max_four min_four
open Go.Proofs.YtofdhdafabmhmaaDoor.Opn Go.Proofs.YtofdhdafabmhmaaDoor.Giv

/-! ### ident_Quote: function 34 -/
def ident_Quote.sub (s : ByteArray) (i : Int) : ByteArray := s.extract i.toNat (wrap64 (i + 1)).toNat
def ident_Quote.one (s : ByteArray) (i : Int) : Option ByteArray :=
 (ident_control.f (bt s i)).bind fun t3 => (ident_escaped.f (bt s i)).bind fun t4 =>
  some (if t3 = true then t4 else if bt s i = 34 then (⟨#[92]⟩ : ByteArray) ++ ident_Quote.sub s i else if bt s i = 92 then (⟨#[92]⟩ : ByteArray) ++ ident_Quote.sub s i else ident_Quote.sub s i)

/-- The pieces of the first bytes, one behind the other. -/
def ident_Quote.cat (s : ByteArray) : Nat → Option (List UInt8)
 | 0 => some []
 | n + 1 => (ident_Quote.cat s n).bind fun l => (ident_Quote.one s n).bind fun r => if r.size ≤ 8 then some (l ++ r.data.toList) else none
theorem ident_Quote.cat_lt (s : ByteArray) : ∀ {n : Nat} {l : List UInt8}, ident_Quote.cat s n = some l → ∀ {i : Nat}, i < n → ∃ c r, ident_Quote.cat s i = some c ∧ ident_Quote.one s i = some r ∧ r.size ≤ 8 ∧ ident_Quote.cat s (i + 1) = some (c ++ r.data.toList)
 | 0, _, _, _, h => absurd h (Nat.not_lt_zero _)
 | n + 1, l, h, i, hi => by
  simp only [ident_Quote.cat] at h
  obtain ⟨c, h1, h⟩ := Option.bind_eq_some_iff.1 h
  obtain ⟨r, h2, h⟩ := Option.bind_eq_some_iff.1 h
  by_cases h3 : r.size ≤ 8
  ·rw [if_pos h3] at h
   rcases Nat.lt_or_ge i n with h4 | h4
   ·exact ident_Quote.cat_lt s h1 h4
   ·obtain rfl : i = n := by omega
    refine ⟨c, r, h1, h2, h3, ?_⟩
    show (ident_Quote.cat s i).bind _ = _
    rw [h1]
    show (ident_Quote.one s i).bind _ = _
    rw [h2]
    exact if_pos h3
  ·rw [if_neg h3] at h
   cases h
theorem ident_Quote.cat_len (s : ByteArray) : ∀ (n : Nat) (l : List UInt8), ident_Quote.cat s n = some l → l.length ≤ n * 8
 | 0, l, h => by
  obtain rfl := Option.some.inj h
  simp
 | n + 1, l, h => by
  simp only [ident_Quote.cat] at h
  obtain ⟨c, h1, h⟩ := Option.bind_eq_some_iff.1 h
  obtain ⟨r, h2, h⟩ := Option.bind_eq_some_iff.1 h
  by_cases h3 : r.size ≤ 8
  ·rw [if_pos h3] at h
   obtain rfl := Option.some.inj h
   have := ident_Quote.cat_len s n c h1
   have h5 : r.data.toList.length = r.size := by simp
   rw [List.length_append, h5]
   omega
  ·rw [if_neg h3] at h
   cases h

set_option maxHeartbeats 8000000 in
set_option maxRecDepth 100000 in
theorem ident_Quote.one_calls (cb : Nat) (i : Int) (s : ByteArray) (r : ByteArray) (w : World) (hi0 : 0 ≤ i) (hi1 : i < (s.size : Int)) (hc : w.cell? ⟨cb, 0, none⟩ = some (.string s)) (hs : s.size ≤ 1000000) (h : ident_Quote.one s i = some r) :
  Calls Tryd.prog 59 #[.int .i64 i, .int .u8 (bt s i), .pointer (some ⟨cb, 0, none⟩)] w fun e w' => e = .returned (.string r) ∧ Drawn0 w w' := by
 obtain ⟨t3, ht3, h⟩ := Option.bind_eq_some_iff.1 h
 obtain ⟨t4, ht4, h⟩ := Option.bind_eq_some_iff.1 h
 replace h := Option.some.inj h
 have T3 := Aside0.mk ht3
 have T4 := Aside0.mk ht4
 clear ht3 ht4
 have hw1 : wrap64 (i + 1) = i + 1 := by unfold wrap64; omega
 have q0 : (0 ≤ i) = True := eq_true hi0
 have q2 : (i ≤ wrap64 (i + 1)) = True := eq_true (by omega)
 have q3 : (wrap64 (i + 1) ≤ (s.size : Int)) = True := eq_true (by omega)
 have q2b : decide (i ≤ wrap64 (i + 1)) = true := decide_eq_true (by omega)
 have q3b : decide (wrap64 (i + 1) ≤ (s.size : Int)) = true := decide_eq_true (by omega)
 have q0b : decide (0 ≤ i) = true := decide_eq_true hi0
 have qs3 : (9223372036854775807 < 1 + ((wrap64 (i + 1)).toNat - i.toNat)) = False := eq_false (by rw [hw1]; omega)
 have hD : (∃ b3 b4 : Bool, (bt s i == 34) = b3 ∧ (bt s i == 92) = b4) := ⟨_, _, rfl, rfl⟩
 obtain ⟨b3, b4, p3, p4⟩ := hD
 have h' : r = (if t3 = true then t4 else if b3 = true then (⟨#[92]⟩ : ByteArray) ++ ident_Quote.sub s i else if b4 = true then (⟨#[92]⟩ : ByteArray) ++ ident_Quote.sub s i else ident_Quote.sub s i) := by
  rw [← h]
  simp only [← p3, ← p4, beq_iff_eq]
 unfold ident_Quote.sub at h'
 clear h hw1 hi0 hi1 hs
 cases t3 <;> cases b3 <;> cases b4
 all_goals
  simp at h'
  subst h'
  go_enter Tryd.func59, Tryd.ntmps59
  go_wp2_with (first
   | (go_at_call 60; refine (ident_control.calls _ _ _ T3.out).mono ?_; rintro e w5 ⟨rfl, ⟨nd3, rfl⟩⟩)
   | (go_at_call 61; refine (ident_escaped.calls _ _ _ T4.out).mono ?_; rintro e w5 ⟨rfl, ⟨nd4, rfl⟩⟩))
  go_ret
  exact ⟨rfl, drs_⟩

theorem ident_Quote.isB {T e : TypeId} {B b : Nat} {l : List Value} {w : World} (h : Lib.IsBuilder T e B b l w) (n : Nat) : Lib.IsBuilder T e B b l (w.drewN n) := h
theorem ident_Quote.belowN {B : Nat} {a w : World} (h : Below B a w) (n : Nat) : Below B a (w.drewN n) := h.trans ⟨rfl, rfl, rfl, Nat.le_refl _, fun _ _ => rfl⟩
theorem ident_Quote.built {T e : TypeId} {B b : Nat} {l : List UInt8} {r : ByteArray} {w : World} (h : Lib.BuilderAt T e B b (.pointer (some ⟨b, 0, none⟩)) (Lib.byteCells l ++ Lib.strCells r) w) : Lib.IsBuilder T e B b (Lib.byteCells (l ++ r.data.toList)) w := Or.inr (by
 unfold Lib.byteCells Lib.strCells at *
 rw [List.map_append]
 exact h)
theorem ident_Quote.short {c : List UInt8} {r s : ByteArray} {i : Nat} (h1 : c.length ≤ i * 8) (h2 : r.size ≤ 8) (h3 : s.size ≤ 1000000) (h4 : (i : Int) < (s.size : Int)) : (Lib.byteCells c).length + r.size ≤ 140737488355328 := by
 unfold Lib.byteCells
 rw [List.length_map]
 omega
theorem ident_Quote.next {i : Nat} {s : ByteArray} (h1 : (i : Int) < (s.size : Int)) (hs : s.size ≤ 1000000) : wrap64 ((i : Int) + 1) = ((i + 1 : Nat) : Int) := by
 unfold wrap64
 omega
theorem ident_Quote.less {i : Nat} {s : ByteArray} (h1 : (i : Int) < (s.size : Int)) (hw : wrap64 ((i : Int) + 1) = ((i + 1 : Nat) : Int)) : s.size - (intOf (.int .i64 (wrap64 ((i : Int) + 1)))).toNat < s.size - (intOf (.int .i64 (i : Int))).toNat := by
 rw [hw]
 show s.size - (((i + 1 : Nat) : Int)).toNat < s.size - ((i : Int)).toNat
 rw [Int.toNat_natCast, Int.toNat_natCast]
 clear hw
 omega
theorem ident_Quote.small {i : Int} {s : ByteArray} (h0 : 0 ≤ i) (h1 : i < (s.size : Int)) (hs : s.size ≤ 1000000) : wrap64 (i + 1) = i + 1 := by unfold wrap64; omega

set_option maxHeartbeats 4000000 in
set_option maxRecDepth 100000 in
theorem ident_Quote.each_calls (cb : Nat) (s : ByteArray) (l : List UInt8) (w : World) (hc : w.cell? ⟨cb, 0, none⟩ = some (.string s)) (hs : s.size ≤ 1000000) (hl : ident_Quote.cat s s.size = some l) :
  Calls Tryd.prog 58 #[.string s, .func (.func 59) #[] #[.pointer (some ⟨cb, 0, none⟩)]] w fun e w' => e = .returned (.string ⟨l.toArray⟩) ∧ Below w.heap.size w w' := by
 have hcl := World.block_lt_of_cell? w _ hc
 have HC := Aside0.mk hc
 have HL := Aside0.mk hl
 have HS := Aside0.mk hs
 clear hc hl hs
 go_enter Tryd.func58, Tryd.ntmps58
 go_wp2
 go_loopw [9] (fun v9 wr => ∃ (i : Nat) (c : List UInt8), i ≤ s.size ∧ v9 = .int .i64 i ∧ Aside0 (ident_Quote.cat s i = some c) ∧ Aside0 (Lib.IsBuilder 100 5 w.heap.size w.heap.size (Lib.byteCells c) wr) ∧ Aside0 (Below w.heap.size w wr))
  (fun v9 _ => s.size - (intOf v9).toNat)
 case atStart => exact ⟨0, [], Nat.zero_le _, rfl, ⟨rfl⟩, ⟨Lib.fresh_isBuilder _ _ w⟩, ⟨(Below.refl _ _).alloc (Nat.le_refl _) _⟩⟩
 case round =>
  obtain ⟨i, c, hi, rfl, HK, HB, HW⟩ := hrel
  by_cases hlt : i < s.size
  ·have q0 : (0 ≤ (i : Int)) = True := eq_true (by omega)
   have q1 : ((i : Int) < (s.size : Int)) = True := eq_true (by omega)
   have q2 : decide ((i : Int) < (s.size : Int)) = true := decide_eq_true (by omega)
   have q3 : decide (i < s.size) = true := decide_eq_true hlt
   have hx : ∀ h : i < s.size, ((s[i].toNat : Nat) : Int) = bt s i := fun h => bt_at s i h
   have q4 : (i < s.size) = True := eq_true hlt
   obtain ⟨c', r, h1, h2, h3, h4⟩ := ident_Quote.cat_lt s HL.out hlt
   obtain rfl := Option.some.inj (HK.out.symm.trans h1)
   have HN := Aside0.mk h4
   have HO := Aside0.mk h2
   have HR := Aside0.mk h3
   have hcw := (HW.out.cell hcl).trans HC.out
   have HCW := Aside0.mk hcw
   have HLEN := Aside0.mk (ident_Quote.short (ident_Quote.cat_len s i c HK.out) HR.out HS.out (q1.mpr trivial))
   have H0 := Aside0.mk (q0.mpr trivial)
   have H1 := Aside0.mk (q1.mpr trivial)
   have HSW := Aside0.mk HW.out.size
   clear h1 h2 h3 h4 hcw hlt hi
   go_wp2_with (first
    | (go_at_call 59; refine (ident_Quote.one_calls cb i s r _ H0.out H1.out HCW.out HS.out HO.out).mono ?_; rintro e w5 ⟨rfl, ⟨nd, rfl⟩⟩)
    | (go_at_call 63; refine (Giv.writeString_calls w.heap.size w.heap.size (Lib.byteCells c) r _ ?g1 HLEN.out ?g2).mono ?_; (case g1 => repeat (first | (with_reducible exact HB.out) | (with_reducible apply ident_Quote.isB))); (case g2 => exact HSW.out); rintro e w6 ⟨rfl, hb6, hbe6⟩; have HW6 := Aside0.mk (Below.trans (by repeat (first | (with_reducible exact HW.out) | (with_reducible apply ident_Quote.belowN))) hbe6); clear hbe6))
   have HWR := Aside0.mk (ident_Quote.next H1.out HS.out)
   go_roundw
   case rel => exact ⟨i + 1, c ++ r.data.toList, by have := H1.out; omega, by rw [HWR.out], HN, ⟨ident_Quote.built hb6⟩, HW6⟩
   case measure => exact ident_Quote.less H1.out HWR.out
  ·have hie : i = s.size := by omega
   subst hie
   have q2 : decide ((s.size : Int) < (s.size : Int)) = false := decide_eq_false (by omega)
   have q3 : decide (s.size < s.size) = false := decide_eq_false (by omega)
   obtain rfl := Option.some.inj (HK.out.symm.trans HL.out)
   have HSW := Aside0.mk HW.out.size
   clear hlt
   go_wp2_with (first
    | (go_at_call 64; refine (Tryd.Builder_String_any w.heap.size w.heap.size c _ HB.out HSW.out).mono ?_; rintro e w6 ⟨rfl, hb6⟩))
   go_ret
   exact ⟨rfl, HW.out.trans hb6⟩

theorem ident_Quote.boxed (w : World) (s : ByteArray) (T : TypeId) : (w.alloc (.cells #[.string s] T)).cell? ⟨w.heap.size, 0, none⟩ = some (.string s) := by
 simp
theorem ident_Quote.cellN {w : World} {p : Addr} {v : Value} (h : w.cell? p = some v) (n : Nat) : (w.drewN n).cell? p = some v := h
theorem ident_Quote.belowA (w : World) (o : Obj) : Below w.heap.size w (w.alloc o) := below_alloc (Below.refl _ _) _

def ident_Quote.f (s : ByteArray) : Option ByteArray := if (s.size : Int) > 8192 then some ⟨#[]⟩ else (strings_IndexByte.f s 0).bind fun t => if t ≥ 0 then some ⟨#[]⟩ else (ident_Quote.cat s s.size).bind fun l => some (((⟨#[34]⟩ : ByteArray) ++ ⟨l.toArray⟩) ++ (⟨#[34]⟩ : ByteArray))
set_option maxHeartbeats 2000000 in
set_option maxRecDepth 100000 in
theorem ident_Quote.calls (s : ByteArray) (r : ByteArray) (w : World) (h : ident_Quote.f s = some r) :
  Calls Tryd.prog 34 #[.string s] w fun e w' => e = .returned (.string r) ∧ Below w.heap.size w w' := by
 unfold ident_Quote.f at h
 by_cases hs : (s.size : Int) > 8192
 ·rw [if_pos hs] at h
  obtain rfl := Option.some.inj h
  have q1 : decide (8192 < (s.size : Int)) = true := decide_eq_true hs
  have q2 : decide (8192 < s.size) = true := decide_eq_true (by omega)
  clear hs
  go_enter Tryd.func34, Tryd.ntmps34
  go_wp2
  go_ret
  exact ⟨rfl, by repeat (first | (with_reducible exact ident_Quote.belowA _ _) | (with_reducible apply ident_Quote.belowN))⟩
 ·rw [if_neg hs] at h
  obtain ⟨t, ht, h⟩ := Option.bind_eq_some_iff.1 h
  have q1 : decide (8192 < (s.size : Int)) = false := decide_eq_false hs
  have q2 : decide (8192 < s.size) = false := decide_eq_false (by omega)
  have HS : Aside0 (s.size ≤ 1000000) := ⟨by omega⟩
  have HS2 : Aside0 (s.size ≤ 8192) := ⟨by omega⟩
  have HT := Aside0.mk ht
  clear ht hs
  by_cases h0 : t ≥ 0
  ·rw [if_pos h0] at h
   obtain rfl := Option.some.inj h
   have q3 : decide (0 ≤ t) = true := decide_eq_true h0
   clear h0
   go_enter Tryd.func34, Tryd.ntmps34
   go_wp2_with (first
    | (go_at_call 57; refine (strings_IndexByte.calls s 0 t _ HT.out).mono ?_; rintro e w5 ⟨rfl, ⟨nd, rfl⟩⟩))
   go_ret
   exact ⟨rfl, by repeat (first | (with_reducible exact ident_Quote.belowA _ _) | (with_reducible apply ident_Quote.belowN))⟩
  ·rw [if_neg h0] at h
   have q3 : decide (0 ≤ t) = false := decide_eq_false h0
   clear h0
   obtain ⟨l, hl, h⟩ := Option.bind_eq_some_iff.1 h
   obtain rfl := Option.some.inj h
   have HL := Aside0.mk hl
   have hz : l.length ≤ 80000 := by
    have := ident_Quote.cat_len s _ _ hl
    have := HS2.out
    omega
   have f1 : (9223372036854775807 < 1 + (⟨l.toArray⟩ : ByteArray).size) = False := eq_false (by show ¬ (9223372036854775807 < 1 + l.toArray.size); rw [List.size_toArray]; omega)
   have f2 : (9223372036854775807 < ((⟨#[34]⟩ : ByteArray) ++ (⟨l.toArray⟩ : ByteArray)).size + 1) = False := eq_false (by rw [ByteArray.size_append]; show ¬ (9223372036854775807 < 1 + l.toArray.size + 1); rw [List.size_toArray]; omega)
   have f3 : (9223372036854775807 < 1 + l.length) = False := eq_false (by omega)
   have f4 : (9223372036854775807 < 1 + l.length + 1) = False := eq_false (by omega)
   have f5 : (9223372036854775807 < 1 + (⟨l.toArray⟩ : ByteArray).size + 1) = False := eq_false (by show ¬ (9223372036854775807 < 1 + l.toArray.size + 1); rw [List.size_toArray]; omega)
   clear hl h hz
   go_enter Tryd.func34, Tryd.ntmps34
   go_wp2_with (first
    | (go_at_call 57; refine (strings_IndexByte.calls s 0 t _ HT.out).mono ?_; rintro e w5 ⟨rfl, ⟨nd, rfl⟩⟩)
    | (go_at_call 58; refine (ident_Quote.each_calls w.heap.size s l _ ?g1 HS.out HL.out).mono ?_; (case g1 => repeat (first | (with_reducible exact ident_Quote.boxed _ _ _) | (with_reducible apply ident_Quote.cellN))); rintro e w6 ⟨rfl, hb6⟩; have HW6 := Aside0.mk (below_step (by repeat (first | (with_reducible exact ident_Quote.belowA _ _) | (with_reducible apply ident_Quote.belowN))) hb6); clear hb6))
   go_ret
   exact ⟨rfl, by repeat (first | (with_reducible exact HW6.out) | (with_reducible apply ident_Quote.belowN))⟩

end Go.Proofs.YtofdhdafabmhmaaDoor.PAr
end
section
namespace Go.Proofs.YtofdhdafabmhmaaDoor.PAr
open Go.RowKit Go.Proofs.YtofdhdafabmhmaaDoorW.PrintWords Go.Proofs.YtofdhdafabmhmaaDoorW.PrintLast Go.Proofs.YtofdhdafabmhmaaDoorW.PrintMore
attribute [local go_sem] max2_int min2_int max_two min_two max_three min_three max_four min_four
open Go.Proofs.YtofdhdafabmhmaaDoor.Opn Go.Proofs.YtofdhdafabmhmaaDoor.Giv

/-! ### area_Text: function 15 -/
mutual
def area_Text.l0 : Nat → List ByteArray → List (List ByteArray) → Int → Int → Option (ByteArray)
 | 0, _, _, _, _ => none
 | k + 1, x3, x17, x18, x19 => if x19 < x18 then (if 0 ≤ x19 then (if x19 < (x17.length : Int) then (area_Text.l1 k x3 ([] : List ByteArray) x17 x18 x19 (rd_L1 x17 x19) ((rd_L1 x17 x19).length : Int) 0) else (none)) else (none)) else ((strings_Join.f x3 (⟨#[32]⟩ : ByteArray)).bind fun t301 => (some t301))
def area_Text.l1 : Nat → List ByteArray → List ByteArray → List (List ByteArray) → Int → Int → List ByteArray → Int → Int → Option (ByteArray)
 | 0, _, _, _, _, _, _, _, _ => none
 | k + 1, x3, x6, x17, x18, x19, x23, x24, x25 => if x25 < x24 then (if 0 ≤ x25 then (if x25 < (x23.length : Int) then (if (rdOf ByteArray.empty x23 x25).toList = ([] : List UInt8) then (if x6.length < 8796093022208 then (area_Text.l1 k x3 (x6 ++ [(⟨#[46]⟩ : ByteArray)]) x17 x18 x19 x23 x24 (wrap64 (x25 + 1))) else (none)) else (if x6.length < 8796093022208 then (area_Text.l1 k x3 (x6 ++ [rdOf ByteArray.empty x23 x25]) x17 x18 x19 x23 x24 (wrap64 (x25 + 1))) else (none))) else (none)) else (none)) else ((strings_Join.f x6 (⟨#[32]⟩ : ByteArray)).bind fun t310 => ((ident_Quote.f t310).bind fun t311 => (if x3.length < 8796093022208 then (area_Text.l0 k (x3 ++ [t311]) x17 x18 (wrap64 (x19 + 1))) else (none))))
end
def area_Text.f (k : Nat) (l0 : List (List ByteArray)) : Option (ByteArray) := if (l0.length : Int) = 0 then (some (⟨#[110, 111, 110, 101]⟩ : ByteArray)) else ((area_Good.f k l0).bind fun t300 => (if t300 = true then (area_Text.l0 k ([] : List ByteArray) l0 (l0.length : Int) 0) else (some (⟨#[]⟩ : ByteArray))))
theorem area_Text.mono_l : ∀ k, (∀ y0 y1 y2 y3, LeO (area_Text.l0 k y0 y1 y2 y3) (area_Text.l0 (k + 1) y0 y1 y2 y3)) ∧ (∀ y0 y1 y2 y3 y4 y5 y6 y7, LeO (area_Text.l1 k y0 y1 y2 y3 y4 y5 y6 y7) (area_Text.l1 (k + 1) y0 y1 y2 y3 y4 y5 y6 y7))
 | 0 => ⟨fun _ _ _ _ r h => by simp [area_Text.l0] at h, fun _ _ _ _ _ _ _ _ r h => by simp [area_Text.l1] at h⟩
 | k + 1 => by
  obtain ⟨ih0, ih1⟩ := area_Text.mono_l k
  refine ⟨?_, ?_⟩
  ·intro y0 y1 y2 y3
   unfold area_Text.l0
   repeat' first
   | (with_reducible exact ih0 _ _ _ _)
   | (with_reducible exact ih1 _ _ _ _ _ _ _ _)
   | (with_reducible exact area_Good.mono _ _)
   | (with_reducible exact LeO.refl _)
   | (with_reducible exact LeO.none _)
   | (with_reducible refine LeO.ite ?_ ?_)
   | (with_reducible refine LeO.bind ?_ (fun _ => ?_))
  ·intro y0 y1 y2 y3 y4 y5 y6 y7
   unfold area_Text.l1
   repeat' first
   | (with_reducible exact ih0 _ _ _ _)
   | (with_reducible exact ih1 _ _ _ _ _ _ _ _)
   | (with_reducible exact area_Good.mono _ _)
   | (with_reducible exact LeO.refl _)
   | (with_reducible exact LeO.none _)
   | (with_reducible refine LeO.ite ?_ ?_)
   | (with_reducible refine LeO.bind ?_ (fun _ => ?_))
theorem area_Text.mono : ∀ a0 k, LeO (area_Text.f k a0) (area_Text.f (k + 1) a0) := by
 intro a0 k
 obtain ⟨ih0, ih1⟩ := area_Text.mono_l k
 unfold area_Text.f
 repeat' first
   | (with_reducible exact ih0 _ _ _ _)
   | (with_reducible exact ih1 _ _ _ _ _ _ _ _)
   | (with_reducible exact area_Good.mono _ _)
   | (with_reducible exact LeO.refl _)
   | (with_reducible exact LeO.none _)
   | (with_reducible refine LeO.ite ?_ ?_)
   | (with_reducible refine LeO.bind ?_ (fun _ => ?_))
set_option maxHeartbeats 8000000 in
set_option maxRecDepth 100000 in
theorem area_Text.calls (k : Nat) (A0 : Option Addr) (c0 : Nat) (l0 : List (List ByteArray)) (r : ByteArray) (w : World) (hr0 : Kd.C (Kd.slice 9 Kd.string) w A0 l0.length l0) (hc0 : l0.length ≤ c0) (h : area_Text.f k l0 = some r) :
  Calls Tryd.prog 15 #[.slice A0 l0.length c0] w fun e w' => e = .returned (.string r) ∧ Below w.heap.size w w' := by
 have HR0 := Aside0.mk hr0
 have HC0 := Aside0.mk hc0
 clear hr0 hc0
 have HB := Aside0.mk (Below.refl w.heap.size w)
 have H : (if (l0.length : Int) = 0 then (some (⟨#[110, 111, 110, 101]⟩ : ByteArray)) else ((area_Good.f k l0).bind fun t300 => (if t300 = true then (area_Text.l0 k ([] : List ByteArray) l0 (l0.length : Int) 0) else (some (⟨#[]⟩ : ByteArray))))) = some r := h
 clear h
 by_cases c2 : (l0.length : Int) = 0
 ·rw [if_pos c2] at H
  have c2b0 : ((l0.length : Int) == 0) = true := beq_iff_eq.mpr c2
  have c2b1 : ((l0.length : Int) != 0) = false := bne_eq_false_iff_eq.mpr c2
  clear c2
  obtain rfl := Option.some.inj H
  go_enter Tryd.func15, Tryd.ntmps15
  go_wp2
  go_ret
  exact ⟨rsl_, bel_⟩
 ·rw [if_neg c2] at H
  have c2b0 : ((l0.length : Int) == 0) = false := beq_eq_false_iff_ne.mpr c2
  have c2b1 : ((l0.length : Int) != 0) = true := bne_iff_ne.mpr c2
  have c2b2 : ¬ (l0 = []) := fun h_ => c2 (by rw [h_]; rfl)
  replace H := Option.bind_eq_some_iff.mp H
  obtain ⟨t300, A30, H⟩ := H
  try dsimp only at H
  have A3 := Aside0.mk A30
  clear A30
  by_cases c4 : t300 = true
  ·subst c4
   rw [if_pos rfl] at H
   have H' := Aside0.mk H
   clear H
   go_enter Tryd.func15, Tryd.ntmps15
   go_wp2_with (first | ((with_reducible refine gate_callee (f := 13) rfl ?_); refine goesL_ (some 15) rfl rfl Tryd.func13 (by kernel_rfl) rfl #[.slice A0 l0.length c0] rfl goa_ ?_; (with_reducible refine (area_Good.calls k _ _ l0 true _ ?side1 ?side2 A3.out).mono ?_); (case side1 => repeat (first | exact HR0.out | (with_reducible refine Kd.C_alloc ?_ _) | (with_reducible refine Kd.C_drewN ?_ _) | (with_reducible refine Kd.C_drew ?_))); (case side2 => exact HC0.out); rintro e w5 ⟨rfl, hb⟩; refine ⟨_, rfl, ?_⟩; have n0_ := Aside0.mk (below_step bel_ hb); clear HB; have HB := n0_; clear n0_; clear hb))
   go_loopg [3, 19] k (fun kq v3 v19 w' => ∃ (x3_1 : List ByteArray) (x19_1 : Int), v19 = .int .i64 x19_1 ∧ Aside0 (area_Text.l0 kq x3_1 l0 (l0.length : Int) x19_1 = some r) ∧ Aside0 (kq ≤ k) ∧ Aside0 (Kd.R Kd.string 9 w' w.heap.size (fun _ => True) v3 x3_1) ∧ Aside0 (Below w.heap.size w w'))
   case atStart => exact ⟨(([] : List ByteArray)), (0), rfs_, H', ⟨Nat.le_refl _⟩, ⟨by first | exact Kd.R_nil _ _ _ _ _ | exact Kd.N_nil _ _ _ _ _ | exact Kd.V_nil _ _ _ _ _ | exact Kd.Q_nil _ _ _ _ _ | exact Kd.S_nil _ _ _ _ _⟩, ⟨bel_⟩⟩
   case round =>
    clear H'
    try clear c1
    try clear c2
    try clear c2b0
    try clear c2b1
    try clear c2b2
    try clear p2
    try clear c4
    obtain ⟨x3_1, x19_1, rfl, HA, HK1, HO_3, HB⟩ := hrel
    cases gk with
    | zero => exact absurd HA.out (by simp [area_Text.l0])
    | succ k1 =>
     have H := HA.out
     clear HA
     simp only [area_Text.l0] at H
     by_cases c6 : x19_1 < (l0.length : Int)
     ·rw [if_pos c6] at H
      have c6b0 : decide (x19_1 < (l0.length : Int)) = true := decide_eq_true c6
      clear c6
      by_cases c7 : 0 ≤ x19_1
      ·rw [if_pos c7] at H
       have c7b0 : decide (0 ≤ x19_1) = true := decide_eq_true c7
       clear c7
       by_cases c8 : x19_1 < (l0.length : Int)
       ·rw [if_pos c8] at H
        have c8b0 : decide (x19_1 < (l0.length : Int)) = true := decide_eq_true c8
        clear c8
        have H' := Aside0.mk H
        clear H
        have p302 : 0 ≤ (x19_1 : Int) := of_decide_eq_true (by first | (with_reducible assumption) | assumption)
        have q302 : x19_1 < (l0.length : Int) := of_decide_eq_true (by first | (with_reducible assumption) | assumption)
        obtain ⟨ad302, A302_0, c302_0, e302, hx302_0, hl302_0, hi302_0⟩ := at_L1 HR0.out x19_1 p302 q302
        cases e302
        replace hx302_0 := (HB.out.cell (World.block_lt_of_cell? w _ hx302_0)).trans hx302_0
        have HR302_0 := Aside0.mk hi302_0
        have HC302_0 := Aside0.mk hl302_0
        clear hi302_0 hl302_0
        replace p302 := eq_true p302
        replace q302 := eq_true q302
        go_wp2
        go_loopg [6, 25] k1 (fun kq v6 v25 w' => ∃ (x6_2 : List ByteArray) (x25_2 : Int), v25 = .int .i64 x25_2 ∧ Aside0 (area_Text.l1 kq x3_1 x6_2 l0 (l0.length : Int) x19_1 (rd_L1 l0 x19_1) ((rd_L1 l0 x19_1).length : Int) x25_2 = some r) ∧ Aside0 (kq ≤ k1) ∧ Aside0 (Kd.R Kd.string 9 w' w.heap.size (fun k_ => some k_ ≠ (v6 : Value).ownBlock) u3 x3_1) ∧ Aside0 (Kd.R Kd.string 9 w' w.heap.size (fun k_ => some k_ ≠ (u3 : Value).ownBlock) v6 x6_2) ∧ Aside0 (Below w.heap.size w w'))
        case atStart => exact ⟨(([] : List ByteArray)), (0), rfs_, H', ⟨Nat.le_refl _⟩, ⟨by (with_reducible repeat (first | apply Kd.R_alloc | apply Kd.R_drewN | apply Kd.R_drew)); exact Kd.R_mono HO_3.out (fun _ hk => (by simp [Value.ownBlock]))⟩, ⟨by first | exact Kd.R_nil _ _ _ _ _ | exact Kd.N_nil _ _ _ _ _ | exact Kd.V_nil _ _ _ _ _ | exact Kd.Q_nil _ _ _ _ _ | exact Kd.S_nil _ _ _ _ _⟩, ⟨bel_⟩⟩
        case round =>
         clear H'
         try clear c1
         try clear c2
         try clear c2b0
         try clear c2b1
         try clear c2b2
         try clear p2
         try clear c3
         try clear p3
         try clear q3
         try clear hx3
         try clear c4
         try clear c6
         try clear c6b0
         try clear c7
         try clear c7b0
         try clear c8
         try clear c8b0
         try clear hx302_0
         try clear p2
         try clear p302
         try clear q302
         obtain ⟨x6_2, x25_2, rfl, HA, HK2, HO_3, HO_6, HB⟩ := hrel
         cases gk with
         | zero => exact absurd HA.out (by simp [area_Text.l1])
         | succ k2 =>
          have H := HA.out
          clear HA
          simp only [area_Text.l1] at H
          by_cases c9 : x25_2 < ((rd_L1 l0 x19_1).length : Int)
          ·rw [if_pos c9] at H
           have c9b0 : decide (x25_2 < ((rd_L1 l0 x19_1).length : Int)) = true := decide_eq_true c9
           clear c9
           by_cases c10 : 0 ≤ x25_2
           ·rw [if_pos c10] at H
            have c10b0 : decide (0 ≤ x25_2) = true := decide_eq_true c10
            clear c10
            by_cases c11 : x25_2 < ((rd_L1 l0 x19_1).length : Int)
            ·rw [if_pos c11] at H
             have c11b0 : decide (x25_2 < ((rd_L1 l0 x19_1).length : Int)) = true := decide_eq_true c11
             clear c11
             by_cases c12 : (rdOf ByteArray.empty (rd_L1 l0 x19_1) x25_2).toList = ([] : List UInt8)
             ·rw [if_pos c12] at H
              have c12b0 : ((rdOf ByteArray.empty (rd_L1 l0 x19_1) x25_2).toList == ([] : List UInt8)) = true := beq_iff_eq.mpr c12
              have c12b1 : ((rdOf ByteArray.empty (rd_L1 l0 x19_1) x25_2).toList != ([] : List UInt8)) = false := bne_eq_false_iff_eq.mpr c12
              clear c12
              by_cases c13 : x6_2.length < 8796093022208
              ·rw [if_pos c13] at H
               have LMc13 := Aside0.mk c13
               clear c13
               obtain ⟨y304, hy304⟩ : ∃ y_ : List ByteArray, y_ = (x6_2 ++ [(⟨#[46]⟩ : ByteArray)]) := ⟨_, rfl⟩
               replace H : (area_Text.l1 k2 x3_1 y304 l0 (l0.length : Int) x19_1 (rd_L1 l0 x19_1) ((rd_L1 l0 x19_1).length : Int) (wrap64 (x25_2 + 1))) = some r := by first | (rw [hy304]; with_reducible exact H) | (have H2_ := (Option.bind_some _ _).symm.trans H; rw [hy304]; with_reducible exact H2_) | (have H2_ := (Option.bind_some _ _).symm.trans H; with_reducible exact H2_) | with_reducible exact H | (rw [hy304]; exact H) | exact H
               have Ny304 := Aside0.mk hy304
               clear hy304
               have H' := Aside0.mk H
               clear H
               have p303 : 0 ≤ (x25_2 : Int) := of_decide_eq_true (by first | (with_reducible assumption) | assumption)
               have q303 : x25_2 < ((rd_L1 l0 x19_1).length : Int) := of_decide_eq_true (by first | (with_reducible assumption) | assumption)
               obtain ⟨ad303, e303, hx303_0⟩ := Kd.at_string HR302_0.out x25_2 p303 q303
               cases e303
               replace hx303_0 := (HB.out.cell (World.block_lt_of_cell? w _ hx303_0)).trans hx303_0
               replace p303 := eq_true p303
               replace q303 := eq_true q303
               go_wp2_with (first | ((with_reducible refine gate_builtin (b := .append) (xs := #[.tmp 31, .tmp 33]) rfl ?_); at_builtin; refine Kd.R_append Kd.string (w0 := w) w.heap.size rfl (.tmp 31) (.tmp 33) 23 9 (.string ⟨#[]⟩) 16 rfl Tryd.underlying23 info9 rfl (by decide) (by omega) u6 x6_2 (⟨#[46]⟩ : ByteArray) [.string (⟨#[46]⟩ : ByteArray)] (fun k_ => some k_ ≠ (u3 : Value).ownBlock) (fun _ => False) rfl rfl ?aP (fun _ hk => hk.elim) ?aF ?aO ?aB ?aS ?aL ?_; (case aP => exact rfl); (case aB => exact bel_); (case aF => exact (fun k_ hk => Kd.fresh' (Kd.R_lt (by (with_reducible repeat (first | apply Kd.R_alloc | apply Kd.R_drewN | apply Kd.R_drew)); exact HO_3.out)) k_ hk)); (case aO => exact (by (with_reducible repeat (first | apply Kd.R_alloc | apply Kd.R_drewN | apply Kd.R_drew)); exact HO_6.out)); (case aS => exact (below_size bel_)); (case aL => have := LMc13.out; omega); intro v305 w14 ho hb hg hat; rw [← Ny304.out] at ho; have n0_ := Aside0.mk (Kd.R_after (ok := (fun _ => True)) (by (with_reducible repeat (first | apply Kd.R_alloc | apply Kd.R_drewN | apply Kd.R_drew)); exact Kd.R_mono HO_3.out (fun _ hk => ⟨trivial, hk⟩)) hg hat); have n1_ := Aside0.mk (hb); have n2_ := Aside0.mk (ho); clear HO_3; clear HB; clear HO_6; have HO_3 := n0_; have HB := n1_; have HO306 := n2_; clear n0_ n1_ n2_; clear ho hb hg hat))
               go_roundg k2
               case measure => have := HK1.out; have := HK2.out; omega
               case rel => exact ⟨(y304), (wrap64 (x25_2 + 1)), rfs_, H', ⟨by have := HK1.out; have := HK2.out; omega⟩, ⟨by (with_reducible repeat (first | apply Kd.R_alloc | apply Kd.R_drewN | apply Kd.R_drew)); exact Kd.R_mono HO_3.out (fun _ hk => hk.2)⟩, ⟨by (with_reducible repeat (first | apply Kd.R_alloc | apply Kd.R_drewN | apply Kd.R_drew)); exact HO306.out⟩, ⟨bel_⟩⟩
              ·rw [if_neg c13] at H
               exact absurd H (by simp)
             ·rw [if_neg c12] at H
              have c12b0 : ((rdOf ByteArray.empty (rd_L1 l0 x19_1) x25_2).toList == ([] : List UInt8)) = false := beq_eq_false_iff_ne.mpr c12
              have c12b1 : ((rdOf ByteArray.empty (rd_L1 l0 x19_1) x25_2).toList != ([] : List UInt8)) = true := bne_iff_ne.mpr c12
              by_cases c15 : x6_2.length < 8796093022208
              ·rw [if_pos c15] at H
               have LMc15 := Aside0.mk c15
               clear c15
               obtain ⟨y307, hy307⟩ : ∃ y_ : List ByteArray, y_ = (x6_2 ++ [rdOf ByteArray.empty (rd_L1 l0 x19_1) x25_2]) := ⟨_, rfl⟩
               replace H : (area_Text.l1 k2 x3_1 y307 l0 (l0.length : Int) x19_1 (rd_L1 l0 x19_1) ((rd_L1 l0 x19_1).length : Int) (wrap64 (x25_2 + 1))) = some r := by first | (rw [hy307]; with_reducible exact H) | (have H2_ := (Option.bind_some _ _).symm.trans H; rw [hy307]; with_reducible exact H2_) | (have H2_ := (Option.bind_some _ _).symm.trans H; with_reducible exact H2_) | with_reducible exact H | (rw [hy307]; exact H) | exact H
               have Ny307 := Aside0.mk hy307
               clear hy307
               have H' := Aside0.mk H
               clear H
               have p303 : 0 ≤ (x25_2 : Int) := of_decide_eq_true (by first | (with_reducible assumption) | assumption)
               have q303 : x25_2 < ((rd_L1 l0 x19_1).length : Int) := of_decide_eq_true (by first | (with_reducible assumption) | assumption)
               obtain ⟨ad303, e303, hx303_0⟩ := Kd.at_string HR302_0.out x25_2 p303 q303
               cases e303
               replace hx303_0 := (HB.out.cell (World.block_lt_of_cell? w _ hx303_0)).trans hx303_0
               replace p303 := eq_true p303
               replace q303 := eq_true q303
               go_wp2_with (first | ((with_reducible refine gate_builtin (b := .append) (xs := #[.tmp 31, .tmp 33]) rfl ?_); at_builtin; refine Kd.R_append Kd.string (w0 := w) w.heap.size rfl (.tmp 31) (.tmp 33) 23 9 (.string ⟨#[]⟩) 16 rfl Tryd.underlying23 info9 rfl (by decide) (by omega) u6 x6_2 (rdOf ByteArray.empty (rd_L1 l0 x19_1) x25_2) [.string (rdOf ByteArray.empty (rd_L1 l0 x19_1) x25_2)] (fun k_ => some k_ ≠ (u3 : Value).ownBlock) (fun _ => False) rfl rfl ?aP (fun _ hk => hk.elim) ?aF ?aO ?aB ?aS ?aL ?_; (case aP => exact rfl); (case aB => exact bel_); (case aF => exact (fun k_ hk => Kd.fresh' (Kd.R_lt (by (with_reducible repeat (first | apply Kd.R_alloc | apply Kd.R_drewN | apply Kd.R_drew)); exact HO_3.out)) k_ hk)); (case aO => exact (by (with_reducible repeat (first | apply Kd.R_alloc | apply Kd.R_drewN | apply Kd.R_drew)); exact HO_6.out)); (case aS => exact (below_size bel_)); (case aL => have := LMc15.out; omega); intro v308 w16 ho hb hg hat; rw [← Ny307.out] at ho; have n0_ := Aside0.mk (Kd.R_after (ok := (fun _ => True)) (by (with_reducible repeat (first | apply Kd.R_alloc | apply Kd.R_drewN | apply Kd.R_drew)); exact Kd.R_mono HO_3.out (fun _ hk => ⟨trivial, hk⟩)) hg hat); have n1_ := Aside0.mk (hb); have n2_ := Aside0.mk (ho); clear HO_3; clear HB; clear HO_6; have HO_3 := n0_; have HB := n1_; have HO309 := n2_; clear n0_ n1_ n2_; clear ho hb hg hat))
               go_roundg k2
               case measure => have := HK1.out; have := HK2.out; omega
               case rel => exact ⟨(y307), (wrap64 (x25_2 + 1)), rfs_, H', ⟨by have := HK1.out; have := HK2.out; omega⟩, ⟨by (with_reducible repeat (first | apply Kd.R_alloc | apply Kd.R_drewN | apply Kd.R_drew)); exact Kd.R_mono HO_3.out (fun _ hk => hk.2)⟩, ⟨by (with_reducible repeat (first | apply Kd.R_alloc | apply Kd.R_drewN | apply Kd.R_drew)); exact HO309.out⟩, ⟨bel_⟩⟩
              ·rw [if_neg c15] at H
               exact absurd H (by simp)
            ·rw [if_neg c11] at H
             exact absurd H (by simp)
           ·rw [if_neg c10] at H
            exact absurd H (by simp)
          ·rw [if_neg c9] at H
           have c9b0 : decide (x25_2 < ((rd_L1 l0 x19_1).length : Int)) = false := decide_eq_false c9
           clear c9
           replace H := Option.bind_eq_some_iff.mp H
           obtain ⟨t310, A170, H⟩ := H
           try dsimp only at H
           have A17 := Aside0.mk A170
           clear A170
           replace H := Option.bind_eq_some_iff.mp H
           obtain ⟨t311, A180, H⟩ := H
           try dsimp only at H
           have A18 := Aside0.mk A180
           clear A180
           by_cases c19 : x3_1.length < 8796093022208
           ·rw [if_pos c19] at H
            have LMc19 := Aside0.mk c19
            clear c19
            obtain ⟨y312, hy312⟩ : ∃ y_ : List ByteArray, y_ = (x3_1 ++ [t311]) := ⟨_, rfl⟩
            replace H : (area_Text.l0 k2 y312 l0 (l0.length : Int) (wrap64 (x19_1 + 1))) = some r := by first | (rw [hy312]; with_reducible exact H) | (have H2_ := (Option.bind_some _ _).symm.trans H; rw [hy312]; with_reducible exact H2_) | (have H2_ := (Option.bind_some _ _).symm.trans H; with_reducible exact H2_) | with_reducible exact H | (rw [hy312]; exact H) | exact H
            have Ny312 := Aside0.mk hy312
            clear hy312
            have H' := Aside0.mk H
            clear H
            obtain ⟨Ao20, co20, eo20⟩ := Kd.R_slice HO_6.out
            subst eo20
            go_wp2_with (first | ((with_reducible refine gate_callee (f := 35) rfl ?_); refine goesL_ (some 38) rfl rfl Tryd.func35 (by kernel_rfl) rfl #[.slice Ao20 x6_2.length co20, .string (⟨#[32]⟩ : ByteArray)] rfl goa_ ?_; (with_reducible refine (strings_Join.calls _ _ x6_2 (⟨#[32]⟩ : ByteArray) t310 _ ?side1 ?side2 A17.out).mono ?_); (case side1 => repeat (first | exact (Kd.R_reads' HO_6.out).2.2 | (with_reducible refine Kd.C_alloc ?_ _) | (with_reducible refine Kd.C_drewN ?_ _) | (with_reducible refine Kd.C_drew ?_))); (case side2 => exact (Kd.R_reads' HO_6.out).2.1); rintro e w21 ⟨rfl, hb⟩; refine ⟨_, rfl, ?_⟩; have n0_ := Aside0.mk (Kd.R_below (by (with_reducible repeat (first | apply Kd.R_alloc | apply Kd.R_drewN | apply Kd.R_drew)); exact HO_3.out) hb); have n1_ := Aside0.mk (Kd.R_below (by (with_reducible repeat (first | apply Kd.R_alloc | apply Kd.R_drewN | apply Kd.R_drew)); exact HO_6.out) hb); have n2_ := Aside0.mk (below_step bel_ hb); clear HO_3; clear HO_6; clear HB; have HO_3 := n0_; have HO_6 := n1_; have HB := n2_; clear n0_ n1_ n2_; clear hb) | ((with_reducible refine gate_callee (f := 34) rfl ?_); refine goesL_ (some 39) rfl rfl Tryd.func34 (by kernel_rfl) rfl #[.string t310] rfl goa_ ?_; (with_reducible refine (ident_Quote.calls t310 t311 _ A18.out).mono ?_); rintro e w22 ⟨rfl, hb⟩; refine ⟨_, rfl, ?_⟩; have n0_ := Aside0.mk (Kd.R_below (by (with_reducible repeat (first | apply Kd.R_alloc | apply Kd.R_drewN | apply Kd.R_drew)); exact HO_3.out) hb); have n1_ := Aside0.mk (Kd.R_below (by (with_reducible repeat (first | apply Kd.R_alloc | apply Kd.R_drewN | apply Kd.R_drew)); exact HO_6.out) hb); have n2_ := Aside0.mk (below_step bel_ hb); clear HO_3; clear HO_6; clear HB; have HO_3 := n0_; have HO_6 := n1_; have HB := n2_; clear n0_ n1_ n2_; clear hb) | ((with_reducible refine gate_builtin (b := .append) (xs := #[.tmp 36, .tmp 40]) rfl ?_); at_builtin; refine Kd.R_append Kd.string (w0 := w) w.heap.size rfl (.tmp 36) (.tmp 40) 23 9 (.string ⟨#[]⟩) 16 rfl Tryd.underlying23 info9 rfl (by decide) (by omega) u3 x3_1 t311 [.string t311] (fun k_ => some k_ ≠ (.slice Ao20 x6_2.length co20 : Value).ownBlock) (fun _ => False) rfl rfl ?aP (fun _ hk => hk.elim) ?aF ?aO ?aB ?aS ?aL ?_; (case aP => exact rfl); (case aB => exact bel_); (case aF => exact (fun k_ hk => Kd.fresh' (Kd.R_lt (by (with_reducible repeat (first | apply Kd.R_alloc | apply Kd.R_drewN | apply Kd.R_drew)); exact HO_6.out)) k_ hk)); (case aO => exact (by (with_reducible repeat (first | apply Kd.R_alloc | apply Kd.R_drewN | apply Kd.R_drew)); exact HO_3.out)); (case aS => exact (below_size bel_)); (case aL => have := LMc19.out; omega); intro v313 w23 ho hb hg hat; rw [← Ny312.out] at ho; have n0_ := Aside0.mk (Kd.R_after (ok := (fun _ => True)) (by (with_reducible repeat (first | apply Kd.R_alloc | apply Kd.R_drewN | apply Kd.R_drew)); exact Kd.R_mono HO_6.out (fun _ hk => ⟨trivial, hk⟩)) hg hat); have n1_ := Aside0.mk (hb); have n2_ := Aside0.mk (ho); clear HO_6; clear HB; clear HO_3; have HO_6 := n0_; have HB := n1_; have HO314 := n2_; clear n0_ n1_ n2_; clear ho hb hg hat))
            go_roundg k2
            case measure => have := HK1.out; have := HK2.out; omega
            case rel => exact ⟨(y312), (wrap64 (x19_1 + 1)), rfs_, H', ⟨by have := HK1.out; have := HK2.out; omega⟩, ⟨by (with_reducible repeat (first | apply Kd.R_alloc | apply Kd.R_drewN | apply Kd.R_drew)); exact Kd.R_mono HO314.out (fun _ hk => trivial)⟩, ⟨bel_⟩⟩
           ·rw [if_neg c19] at H
            exact absurd H (by simp)
       ·rw [if_neg c8] at H
        exact absurd H (by simp)
      ·rw [if_neg c7] at H
       exact absurd H (by simp)
     ·rw [if_neg c6] at H
      have c6b0 : decide (x19_1 < (l0.length : Int)) = false := decide_eq_false c6
      clear c6
      replace H := Option.bind_eq_some_iff.mp H
      obtain ⟨t301, A240, H⟩ := H
      try dsimp only at H
      have A24 := Aside0.mk A240
      clear A240
      obtain rfl := Option.some.inj H
      obtain ⟨Ao25, co25, eo25⟩ := Kd.R_slice HO_3.out
      subst eo25
      go_wp2_with (first | ((with_reducible refine gate_callee (f := 35) rfl ?_); refine goesL_ (some 44) rfl rfl Tryd.func35 (by kernel_rfl) rfl #[.slice Ao25 x3_1.length co25, .string (⟨#[32]⟩ : ByteArray)] rfl goa_ ?_; (with_reducible refine (strings_Join.calls _ _ x3_1 (⟨#[32]⟩ : ByteArray) t301 _ ?side1 ?side2 A24.out).mono ?_); (case side1 => repeat (first | exact (Kd.R_reads' HO_3.out).2.2 | (with_reducible refine Kd.C_alloc ?_ _) | (with_reducible refine Kd.C_drewN ?_ _) | (with_reducible refine Kd.C_drew ?_))); (case side2 => exact (Kd.R_reads' HO_3.out).2.1); rintro e w26 ⟨rfl, hb⟩; refine ⟨_, rfl, ?_⟩; have n0_ := Aside0.mk (Kd.R_below (by (with_reducible repeat (first | apply Kd.R_alloc | apply Kd.R_drewN | apply Kd.R_drew)); exact HO_3.out) hb); have n1_ := Aside0.mk (below_step bel_ hb); clear HO_3; clear HB; have HO_3 := n0_; have HB := n1_; clear n0_ n1_; clear hb))
      go_ret
      exact ⟨rsl_, bel_⟩
  ·replace c4 := Bool.eq_false_iff.mpr c4
   subst c4
   rw [if_neg (show ¬ (false = true) by decide)] at H
   obtain rfl := Option.some.inj H
   go_enter Tryd.func15, Tryd.ntmps15
   go_wp2_with (first | ((with_reducible refine gate_callee (f := 13) rfl ?_); refine goesL_ (some 15) rfl rfl Tryd.func13 (by kernel_rfl) rfl #[.slice A0 l0.length c0] rfl goa_ ?_; (with_reducible refine (area_Good.calls k _ _ l0 false _ ?side1 ?side2 A3.out).mono ?_); (case side1 => repeat (first | exact HR0.out | (with_reducible refine Kd.C_alloc ?_ _) | (with_reducible refine Kd.C_drewN ?_ _) | (with_reducible refine Kd.C_drew ?_))); (case side2 => exact HC0.out); rintro e w27 ⟨rfl, hb⟩; refine ⟨_, rfl, ?_⟩; have n0_ := Aside0.mk (below_step bel_ hb); clear HB; have HB := n0_; clear n0_; clear hb))
   go_ret
   exact ⟨rsl_, bel_⟩

/-! ### area_same_string: function 39 -/
mutual
def area_same_string.l0 : Nat → List (List ByteArray) → List (List ByteArray) → Int → Int → Option (Bool)
 | 0, _, _, _, _ => none
 | k + 1, x0, x1, x13, x14 => if x14 < x13 then (if 0 ≤ x14 then (if x14 < (x0.length : Int) then (if x14 < (x1.length : Int) then (if ((rd_L1 x0 x14).length : Int) = ((rd_L1 x1 x14).length : Int) then (area_same_string.l1 k x0 x1 x14 x13 x14 ((rd_L1 x0 x14).length : Int) 0) else (some false)) else (none)) else (none)) else (none)) else (some true)
def area_same_string.l1 : Nat → List (List ByteArray) → List (List ByteArray) → Int → Int → Int → Int → Int → Option (Bool)
 | 0, _, _, _, _, _, _, _ => none
 | k + 1, x0, x1, x5, x13, x14, x32, x33 => if x33 < x32 then (if 0 ≤ x5 then (if x5 < (x0.length : Int) then (if 0 ≤ x33 then (if x33 < ((rd_L1 x0 x5).length : Int) then (if x5 < (x1.length : Int) then (if x33 < ((rd_L1 x1 x5).length : Int) then (if (rdOf ByteArray.empty (rd_L1 x0 x5) x33).toList = (rdOf ByteArray.empty (rd_L1 x1 x5) x33).toList then (area_same_string.l1 k x0 x1 x5 x13 x14 x32 (wrap64 (x33 + 1))) else (some false)) else (none)) else (none)) else (none)) else (none)) else (none)) else (none)) else (area_same_string.l0 k x0 x1 x13 (wrap64 (x14 + 1)))
end
def area_same_string.f (k : Nat) (l0 : List (List ByteArray)) (l1 : List (List ByteArray)) : Option (Bool) := if (l0.length : Int) = (l1.length : Int) then (area_same_string.l0 k l0 l1 (l0.length : Int) 0) else (some false)
theorem area_same_string.mono_l : ∀ k, (∀ y0 y1 y2 y3, LeO (area_same_string.l0 k y0 y1 y2 y3) (area_same_string.l0 (k + 1) y0 y1 y2 y3)) ∧ (∀ y0 y1 y2 y3 y4 y5 y6, LeO (area_same_string.l1 k y0 y1 y2 y3 y4 y5 y6) (area_same_string.l1 (k + 1) y0 y1 y2 y3 y4 y5 y6))
 | 0 => ⟨fun _ _ _ _ r h => by simp [area_same_string.l0] at h, fun _ _ _ _ _ _ _ r h => by simp [area_same_string.l1] at h⟩
 | k + 1 => by
  obtain ⟨ih0, ih1⟩ := area_same_string.mono_l k
  refine ⟨?_, ?_⟩
  ·intro y0 y1 y2 y3
   unfold area_same_string.l0
   repeat' first
   | (with_reducible exact ih0 _ _ _ _)
   | (with_reducible exact ih1 _ _ _ _ _ _ _)
   | (with_reducible exact LeO.refl _)
   | (with_reducible exact LeO.none _)
   | (with_reducible refine LeO.ite ?_ ?_)
   | (with_reducible refine LeO.bind ?_ (fun _ => ?_))
  ·intro y0 y1 y2 y3 y4 y5 y6
   unfold area_same_string.l1
   repeat' first
   | (with_reducible exact ih0 _ _ _ _)
   | (with_reducible exact ih1 _ _ _ _ _ _ _)
   | (with_reducible exact LeO.refl _)
   | (with_reducible exact LeO.none _)
   | (with_reducible refine LeO.ite ?_ ?_)
   | (with_reducible refine LeO.bind ?_ (fun _ => ?_))
theorem area_same_string.mono : ∀ a0 a1 k, LeO (area_same_string.f k a0 a1) (area_same_string.f (k + 1) a0 a1) := by
 intro a0 a1 k
 obtain ⟨ih0, ih1⟩ := area_same_string.mono_l k
 unfold area_same_string.f
 repeat' first
   | (with_reducible exact ih0 _ _ _ _)
   | (with_reducible exact ih1 _ _ _ _ _ _ _)
   | (with_reducible exact LeO.refl _)
   | (with_reducible exact LeO.none _)
   | (with_reducible refine LeO.ite ?_ ?_)
   | (with_reducible refine LeO.bind ?_ (fun _ => ?_))
set_option maxHeartbeats 8000000 in
set_option maxRecDepth 100000 in
theorem area_same_string.calls (k : Nat) (A0 : Option Addr) (c0 : Nat) (l0 : List (List ByteArray)) (A1 : Option Addr) (c1 : Nat) (l1 : List (List ByteArray)) (r : Bool) (w : World) (hr0 : Kd.C (Kd.slice 9 Kd.string) w A0 l0.length l0) (hc0 : l0.length ≤ c0) (hr1 : Kd.C (Kd.slice 9 Kd.string) w A1 l1.length l1) (hc1 : l1.length ≤ c1) (h : area_same_string.f k l0 l1 = some r) :
  Calls Tryd.prog 39 #[.slice A0 l0.length c0, .slice A1 l1.length c1] w fun e w' => e = .returned (.bool r) ∧ Drawn0 w w' := by
 have HR0 := Aside0.mk hr0
 have HC0 := Aside0.mk hc0
 clear hr0 hc0
 have HR1 := Aside0.mk hr1
 have HC1 := Aside0.mk hc1
 clear hr1 hc1
 have H : (if (l0.length : Int) = (l1.length : Int) then (area_same_string.l0 k l0 l1 (l0.length : Int) 0) else (some false)) = some r := h
 clear h
 by_cases c3 : (l0.length : Int) = (l1.length : Int)
 ·rw [if_pos c3] at H
  have c3b0 : ((l0.length : Int) == (l1.length : Int)) = true := beq_iff_eq.mpr c3
  have c3b1 : ((l0.length : Int) != (l1.length : Int)) = false := bne_eq_false_iff_eq.mpr c3
  have c3b2 : (l0.length == l1.length) = true := by first | simpa using c3 | (simp at c3 ⊢; omega)
  clear c3
  have H' := Aside0.mk H
  clear H
  go_enter Tryd.func39, Tryd.ntmps39
  go_wp2
  repeat (go_quiet (fail); try go_wp2)
  go_loopg [14] k (fun kq v14 w' => ∃ (x14_1 : Int), v14 = .int .i64 x14_1 ∧ Aside0 (area_same_string.l0 kq l0 l1 (l0.length : Int) x14_1 = some r) ∧ Aside0 (kq ≤ k) ∧ Drawn0 w w')
  case atStart => exact ⟨(0), rfs_, H', ⟨Nat.le_refl _⟩, drs_⟩
  case round =>
   clear H'
   try clear c1
   try clear p2
   try clear c3
   try clear c3b0
   try clear c3b1
   try clear c3b2
   obtain ⟨x14_1, rfl, HA, HK1, ⟨m1, rfl⟩⟩ := hrel
   cases gk with
   | zero => exact absurd HA.out (by simp [area_same_string.l0])
   | succ k1 =>
    have H := HA.out
    clear HA
    simp only [area_same_string.l0] at H
    by_cases c4 : x14_1 < (l0.length : Int)
    ·rw [if_pos c4] at H
     have c4b0 : decide (x14_1 < (l0.length : Int)) = true := decide_eq_true c4
     clear c4
     by_cases c5 : 0 ≤ x14_1
     ·rw [if_pos c5] at H
      have c5b0 : decide (0 ≤ x14_1) = true := decide_eq_true c5
      clear c5
      by_cases c6 : x14_1 < (l0.length : Int)
      ·rw [if_pos c6] at H
       have c6b0 : decide (x14_1 < (l0.length : Int)) = true := decide_eq_true c6
       clear c6
       by_cases c7 : x14_1 < (l1.length : Int)
       ·rw [if_pos c7] at H
        have c7b0 : decide (x14_1 < (l1.length : Int)) = true := decide_eq_true c7
        clear c7
        by_cases c8 : ((rd_L1 l0 x14_1).length : Int) = ((rd_L1 l1 x14_1).length : Int)
        ·rw [if_pos c8] at H
         have c8b0 : (((rd_L1 l0 x14_1).length : Int) == ((rd_L1 l1 x14_1).length : Int)) = true := beq_iff_eq.mpr c8
         have c8b1 : (((rd_L1 l0 x14_1).length : Int) != ((rd_L1 l1 x14_1).length : Int)) = false := bne_eq_false_iff_eq.mpr c8
         have c8b2 : ((rd_L1 l0 x14_1).length == (rd_L1 l1 x14_1).length) = true := by first | simpa using c8 | (simp at c8 ⊢; omega)
         clear c8
         have H' := Aside0.mk H
         clear H
         have p315 : 0 ≤ (x14_1 : Int) := of_decide_eq_true (by first | (with_reducible assumption) | assumption)
         have q315 : x14_1 < (l0.length : Int) := of_decide_eq_true (by first | (with_reducible assumption) | assumption)
         obtain ⟨ad315, A315_0, c315_0, e315, hx315_0, hl315_0, hi315_0⟩ := at_L1 HR0.out x14_1 p315 q315
         cases e315
         have HR315_0 := Aside0.mk hi315_0
         have HC315_0 := Aside0.mk hl315_0
         clear hi315_0 hl315_0
         replace p315 := eq_true p315
         replace q315 := eq_true q315
         have p316 : 0 ≤ (x14_1 : Int) := of_decide_eq_true (by first | (with_reducible assumption) | assumption)
         have q316 : x14_1 < (l1.length : Int) := of_decide_eq_true (by first | (with_reducible assumption) | assumption)
         obtain ⟨ad316, A316_0, c316_0, e316, hx316_0, hl316_0, hi316_0⟩ := at_L1 HR1.out x14_1 p316 q316
         cases e316
         have HR316_0 := Aside0.mk hi316_0
         have HC316_0 := Aside0.mk hl316_0
         clear hi316_0 hl316_0
         replace p316 := eq_true p316
         replace q316 := eq_true q316
         have p317 : 0 ≤ (x14_1 : Int) := of_decide_eq_true (by first | (with_reducible assumption) | assumption)
         have q317 : x14_1 < (l0.length : Int) := of_decide_eq_true (by first | (with_reducible assumption) | assumption)
         obtain ⟨ad317, A317_0, c317_0, e317, hx317_0, hl317_0, hi317_0⟩ := at_L1 HR0.out x14_1 p317 q317
         obtain rfl : ad315 = ad317 := (by injection e317)
         have HR317_0 := Aside0.mk hi317_0
         have HC317_0 := Aside0.mk hl317_0
         clear hi317_0 hl317_0
         replace p317 := eq_true p317
         replace q317 := eq_true q317
         have ea_ := Option.some.inj (hx315_0.symm.trans hx317_0)
         injection ea_ with ea_ en_ ec_
         subst ea_
         subst ec_
         clear en_
         go_wp2
         repeat (go_quiet (fail); try go_wp2)
         go_loopg [33] k1 (fun kq v33 w' => ∃ (x33_2 : Int), v33 = .int .i64 x33_2 ∧ Aside0 (area_same_string.l1 kq l0 l1 x14_1 (l0.length : Int) x14_1 ((rd_L1 l0 x14_1).length : Int) x33_2 = some r) ∧ Aside0 (kq ≤ k1) ∧ Drawn0 w w')
         case atStart => exact ⟨(0), rfs_, H', ⟨Nat.le_refl _⟩, drs_⟩
         case round =>
          clear H'
          try clear c1
          try clear p2
          try clear c3
          try clear c3b0
          try clear c3b1
          try clear c3b2
          try clear p3
          try clear q3
          try clear hx3
          try clear c4
          try clear c4b0
          try clear c5
          try clear c5b0
          try clear c6
          try clear c6b0
          try clear c7
          try clear c7b0
          try clear c8
          try clear c8b0
          try clear c8b1
          try clear c8b2
          try clear hx315_0
          try clear hx316_0
          try clear hx317_0
          try clear p2
          try clear p315
          try clear p316
          try clear p317
          try clear q315
          try clear q316
          try clear q317
          obtain ⟨x33_2, rfl, HA, HK2, ⟨m2, rfl⟩⟩ := hrel
          cases gk with
          | zero => exact absurd HA.out (by simp [area_same_string.l1])
          | succ k2 =>
           have H := HA.out
           clear HA
           simp only [area_same_string.l1] at H
           by_cases c9 : x33_2 < ((rd_L1 l0 x14_1).length : Int)
           ·rw [if_pos c9] at H
            have c9b0 : decide (x33_2 < ((rd_L1 l0 x14_1).length : Int)) = true := decide_eq_true c9
            clear c9
            by_cases c10 : 0 ≤ x14_1
            ·rw [if_pos c10] at H
             have c10b0 : decide (0 ≤ x14_1) = true := decide_eq_true c10
             clear c10
             by_cases c11 : x14_1 < (l0.length : Int)
             ·rw [if_pos c11] at H
              have c11b0 : decide (x14_1 < (l0.length : Int)) = true := decide_eq_true c11
              clear c11
              by_cases c12 : 0 ≤ x33_2
              ·rw [if_pos c12] at H
               have c12b0 : decide (0 ≤ x33_2) = true := decide_eq_true c12
               clear c12
               by_cases c13 : x33_2 < ((rd_L1 l0 x14_1).length : Int)
               ·rw [if_pos c13] at H
                have c13b0 : decide (x33_2 < ((rd_L1 l0 x14_1).length : Int)) = true := decide_eq_true c13
                clear c13
                by_cases c14 : x14_1 < (l1.length : Int)
                ·rw [if_pos c14] at H
                 have c14b0 : decide (x14_1 < (l1.length : Int)) = true := decide_eq_true c14
                 clear c14
                 by_cases c15 : x33_2 < ((rd_L1 l1 x14_1).length : Int)
                 ·rw [if_pos c15] at H
                  have c15b0 : decide (x33_2 < ((rd_L1 l1 x14_1).length : Int)) = true := decide_eq_true c15
                  clear c15
                  by_cases c16 : (rdOf ByteArray.empty (rd_L1 l0 x14_1) x33_2).toList = (rdOf ByteArray.empty (rd_L1 l1 x14_1) x33_2).toList
                  ·rw [if_pos c16] at H
                   have c16b0 : ((rdOf ByteArray.empty (rd_L1 l0 x14_1) x33_2).toList == (rdOf ByteArray.empty (rd_L1 l1 x14_1) x33_2).toList) = true := beq_iff_eq.mpr c16
                   have c16b1 : ((rdOf ByteArray.empty (rd_L1 l0 x14_1) x33_2).toList != (rdOf ByteArray.empty (rd_L1 l1 x14_1) x33_2).toList) = false := bne_eq_false_iff_eq.mpr c16
                   clear c16
                   have H' := Aside0.mk H
                   clear H
                   have p318 : 0 ≤ (x14_1 : Int) := of_decide_eq_true (by first | (with_reducible assumption) | assumption)
                   have q318 : x14_1 < (l0.length : Int) := of_decide_eq_true (by first | (with_reducible assumption) | assumption)
                   obtain ⟨ad318, A318_0, c318_0, e318, hx318_0, hl318_0, hi318_0⟩ := at_L1 HR0.out x14_1 p318 q318
                   obtain rfl : ad315 = ad318 := (by injection e318)
                   have HR318_0 := Aside0.mk hi318_0
                   have HC318_0 := Aside0.mk hl318_0
                   clear hi318_0 hl318_0
                   replace p318 := eq_true p318
                   replace q318 := eq_true q318
                   have p319 : 0 ≤ (x33_2 : Int) := of_decide_eq_true (by first | (with_reducible assumption) | assumption)
                   have q319 : x33_2 < ((rd_L1 l0 x14_1).length : Int) := of_decide_eq_true (by first | (with_reducible assumption) | assumption)
                   obtain ⟨ad319, e319, hx319_0⟩ := Kd.at_string HR318_0.out x33_2 p319 q319
                   cases e319
                   replace p319 := eq_true p319
                   replace q319 := eq_true q319
                   have p320 : 0 ≤ (x14_1 : Int) := of_decide_eq_true (by first | (with_reducible assumption) | assumption)
                   have q320 : x14_1 < (l1.length : Int) := of_decide_eq_true (by first | (with_reducible assumption) | assumption)
                   obtain ⟨ad320, A320_0, c320_0, e320, hx320_0, hl320_0, hi320_0⟩ := at_L1 HR1.out x14_1 p320 q320
                   obtain rfl : ad316 = ad320 := (by injection e320)
                   have HR320_0 := Aside0.mk hi320_0
                   have HC320_0 := Aside0.mk hl320_0
                   clear hi320_0 hl320_0
                   replace p320 := eq_true p320
                   replace q320 := eq_true q320
                   have p321 : 0 ≤ (x33_2 : Int) := of_decide_eq_true (by first | (with_reducible assumption) | assumption)
                   have q321 : x33_2 < ((rd_L1 l1 x14_1).length : Int) := of_decide_eq_true (by first | (with_reducible assumption) | assumption)
                   obtain ⟨ad321, e321, hx321_0⟩ := Kd.at_string HR320_0.out x33_2 p321 q321
                   cases e321
                   replace p321 := eq_true p321
                   replace q321 := eq_true q321
                   go_wp2
                   repeat (go_quiet (fail); try go_wp2)
                   go_roundg k2
                   case measure => have := HK1.out; have := HK2.out; omega
                   case rel => exact ⟨(wrap64 (x33_2 + 1)), rfs_, H', ⟨by have := HK1.out; have := HK2.out; omega⟩, drs_⟩
                  ·rw [if_neg c16] at H
                   have c16b0 : ((rdOf ByteArray.empty (rd_L1 l0 x14_1) x33_2).toList == (rdOf ByteArray.empty (rd_L1 l1 x14_1) x33_2).toList) = false := beq_eq_false_iff_ne.mpr c16
                   have c16b1 : ((rdOf ByteArray.empty (rd_L1 l0 x14_1) x33_2).toList != (rdOf ByteArray.empty (rd_L1 l1 x14_1) x33_2).toList) = true := bne_iff_ne.mpr c16
                   obtain rfl := Option.some.inj H
                   have p318 : 0 ≤ (x14_1 : Int) := of_decide_eq_true (by first | (with_reducible assumption) | assumption)
                   have q318 : x14_1 < (l0.length : Int) := of_decide_eq_true (by first | (with_reducible assumption) | assumption)
                   obtain ⟨ad318, A318_0, c318_0, e318, hx318_0, hl318_0, hi318_0⟩ := at_L1 HR0.out x14_1 p318 q318
                   obtain rfl : ad315 = ad318 := (by injection e318)
                   have HR318_0 := Aside0.mk hi318_0
                   have HC318_0 := Aside0.mk hl318_0
                   clear hi318_0 hl318_0
                   replace p318 := eq_true p318
                   replace q318 := eq_true q318
                   have p319 : 0 ≤ (x33_2 : Int) := of_decide_eq_true (by first | (with_reducible assumption) | assumption)
                   have q319 : x33_2 < ((rd_L1 l0 x14_1).length : Int) := of_decide_eq_true (by first | (with_reducible assumption) | assumption)
                   obtain ⟨ad319, e319, hx319_0⟩ := Kd.at_string HR318_0.out x33_2 p319 q319
                   cases e319
                   replace p319 := eq_true p319
                   replace q319 := eq_true q319
                   have p320 : 0 ≤ (x14_1 : Int) := of_decide_eq_true (by first | (with_reducible assumption) | assumption)
                   have q320 : x14_1 < (l1.length : Int) := of_decide_eq_true (by first | (with_reducible assumption) | assumption)
                   obtain ⟨ad320, A320_0, c320_0, e320, hx320_0, hl320_0, hi320_0⟩ := at_L1 HR1.out x14_1 p320 q320
                   obtain rfl : ad316 = ad320 := (by injection e320)
                   have HR320_0 := Aside0.mk hi320_0
                   have HC320_0 := Aside0.mk hl320_0
                   clear hi320_0 hl320_0
                   replace p320 := eq_true p320
                   replace q320 := eq_true q320
                   have p321 : 0 ≤ (x33_2 : Int) := of_decide_eq_true (by first | (with_reducible assumption) | assumption)
                   have q321 : x33_2 < ((rd_L1 l1 x14_1).length : Int) := of_decide_eq_true (by first | (with_reducible assumption) | assumption)
                   obtain ⟨ad321, e321, hx321_0⟩ := Kd.at_string HR320_0.out x33_2 p321 q321
                   cases e321
                   replace p321 := eq_true p321
                   replace q321 := eq_true q321
                   go_wp2
                   repeat (go_quiet (fail); try go_wp2)
                   go_ret
                   exact ⟨by first | rfl | (simp; done) | (simp [*]; done), drs_⟩
                 ·rw [if_neg c15] at H
                  exact absurd H (by simp)
                ·rw [if_neg c14] at H
                 exact absurd H (by simp)
               ·rw [if_neg c13] at H
                exact absurd H (by simp)
              ·rw [if_neg c12] at H
               exact absurd H (by simp)
             ·rw [if_neg c11] at H
              exact absurd H (by simp)
            ·rw [if_neg c10] at H
             exact absurd H (by simp)
           ·rw [if_neg c9] at H
            have c9b0 : decide (x33_2 < ((rd_L1 l0 x14_1).length : Int)) = false := decide_eq_false c9
            clear c9
            have H' := Aside0.mk H
            clear H
            go_wp2
            repeat (go_quiet (fail); try go_wp2)
            go_roundg k2
            case measure => have := HK1.out; have := HK2.out; omega
            case rel => exact ⟨(wrap64 (x14_1 + 1)), rfs_, H', ⟨by have := HK1.out; have := HK2.out; omega⟩, drs_⟩
        ·rw [if_neg c8] at H
         have c8b0 : (((rd_L1 l0 x14_1).length : Int) == ((rd_L1 l1 x14_1).length : Int)) = false := beq_eq_false_iff_ne.mpr c8
         have c8b1 : (((rd_L1 l0 x14_1).length : Int) != ((rd_L1 l1 x14_1).length : Int)) = true := bne_iff_ne.mpr c8
         have c8b2 : ((rd_L1 l0 x14_1).length == (rd_L1 l1 x14_1).length) = false := by first | simpa using c8 | (simp at c8 ⊢; omega)
         obtain rfl := Option.some.inj H
         have p315 : 0 ≤ (x14_1 : Int) := of_decide_eq_true (by first | (with_reducible assumption) | assumption)
         have q315 : x14_1 < (l0.length : Int) := of_decide_eq_true (by first | (with_reducible assumption) | assumption)
         obtain ⟨ad315, A315_0, c315_0, e315, hx315_0, hl315_0, hi315_0⟩ := at_L1 HR0.out x14_1 p315 q315
         cases e315
         have HR315_0 := Aside0.mk hi315_0
         have HC315_0 := Aside0.mk hl315_0
         clear hi315_0 hl315_0
         replace p315 := eq_true p315
         replace q315 := eq_true q315
         have p316 : 0 ≤ (x14_1 : Int) := of_decide_eq_true (by first | (with_reducible assumption) | assumption)
         have q316 : x14_1 < (l1.length : Int) := of_decide_eq_true (by first | (with_reducible assumption) | assumption)
         obtain ⟨ad316, A316_0, c316_0, e316, hx316_0, hl316_0, hi316_0⟩ := at_L1 HR1.out x14_1 p316 q316
         cases e316
         have HR316_0 := Aside0.mk hi316_0
         have HC316_0 := Aside0.mk hl316_0
         clear hi316_0 hl316_0
         replace p316 := eq_true p316
         replace q316 := eq_true q316
         go_wp2
         repeat (go_quiet (fail); try go_wp2)
         go_ret
         exact ⟨by first | rfl | (simp; done) | (simp [*]; done), drs_⟩
       ·rw [if_neg c7] at H
        exact absurd H (by simp)
      ·rw [if_neg c6] at H
       exact absurd H (by simp)
     ·rw [if_neg c5] at H
      exact absurd H (by simp)
    ·rw [if_neg c4] at H
     have c4b0 : decide (x14_1 < (l0.length : Int)) = false := decide_eq_false c4
     clear c4
     obtain rfl := Option.some.inj H
     go_wp2
     repeat (go_quiet (fail); try go_wp2)
     go_ret
     exact ⟨by first | rfl | (simp; done) | (simp [*]; done), drs_⟩
 ·rw [if_neg c3] at H
  have c3b0 : ((l0.length : Int) == (l1.length : Int)) = false := beq_eq_false_iff_ne.mpr c3
  have c3b1 : ((l0.length : Int) != (l1.length : Int)) = true := bne_iff_ne.mpr c3
  have c3b2 : (l0.length == l1.length) = false := by first | simpa using c3 | (simp at c3 ⊢; omega)
  obtain rfl := Option.some.inj H
  go_enter Tryd.func39, Tryd.ntmps39
  go_wp2
  repeat (go_quiet (fail); try go_wp2)
  go_ret
  exact ⟨by first | rfl | (simp; done) | (simp [*]; done), drs_⟩

/-! ### area_Same: function 18 -/
def area_Same.f (k : Nat) (l0 : List (List ByteArray)) (l1 : List (List ByteArray)) : Option (Bool) := (area_same_string.f k l0 l1).bind fun t322 => (some t322)
theorem area_Same.mono : ∀ a0 a1 k, LeO (area_Same.f k a0 a1) (area_Same.f (k + 1) a0 a1) := by
 intro a0 a1 k
 unfold area_Same.f
 repeat' first
   | (with_reducible exact area_same_string.mono _ _ _)
   | (with_reducible exact LeO.refl _)
   | (with_reducible exact LeO.none _)
   | (with_reducible refine LeO.ite ?_ ?_)
   | (with_reducible refine LeO.bind ?_ (fun _ => ?_))
set_option maxHeartbeats 8000000 in
set_option maxRecDepth 100000 in
theorem area_Same.calls (k : Nat) (A0 : Option Addr) (c0 : Nat) (l0 : List (List ByteArray)) (A1 : Option Addr) (c1 : Nat) (l1 : List (List ByteArray)) (r : Bool) (w : World) (hr0 : Kd.C (Kd.slice 9 Kd.string) w A0 l0.length l0) (hc0 : l0.length ≤ c0) (hr1 : Kd.C (Kd.slice 9 Kd.string) w A1 l1.length l1) (hc1 : l1.length ≤ c1) (h : area_Same.f k l0 l1 = some r) :
  Calls Tryd.prog 18 #[.slice A0 l0.length c0, .slice A1 l1.length c1] w fun e w' => e = .returned (.bool r) ∧ Drawn0 w w' := by
 have HR0 := Aside0.mk hr0
 have HC0 := Aside0.mk hc0
 clear hr0 hc0
 have HR1 := Aside0.mk hr1
 have HC1 := Aside0.mk hc1
 clear hr1 hc1
 have H : ((area_same_string.f k l0 l1).bind fun t322 => (some t322)) = some r := h
 clear h
 replace H := Option.bind_eq_some_iff.mp H
 obtain ⟨t322, A30, H⟩ := H
 try dsimp only at H
 have A3 := Aside0.mk A30
 clear A30
 obtain rfl := Option.some.inj H
 go_enter Tryd.func18, Tryd.ntmps18
 go_wp2_with (first | ((with_reducible refine gate_callee (f := 39) rfl ?_); refine goesL_ (some 7) rfl rfl Tryd.func39 (by kernel_rfl) rfl #[.slice A0 l0.length c0, .slice A1 l1.length c1] rfl goa_ ?_; (with_reducible refine (area_same_string.calls k _ _ l0 _ _ l1 t322 _ ?side1 ?side2 ?side3 ?side4 A3.out).mono ?_); (case side1 => repeat (first | exact HR0.out | (with_reducible refine Kd.C_alloc ?_ _) | (with_reducible refine Kd.C_drewN ?_ _) | (with_reducible refine Kd.C_drew ?_))); (case side2 => exact HC0.out); (case side3 => repeat (first | exact HR1.out | (with_reducible refine Kd.C_alloc ?_ _) | (with_reducible refine Kd.C_drewN ?_ _) | (with_reducible refine Kd.C_drew ?_))); (case side4 => exact HC1.out); rintro e w' ⟨rfl, ⟨nd, rfl⟩⟩; refine ⟨_, rfl, ?_⟩))
 go_ret
 exact ⟨by first | rfl | (simp; done) | (simp [*]; done), drs_⟩

end Go.Proofs.YtofdhdafabmhmaaDoor.PAr
end
