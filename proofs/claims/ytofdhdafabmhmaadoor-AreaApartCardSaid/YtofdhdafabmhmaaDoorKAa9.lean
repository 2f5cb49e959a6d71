/- AreaApartCardSaid, part 10 of 12: contracts of the program's functions, the words that they use, and the plain laws on what they compute. Conditions: none beyond what the statements say. -/
import Derived.Test.YtofdhdafabmhmaaDoorKAa1
import Derived.Test.YtofdhdafabmhmaaDoorKAa2
import Derived.Test.YtofdhdafabmhmaaDoorKAa7
import Derived.Test.YtofdhdafabmhmaaDoorKAa8
set_option linter.unusedVariables false
set_option linter.unusedSimpArgs false
section
namespace Go.Proofs.YtofdhdafabmhmaaDoor.PAr
open Go.RowKit Go.Proofs.YtofdhdafabmhmaaDoorW.PrintWords Go.Proofs.YtofdhdafabmhmaaDoorW.PrintLast Go.Proofs.YtofdhdafabmhmaaDoorW.PrintMore
attribute [local go_sem] max2_int min2_int max_two min_two max_three min_three max_four min_four
open Go.Proofs.YtofdhdafabmhmaaDoor.Opn Go.Proofs.YtofdhdafabmhmaaDoor.Giv

/-! ### parterrelaw08_AreaApart: function 4 -/
mutual
def parterrelaw08_AreaApart.j0 : Nat → List (List ByteArray) → Bool → Option (Bool)
 | 0, _, _ => none
 | k + 1, x0, x17 => if x17 = true then ((parterrelaw08_lives.f k).bind fun t291 => (some t291)) else ((area_Rects.f k x0).bind fun t292 => (parterrelaw08_AreaApart.l0 k x0 t292 (x0.length : Int) 0))
def parterrelaw08_AreaApart.l0 : Nat → List (List ByteArray) → List (S33) → Int → Int → Option (Bool)
 | 0, _, _, _, _ => none
 | k + 1, x0, x3, x22, x23 => if x23 < x22 then (if 0 ≤ x23 then (if x23 < (x0.length : Int) then (parterrelaw08_AreaApart.l1 k x0 x3 x23 x22 x23 (rd_L1 x0 x23) ((rd_L1 x0 x23).length : Int) 0) else (none)) else (none)) else ((parterrelaw08_lives.f k).bind fun t295 => (some t295))
def parterrelaw08_AreaApart.l1 : Nat → List (List ByteArray) → List (S33) → Int → Int → Int → List ByteArray → Int → Int → Option (Bool)
 | 0, _, _, _, _, _, _, _, _ => none
 | k + 1, x0, x3, x4, x22, x23, x29, x30, x31 => if x31 < x30 then (if 0 ≤ x31 then (if x31 < (x29.length : Int) then (parterrelaw08_AreaApart.l2 k x0 x3 x4 x31 (rdOf ByteArray.empty x29 x31) 0 x22 x23 x29 x30 x31 x3 (x3.length : Int) 0) else (none)) else (none)) else (parterrelaw08_AreaApart.l0 k x0 x3 x22 (wrap64 (x23 + 1)))
def parterrelaw08_AreaApart.l2 : Nat → List (List ByteArray) → List (S33) → Int → Int → ByteArray → Int → Int → Int → List ByteArray → Int → Int → List (S33) → Int → Int → Option (Bool)
 | 0, _, _, _, _, _, _, _, _, _, _, _, _, _, _ => none
 | k + 1, x0, x3, x4, x5, x6, x7, x22, x23, x29, x30, x31, x36, x37, x38 => if x38 < x37 then (if 0 ≤ x38 then (if x38 < (x36.length : Int) then (if x4 ≥ ((rd_T33 x36 x38).f1) then (if x4 < (wrap64 (((rd_T33 x36 x38).f1) + ((rd_T33 x36 x38).f3))) then (if x5 ≥ ((rd_T33 x36 x38).f2) then (parterrelaw08_AreaApart.j4 k x0 x3 x4 x5 x6 x7 x22 x23 x29 x30 x31 x36 x37 x38 (decide (x5 < (wrap64 (((rd_T33 x36 x38).f2) + ((rd_T33 x36 x38).f4))))) ((rd_T33 x36 x38).f0) ((rd_T33 x36 x38).f1) ((rd_T33 x36 x38).f2) ((rd_T33 x36 x38).f3) ((rd_T33 x36 x38).f4)) else (parterrelaw08_AreaApart.j4 k x0 x3 x4 x5 x6 x7 x22 x23 x29 x30 x31 x36 x37 x38 false ((rd_T33 x36 x38).f0) ((rd_T33 x36 x38).f1) ((rd_T33 x36 x38).f2) ((rd_T33 x36 x38).f3) ((rd_T33 x36 x38).f4))) else (parterrelaw08_AreaApart.j4 k x0 x3 x4 x5 x6 x7 x22 x23 x29 x30 x31 x36 x37 x38 false ((rd_T33 x36 x38).f0) ((rd_T33 x36 x38).f1) ((rd_T33 x36 x38).f2) ((rd_T33 x36 x38).f3) ((rd_T33 x36 x38).f4))) else (parterrelaw08_AreaApart.j4 k x0 x3 x4 x5 x6 x7 x22 x23 x29 x30 x31 x36 x37 x38 false ((rd_T33 x36 x38).f0) ((rd_T33 x36 x38).f1) ((rd_T33 x36 x38).f2) ((rd_T33 x36 x38).f3) ((rd_T33 x36 x38).f4))) else (none)) else (none)) else (if x7 = (mn 1 (x6.size : Int)) then (parterrelaw08_AreaApart.l1 k x0 x3 x4 x22 x23 x29 x30 (wrap64 (x31 + 1))) else (none))
def parterrelaw08_AreaApart.j4 : Nat → List (List ByteArray) → List (S33) → Int → Int → ByteArray → Int → Int → Int → List ByteArray → Int → Int → List (S33) → Int → Int → Bool → ByteArray → Int → Int → Int → Int → Option (Bool)
 | 0, _, _, _, _, _, _, _, _, _, _, _, _, _, _, _, _, _, _, _, _ => none
 | k + 1, x0, x3, x4, x5, x6, x7, x22, x23, x29, x30, x31, x36, x37, x38, x69, x300000, x300001, x300002, x300003, x300004 => if x69 = true then (if x300000.toList = x6.toList then (parterrelaw08_AreaApart.l2 k x0 x3 x4 x5 x6 (wrap64 (x7 + 1)) x22 x23 x29 x30 x31 x36 x37 (wrap64 (x38 + 1))) else (none)) else (parterrelaw08_AreaApart.l2 k x0 x3 x4 x5 x6 x7 x22 x23 x29 x30 x31 x36 x37 (wrap64 (x38 + 1)))
end
def parterrelaw08_AreaApart.f (k : Nat) (l0 : List (List ByteArray)) : Option (Bool) := (parterrelaw08_Light.f k l0).bind fun t289 => (if t289 = true then ((area_Good.f k l0).bind fun t290 => (parterrelaw08_AreaApart.j0 k l0 (!t290))) else (parterrelaw08_AreaApart.j0 k l0 true))
theorem parterrelaw08_AreaApart.mono_l : ∀ k, (∀ y0 y1, LeO (parterrelaw08_AreaApart.j0 k y0 y1) (parterrelaw08_AreaApart.j0 (k + 1) y0 y1)) ∧ (∀ y0 y1 y2 y3, LeO (parterrelaw08_AreaApart.l0 k y0 y1 y2 y3) (parterrelaw08_AreaApart.l0 (k + 1) y0 y1 y2 y3)) ∧ (∀ y0 y1 y2 y3 y4 y5 y6 y7, LeO (parterrelaw08_AreaApart.l1 k y0 y1 y2 y3 y4 y5 y6 y7) (parterrelaw08_AreaApart.l1 (k + 1) y0 y1 y2 y3 y4 y5 y6 y7)) ∧ (∀ y0 y1 y2 y3 y4 y5 y6 y7 y8 y9 y10 y11 y12 y13, LeO (parterrelaw08_AreaApart.l2 k y0 y1 y2 y3 y4 y5 y6 y7 y8 y9 y10 y11 y12 y13) (parterrelaw08_AreaApart.l2 (k + 1) y0 y1 y2 y3 y4 y5 y6 y7 y8 y9 y10 y11 y12 y13)) ∧ (∀ y0 y1 y2 y3 y4 y5 y6 y7 y8 y9 y10 y11 y12 y13 y14 y15 y16 y17 y18 y19, LeO (parterrelaw08_AreaApart.j4 k y0 y1 y2 y3 y4 y5 y6 y7 y8 y9 y10 y11 y12 y13 y14 y15 y16 y17 y18 y19) (parterrelaw08_AreaApart.j4 (k + 1) y0 y1 y2 y3 y4 y5 y6 y7 y8 y9 y10 y11 y12 y13 y14 y15 y16 y17 y18 y19))
 | 0 => ⟨fun _ _ r h => by simp [parterrelaw08_AreaApart.j0] at h, fun _ _ _ _ r h => by simp [parterrelaw08_AreaApart.l0] at h, fun _ _ _ _ _ _ _ _ r h => by simp [parterrelaw08_AreaApart.l1] at h, fun _ _ _ _ _ _ _ _ _ _ _ _ _ _ r h => by simp [parterrelaw08_AreaApart.l2] at h, fun _ _ _ _ _ _ _ _ _ _ _ _ _ _ _ _ _ _ _ _ r h => by simp [parterrelaw08_AreaApart.j4] at h⟩
 | k + 1 => by
  obtain ⟨ih0, ih1, ih2, ih3, ih4⟩ := parterrelaw08_AreaApart.mono_l k
  refine ⟨?_, ?_, ?_, ?_, ?_⟩
  ·intro y0 y1
   unfold parterrelaw08_AreaApart.j0
   repeat' first
   | (with_reducible exact ih0 _ _)
   | (with_reducible exact ih1 _ _ _ _)
   | (with_reducible exact ih2 _ _ _ _ _ _ _ _)
   | (with_reducible exact ih3 _ _ _ _ _ _ _ _ _ _ _ _ _ _)
   | (with_reducible exact ih4 _ _ _ _ _ _ _ _ _ _ _ _ _ _ _ _ _ _ _ _)
   | (with_reducible exact area_Good.mono _ _)
   | (with_reducible exact area_Rects.mono _ _)
   | (with_reducible exact parterrelaw08_Light.mono _ _)
   | (with_reducible exact parterrelaw08_lives.mono _)
   | (with_reducible exact LeO.refl _)
   | (with_reducible exact LeO.none _)
   | (with_reducible refine LeO.ite ?_ ?_)
   | (with_reducible refine LeO.bind ?_ (fun _ => ?_))
  ·intro y0 y1 y2 y3
   unfold parterrelaw08_AreaApart.l0
   repeat' first
   | (with_reducible exact ih0 _ _)
   | (with_reducible exact ih1 _ _ _ _)
   | (with_reducible exact ih2 _ _ _ _ _ _ _ _)
   | (with_reducible exact ih3 _ _ _ _ _ _ _ _ _ _ _ _ _ _)
   | (with_reducible exact ih4 _ _ _ _ _ _ _ _ _ _ _ _ _ _ _ _ _ _ _ _)
   | (with_reducible exact area_Good.mono _ _)
   | (with_reducible exact area_Rects.mono _ _)
   | (with_reducible exact parterrelaw08_Light.mono _ _)
   | (with_reducible exact parterrelaw08_lives.mono _)
   | (with_reducible exact LeO.refl _)
   | (with_reducible exact LeO.none _)
   | (with_reducible refine LeO.ite ?_ ?_)
   | (with_reducible refine LeO.bind ?_ (fun _ => ?_))
  ·intro y0 y1 y2 y3 y4 y5 y6 y7
   unfold parterrelaw08_AreaApart.l1
   repeat' first
   | (with_reducible exact ih0 _ _)
   | (with_reducible exact ih1 _ _ _ _)
   | (with_reducible exact ih2 _ _ _ _ _ _ _ _)
   | (with_reducible exact ih3 _ _ _ _ _ _ _ _ _ _ _ _ _ _)
   | (with_reducible exact ih4 _ _ _ _ _ _ _ _ _ _ _ _ _ _ _ _ _ _ _ _)
   | (with_reducible exact area_Good.mono _ _)
   | (with_reducible exact area_Rects.mono _ _)
   | (with_reducible exact parterrelaw08_Light.mono _ _)
   | (with_reducible exact parterrelaw08_lives.mono _)
   | (with_reducible exact LeO.refl _)
   | (with_reducible exact LeO.none _)
   | (with_reducible refine LeO.ite ?_ ?_)
   | (with_reducible refine LeO.bind ?_ (fun _ => ?_))
  ·intro y0 y1 y2 y3 y4 y5 y6 y7 y8 y9 y10 y11 y12 y13
   unfold parterrelaw08_AreaApart.l2
   repeat' first
   | (with_reducible exact ih0 _ _)
   | (with_reducible exact ih1 _ _ _ _)
   | (with_reducible exact ih2 _ _ _ _ _ _ _ _)
   | (with_reducible exact ih3 _ _ _ _ _ _ _ _ _ _ _ _ _ _)
   | (with_reducible exact ih4 _ _ _ _ _ _ _ _ _ _ _ _ _ _ _ _ _ _ _ _)
   | (with_reducible exact area_Good.mono _ _)
   | (with_reducible exact area_Rects.mono _ _)
   | (with_reducible exact parterrelaw08_Light.mono _ _)
   | (with_reducible exact parterrelaw08_lives.mono _)
   | (with_reducible exact LeO.refl _)
   | (with_reducible exact LeO.none _)
   | (with_reducible refine LeO.ite ?_ ?_)
   | (with_reducible refine LeO.bind ?_ (fun _ => ?_))
  ·intro y0 y1 y2 y3 y4 y5 y6 y7 y8 y9 y10 y11 y12 y13 y14 y15 y16 y17 y18 y19
   unfold parterrelaw08_AreaApart.j4
   repeat' first
   | (with_reducible exact ih0 _ _)
   | (with_reducible exact ih1 _ _ _ _)
   | (with_reducible exact ih2 _ _ _ _ _ _ _ _)
   | (with_reducible exact ih3 _ _ _ _ _ _ _ _ _ _ _ _ _ _)
   | (with_reducible exact ih4 _ _ _ _ _ _ _ _ _ _ _ _ _ _ _ _ _ _ _ _)
   | (with_reducible exact area_Good.mono _ _)
   | (with_reducible exact area_Rects.mono _ _)
   | (with_reducible exact parterrelaw08_Light.mono _ _)
   | (with_reducible exact parterrelaw08_lives.mono _)
   | (with_reducible exact LeO.refl _)
   | (with_reducible exact LeO.none _)
   | (with_reducible refine LeO.ite ?_ ?_)
   | (with_reducible refine LeO.bind ?_ (fun _ => ?_))
theorem parterrelaw08_AreaApart.mono : ∀ a0 k, LeO (parterrelaw08_AreaApart.f k a0) (parterrelaw08_AreaApart.f (k + 1) a0) := by
 intro a0 k
 obtain ⟨ih0, ih1, ih2, ih3, ih4⟩ := parterrelaw08_AreaApart.mono_l k
 unfold parterrelaw08_AreaApart.f
 repeat' first
   | (with_reducible exact ih0 _ _)
   | (with_reducible exact ih1 _ _ _ _)
   | (with_reducible exact ih2 _ _ _ _ _ _ _ _)
   | (with_reducible exact ih3 _ _ _ _ _ _ _ _ _ _ _ _ _ _)
   | (with_reducible exact ih4 _ _ _ _ _ _ _ _ _ _ _ _ _ _ _ _ _ _ _ _)
   | (with_reducible exact area_Good.mono _ _)
   | (with_reducible exact area_Rects.mono _ _)
   | (with_reducible exact parterrelaw08_Light.mono _ _)
   | (with_reducible exact parterrelaw08_lives.mono _)
   | (with_reducible exact LeO.refl _)
   | (with_reducible exact LeO.none _)
   | (with_reducible refine LeO.ite ?_ ?_)
   | (with_reducible refine LeO.bind ?_ (fun _ => ?_))
set_option maxHeartbeats 8000000 in
set_option maxRecDepth 100000 in
theorem parterrelaw08_AreaApart.calls (k : Nat) (A0 : Option Addr) (c0 : Nat) (l0 : List (List ByteArray)) (r : Bool) (w : World) (hr0 : Kd.C (Kd.slice 9 Kd.string) w A0 l0.length l0) (hc0 : l0.length ≤ c0) (h : parterrelaw08_AreaApart.f k l0 = some r) :
  Calls Tryd.prog 4 #[.slice A0 l0.length c0] w fun e w' => e = .returned (.bool r) ∧ Below w.heap.size w w' := by
 have hu33 := Tryd.underlying33
 have HR0 := Aside0.mk hr0
 have HC0 := Aside0.mk hc0
 clear hr0 hc0
 have HB := Aside0.mk (Below.refl w.heap.size w)
 have H : ((parterrelaw08_Light.f k l0).bind fun t289 => (if t289 = true then ((area_Good.f k l0).bind fun t290 => (parterrelaw08_AreaApart.j0 k l0 (!t290))) else (parterrelaw08_AreaApart.j0 k l0 true))) = some r := h
 clear h
 have HC2 := Aside0.mk H
 clear H
 go_enter Tryd.func4, Tryd.ntmps4
 go_upto_region 1 with (fail)
 go_cut [17] (fun v17 wc => ∃ (kq : Nat) (x17_1 : Bool), v17 = .bool x17_1 ∧ Aside0 (parterrelaw08_AreaApart.j0 kq l0 x17_1 = some r) ∧ Aside0 (kq ≤ k) ∧ Aside0 (Below w.heap.size w wc))
 case first =>
  have H := HC2.out
  clear HC2
  replace H := Option.bind_eq_some_iff.mp H
  obtain ⟨t289, A30, H⟩ := H
  try dsimp only at H
  have A3 := Aside0.mk A30
  clear A30
  by_cases c4 : t289 = true
  ·subst c4
   rw [if_pos rfl] at H
   replace H := Option.bind_eq_some_iff.mp H
   obtain ⟨t290, A50, H⟩ := H
   try dsimp only at H
   have A5 := Aside0.mk A50
   clear A50
   have H' := Aside0.mk H
   clear H
   go_wp2_with (first | ((with_reducible refine gate_callee (f := 12) rfl ?_); refine goesL_ (some 11) rfl rfl Tryd.func12 (by kernel_rfl) rfl #[.slice A0 l0.length c0] rfl goa_ ?_; (with_reducible refine (parterrelaw08_Light.calls k _ _ l0 true _ ?side1 ?side2 A3.out).mono ?_); (case side1 => repeat (first | exact (Kd.C_below HR0.out HB.out) | (with_reducible refine Kd.C_alloc ?_ _) | (with_reducible refine Kd.C_drewN ?_ _) | (with_reducible refine Kd.C_drew ?_))); (case side2 => exact HC0.out); rintro e w6 ⟨rfl, hb⟩; refine ⟨_, rfl, ?_⟩; have n0_ := Aside0.mk (below_step bel_ hb); clear HB; have HB := n0_; clear n0_; clear hb) | (go_at_call 13; (with_reducible refine (area_Good.calls k _ _ l0 t290 _ ?side1 ?side2 A5.out).mono ?_); (case side1 => repeat (first | exact (Kd.C_below HR0.out HB.out) | (with_reducible refine Kd.C_alloc ?_ _) | (with_reducible refine Kd.C_drewN ?_ _) | (with_reducible refine Kd.C_drew ?_))); (case side2 => exact HC0.out); rintro e w7 ⟨rfl, hb⟩; have n0_ := Aside0.mk (below_step bel_ hb); clear HB; have HB := n0_; clear n0_; clear hb))
   go_meet
   case rel => exact ⟨_, (!t290), rfs_, (by first | exact H' | (subst_vars; exact H')), ⟨ole_⟩, ⟨bel_⟩⟩
  ·replace c4 := Bool.eq_false_iff.mpr c4
   subst c4
   rw [if_neg (show ¬ (false = true) by decide)] at H
   have H' := Aside0.mk H
   clear H
   go_wp2_with (first | ((with_reducible refine gate_callee (f := 12) rfl ?_); refine goesL_ (some 11) rfl rfl Tryd.func12 (by kernel_rfl) rfl #[.slice A0 l0.length c0] rfl goa_ ?_; (with_reducible refine (parterrelaw08_Light.calls k _ _ l0 false _ ?side1 ?side2 A3.out).mono ?_); (case side1 => repeat (first | exact (Kd.C_below HR0.out HB.out) | (with_reducible refine Kd.C_alloc ?_ _) | (with_reducible refine Kd.C_drewN ?_ _) | (with_reducible refine Kd.C_drew ?_))); (case side2 => exact HC0.out); rintro e w8 ⟨rfl, hb⟩; refine ⟨_, rfl, ?_⟩; have n0_ := Aside0.mk (below_step bel_ hb); clear HB; have HB := n0_; clear n0_; clear hb))
   go_meet
   case rel => exact ⟨_, (true), rfs_, (by first | exact H' | (subst_vars; exact H')), ⟨ole_⟩, ⟨bel_⟩⟩
 case rest =>
  clear HC2
  try clear c1
  try clear p2
  try clear c4
  obtain ⟨kq, x17_1, rfl, HA, HJ1, HB⟩ := hcut
  cases kq with
  | zero => exact absurd HA.out (by simp [parterrelaw08_AreaApart.j0])
  | succ kj1 =>
   have H := HA.out
   clear HA
   simp only [parterrelaw08_AreaApart.j0] at H
   by_cases c9 : x17_1 = true
   ·subst c9
    rw [if_pos rfl] at H
    replace H := Option.bind_eq_some_iff.mp H
    obtain ⟨t291, A100, H⟩ := H
    try dsimp only at H
    have A10 := Aside0.mk A100
    clear A100
    obtain rfl := Option.some.inj H
    go_wp2_with (first | ((with_reducible refine gate_callee (f := 8) rfl ?_); refine goesL_ (some 18) rfl rfl Tryd.func8 (by kernel_rfl) rfl #[] rfl goa_ ?_; (with_reducible refine (parterrelaw08_lives.calls kj1  t291 _ A10.out).mono ?_); rintro e w11 ⟨rfl, hb⟩; refine ⟨_, rfl, ?_⟩; have n0_ := Aside0.mk (below_step bel_ hb); clear HB; have HB := n0_; clear n0_; clear hb))
    go_ret
    exact ⟨rsl_, bel_⟩
   ·replace c9 := Bool.eq_false_iff.mpr c9
    subst c9
    rw [if_neg (show ¬ (false = true) by decide)] at H
    replace H := Option.bind_eq_some_iff.mp H
    obtain ⟨t292, A120, H⟩ := H
    try dsimp only at H
    have A12 := Aside0.mk A120
    clear A120
    have H' := Aside0.mk H
    clear H
    go_wp2_with (first | ((with_reducible refine gate_callee (f := 14) rfl ?_); refine goesL_ (some 20) rfl rfl Tryd.func14 (by kernel_rfl) rfl #[.slice A0 l0.length c0] rfl goa_ ?_; (with_reducible refine (area_Rects.calls kj1 _ _ l0 t292 _ ?side1 ?side2 A12.out).mono ?_); (case side1 => repeat (first | exact (Kd.C_below HR0.out HB.out) | (with_reducible refine Kd.C_alloc ?_ _) | (with_reducible refine Kd.C_drewN ?_ _) | (with_reducible refine Kd.C_drew ?_))); (case side2 => exact HC0.out); rintro e w13 ⟨v293, rfl, ho0, hb⟩; refine ⟨_, rfl, ?_⟩; have n0_ := Aside0.mk (Kd.R_lower ho0 (below_size bel_)); have n1_ := Aside0.mk (below_step bel_ hb); clear HB; have HO294 := n0_; have HB := n1_; clear n0_ n1_; (try clear hb); (try clear hb2); (try clear hk); (try clear hi); (try clear ho0)))
    go_loopg [23] kj1 (fun kq v23 w' => ∃ (x23_2 : Int), v23 = .int .i64 x23_2 ∧ Aside0 (parterrelaw08_AreaApart.l0 kq l0 t292 (l0.length : Int) x23_2 = some r) ∧ Aside0 (kq ≤ kj1) ∧ Aside0 (Kd.R k33 33 w' w.heap.size (fun _ => True) v293 t292) ∧ Aside0 (Below w.heap.size w w'))
    case atStart => exact ⟨(0), rfs_, H', ⟨Nat.le_refl _⟩, ⟨by (with_reducible repeat (first | apply Kd.R_alloc | apply Kd.R_drewN | apply Kd.R_drew)); exact HO294.out⟩, ⟨bel_⟩⟩
    case round =>
     clear H'
     try clear c1
     try clear p2
     try clear c4
     try clear c8
     try clear c9
     try clear c12
     try clear p2
     obtain ⟨x23_2, rfl, HA, HK2, HO_3, HB⟩ := hrel
     cases gk with
     | zero => exact absurd HA.out (by simp [parterrelaw08_AreaApart.l0])
     | succ k2 =>
      have H := HA.out
      clear HA
      simp only [parterrelaw08_AreaApart.l0] at H
      by_cases c14 : x23_2 < (l0.length : Int)
      ·rw [if_pos c14] at H
       have c14b0 : decide (x23_2 < (l0.length : Int)) = true := decide_eq_true c14
       clear c14
       by_cases c15 : 0 ≤ x23_2
       ·rw [if_pos c15] at H
        have c15b0 : decide (0 ≤ x23_2) = true := decide_eq_true c15
        clear c15
        by_cases c16 : x23_2 < (l0.length : Int)
        ·rw [if_pos c16] at H
         have c16b0 : decide (x23_2 < (l0.length : Int)) = true := decide_eq_true c16
         clear c16
         have H' := Aside0.mk H
         clear H
         have p296 : 0 ≤ (x23_2 : Int) := of_decide_eq_true (by first | (with_reducible assumption) | assumption)
         have q296 : x23_2 < (l0.length : Int) := of_decide_eq_true (by first | (with_reducible assumption) | assumption)
         obtain ⟨ad296, A296_0, c296_0, e296, hx296_0, hl296_0, hi296_0⟩ := at_L1 HR0.out x23_2 p296 q296
         cases e296
         replace hx296_0 := (HB.out.cell (World.block_lt_of_cell? w _ hx296_0)).trans hx296_0
         have HR296_0 := Aside0.mk hi296_0
         have HC296_0 := Aside0.mk hl296_0
         clear hi296_0 hl296_0
         replace p296 := eq_true p296
         replace q296 := eq_true q296
         go_wp2
         go_loopg [31] k2 (fun kq v31 w' => ∃ (x31_3 : Int), v31 = .int .i64 x31_3 ∧ Aside0 (parterrelaw08_AreaApart.l1 kq l0 t292 x23_2 (l0.length : Int) x23_2 (rd_L1 l0 x23_2) ((rd_L1 l0 x23_2).length : Int) x31_3 = some r) ∧ Aside0 (kq ≤ k2) ∧ Aside0 (Kd.R k33 33 w' w.heap.size (fun _ => True) v293 t292) ∧ Aside0 (Below w.heap.size w w'))
         case atStart => exact ⟨(0), rfs_, H', ⟨Nat.le_refl _⟩, ⟨by (with_reducible repeat (first | apply Kd.R_alloc | apply Kd.R_drewN | apply Kd.R_drew)); exact HO_3.out⟩, ⟨bel_⟩⟩
         case round =>
          clear H'
          try clear c1
          try clear c2
          try clear p2
          try clear q2
          try clear hx2
          try clear c4
          try clear c8
          try clear c9
          try clear c12
          try clear c14
          try clear c14b0
          try clear c15
          try clear c15b0
          try clear c16
          try clear c16b0
          try clear hx296_0
          try clear p2
          try clear p296
          try clear q296
          obtain ⟨x31_3, rfl, HA, HK3, HO_3, HB⟩ := hrel
          cases gk with
          | zero => exact absurd HA.out (by simp [parterrelaw08_AreaApart.l1])
          | succ k3 =>
           have H := HA.out
           clear HA
           simp only [parterrelaw08_AreaApart.l1] at H
           by_cases c17 : x31_3 < ((rd_L1 l0 x23_2).length : Int)
           ·rw [if_pos c17] at H
            have c17b0 : decide (x31_3 < ((rd_L1 l0 x23_2).length : Int)) = true := decide_eq_true c17
            clear c17
            by_cases c18 : 0 ≤ x31_3
            ·rw [if_pos c18] at H
             have c18b0 : decide (0 ≤ x31_3) = true := decide_eq_true c18
             clear c18
             by_cases c19 : x31_3 < ((rd_L1 l0 x23_2).length : Int)
             ·rw [if_pos c19] at H
              have c19b0 : decide (x31_3 < ((rd_L1 l0 x23_2).length : Int)) = true := decide_eq_true c19
              clear c19
              have H' := Aside0.mk H
              clear H
              have p297 : 0 ≤ (x31_3 : Int) := of_decide_eq_true (by first | (with_reducible assumption) | assumption)
              have q297 : x31_3 < ((rd_L1 l0 x23_2).length : Int) := of_decide_eq_true (by first | (with_reducible assumption) | assumption)
              obtain ⟨ad297, e297, hx297_0⟩ := Kd.at_string HR296_0.out x31_3 p297 q297
              cases e297
              replace hx297_0 := (HB.out.cell (World.block_lt_of_cell? w _ hx297_0)).trans hx297_0
              replace p297 := eq_true p297
              replace q297 := eq_true q297
              obtain ⟨Ao20, co20, eo20⟩ := Kd.R_slice HO_3.out
              subst eo20
              go_wp2
              go_loopg [7, 38] k3 (fun kq v7 v38 w' => ∃ (x7_4 : Int) (x38_4 : Int), v7 = .int .i64 x7_4 ∧ v38 = .int .i64 x38_4 ∧ Aside0 (parterrelaw08_AreaApart.l2 kq l0 t292 x23_2 x31_3 (rdOf ByteArray.empty (rd_L1 l0 x23_2) x31_3) x7_4 (l0.length : Int) x23_2 (rd_L1 l0 x23_2) ((rd_L1 l0 x23_2).length : Int) x31_3 t292 (t292.length : Int) x38_4 = some r) ∧ Aside0 (kq ≤ k3) ∧ Aside0 (Kd.R k33 33 w' w.heap.size (fun _ => True) (.slice Ao20 t292.length co20) t292) ∧ Aside0 (Kd.R k33 33 w' w.heap.size (fun _ => True) (.slice Ao20 t292.length co20) t292) ∧ Aside0 (Below w.heap.size w w'))
              case atStart => exact ⟨(0), (0), rfs_, rfs_, H', ⟨Nat.le_refl _⟩, ⟨by (with_reducible repeat (first | apply Kd.R_alloc | apply Kd.R_drewN | apply Kd.R_drew)); exact HO_3.out⟩, ⟨by (with_reducible repeat (first | apply Kd.R_alloc | apply Kd.R_drewN | apply Kd.R_drew)); exact HO_3.out⟩, ⟨bel_⟩⟩
              case round =>
               clear H'
               try clear c1
               try clear c2
               try clear p2
               try clear q2
               try clear hx2
               try clear c4
               try clear c8
               try clear c9
               try clear c12
               try clear c14
               try clear c14b0
               try clear c15
               try clear c15b0
               try clear c16
               try clear c16b0
               try clear c17
               try clear c17b0
               try clear c18
               try clear c18b0
               try clear c19
               try clear c19b0
               try clear hx296_0
               try clear hx297_0
               try clear p2
               try clear p296
               try clear p297
               try clear q2
               try clear q296
               try clear q297
               obtain ⟨x7_4, x38_4, rfl, rfl, HA, HK4, HO_3, HO_36, HB⟩ := hrel
               cases gk with
               | zero => exact absurd HA.out (by simp [parterrelaw08_AreaApart.l2])
               | succ k4 =>
                have H := HA.out
                clear HA
                simp only [parterrelaw08_AreaApart.l2] at H
                by_cases c21 : x38_4 < (t292.length : Int)
                ·rw [if_pos c21] at H
                 have c21b0 : decide (x38_4 < (t292.length : Int)) = true := decide_eq_true c21
                 clear c21
                 by_cases c22 : 0 ≤ x38_4
                 ·rw [if_pos c22] at H
                  have c22b0 : decide (0 ≤ x38_4) = true := decide_eq_true c22
                  clear c22
                  by_cases c23 : x38_4 < (t292.length : Int)
                  ·rw [if_pos c23] at H
                   have c23b0 : decide (x38_4 < (t292.length : Int)) = true := decide_eq_true c23
                   clear c23
                   have HC24 := Aside0.mk H
                   clear H
                   have p298 : 0 ≤ (x38_4 : Int) := of_decide_eq_true (by first | (with_reducible assumption) | assumption)
                   have q298 : x38_4 < (t292.length : Int) := of_decide_eq_true (by first | (with_reducible assumption) | assumption)
                   obtain ⟨ad298, e298, hx298_0, hx298_1, hx298_2, hx298_3, hx298_4⟩ := at_T33 (Kd.R_reads' HO_36.out).2.2 x38_4 p298 q298
                   cases e298
                   replace p298 := eq_true p298
                   replace q298 := eq_true q298
                   go_upto_region 14 with (first | ((with_reducible refine gate_dst (N := 9) rfl ?_); refine box_event ?hg (N := 9) ?hd (cs := #[.string (⟨#[]⟩ : ByteArray), .int .i64 0, .int .i64 0, .int .i64 0, .int .i64 0]) (t := 33) ?hr ?_; (case hd => rfl); (case hg => rfl); (case hr => first | (go_simp; done) | (go_simp; rfl)); intro gb299 hg w25 hbox hb; have n0_ := Aside0.mk (Kd.R_below (Kd.R_elderB (by (with_reducible repeat (first | apply Kd.R_alloc | apply Kd.R_drewN | apply Kd.R_drew)); exact HO_3.out) gb299 (Nat.le_of_eq hg.symm)) hb); have n1_ := Aside0.mk (Kd.R_below (Kd.R_elderB (by (with_reducible repeat (first | apply Kd.R_alloc | apply Kd.R_drewN | apply Kd.R_drew)); exact HO_36.out) gb299 (Nat.le_of_eq hg.symm)) hb); have n2_ := Aside0.mk (below_step bel_ hb); have n3_ := Aside0.mk (hbox); have n4_ := Aside0.mk ((bsz_ hg : w.heap.size ≤ gb299)); have n5_ := Aside0.mk ((bsz_ hg : w.heap.size ≤ gb299)); clear HO_3; clear HO_36; clear HB; have HO_3 := n0_; have HO_36 := n1_; have HB := n2_; have BK299 := n3_; have GW299 := n4_; have GE299 := n5_; clear n0_ n1_ n2_ n3_ n4_ n5_; clear hb hbox hg; have hcz26_0 : w25.cell? ⟨gb299, 0, none⟩ = some (.string (⟨#[]⟩ : ByteArray)) := (blk_cell BK299.out 0).trans rfl; have hcz26_1 : w25.cell? ⟨gb299, 1, none⟩ = some (.int .i64 0) := (blk_cell BK299.out 1).trans rfl; have hcz26_2 : w25.cell? ⟨gb299, 2, none⟩ = some (.int .i64 0) := (blk_cell BK299.out 2).trans rfl; have hcz26_3 : w25.cell? ⟨gb299, 3, none⟩ = some (.int .i64 0) := (blk_cell BK299.out 3).trans rfl; have hcz26_4 : w25.cell? ⟨gb299, 4, none⟩ = some (.int .i64 0) := (blk_cell BK299.out 4).trans rfl; have hfz26_0 := blk_frozen BK299.out 0; have hfz26_1 := blk_frozen BK299.out 1; have hfz26_2 := blk_frozen BK299.out 2; have hfz26_3 := blk_frozen BK299.out 3; have hfz26_4 := blk_frozen BK299.out 4))
                   (try simp only [Act.put, List.setIfInBounds_toArray, List.set_cons_zero, List.set_cons_succ])
                   go_cut [69] (fun v69 wc => ∃ (kq : Nat) (x69_23 : Bool), v69 = .bool x69_23 ∧ Aside0 (parterrelaw08_AreaApart.j4 kq l0 t292 x23_2 x31_3 (rdOf ByteArray.empty (rd_L1 l0 x23_2) x31_3) x7_4 (l0.length : Int) x23_2 (rd_L1 l0 x23_2) ((rd_L1 l0 x23_2).length : Int) x31_3 t292 (t292.length : Int) x38_4 x69_23 ((rd_T33 t292 x38_4).f0) ((rd_T33 t292 x38_4).f1) ((rd_T33 t292 x38_4).f2) ((rd_T33 t292 x38_4).f3) ((rd_T33 t292 x38_4).f4) = some r) ∧ Aside0 (kq ≤ k4) ∧ Aside0 (Kd.R k33 33 wc w.heap.size (fun k_ => k_ ≠ gb299) (.slice (some ad298) t292.length co20) t292) ∧ Aside0 (Kd.R k33 33 wc w.heap.size (fun k_ => k_ ≠ gb299) (.slice (some ad298) t292.length co20) t292) ∧ Aside0 (wc.heap[gb299]? = some (.cells #[.string ((rd_T33 t292 x38_4).f0), .int .i64 ((rd_T33 t292 x38_4).f1), .int .i64 ((rd_T33 t292 x38_4).f2), .int .i64 ((rd_T33 t292 x38_4).f3), .int .i64 ((rd_T33 t292 x38_4).f4)] 33 (0, 0))) ∧ Aside0 (Below w.heap.size w wc))
                   case first =>
                    have H := HC24.out
                    clear HC24
                    by_cases c27 : x23_2 ≥ ((rd_T33 t292 x38_4).f1)
                    ·rw [if_pos c27] at H
                     have c27b0 : decide (((rd_T33 t292 x38_4).f1) ≤ x23_2) = true := decide_eq_true c27
                     clear c27
                     (first | rw [c27b0] | (simp only [i64_w, i32_w]; rw [c27b0]) | skip)
                     by_cases c28 : x23_2 < (wrap64 (((rd_T33 t292 x38_4).f1) + ((rd_T33 t292 x38_4).f3)))
                     ·rw [if_pos c28] at H
                      have c28b0 : decide (x23_2 < (wrap64 (((rd_T33 t292 x38_4).f1) + ((rd_T33 t292 x38_4).f3)))) = true := decide_eq_true c28
                      clear c28
                      by_cases c29 : x31_3 ≥ ((rd_T33 t292 x38_4).f2)
                      ·rw [if_pos c29] at H
                       have c29b0 : decide (((rd_T33 t292 x38_4).f2) ≤ x31_3) = true := decide_eq_true c29
                       clear c29
                       have H' := Aside0.mk H
                       clear H
                       have hcz30_0 : w25.cell? ⟨gb299, 0, none⟩ = some (.string (⟨#[]⟩ : ByteArray)) := (blk_cell BK299.out 0).trans rfl
                       have hcz30_1 : w25.cell? ⟨gb299, 1, none⟩ = some (.int .i64 0) := (blk_cell BK299.out 1).trans rfl
                       have hcz30_2 : w25.cell? ⟨gb299, 2, none⟩ = some (.int .i64 0) := (blk_cell BK299.out 2).trans rfl
                       have hcz30_3 : w25.cell? ⟨gb299, 3, none⟩ = some (.int .i64 0) := (blk_cell BK299.out 3).trans rfl
                       have hcz30_4 : w25.cell? ⟨gb299, 4, none⟩ = some (.int .i64 0) := (blk_cell BK299.out 4).trans rfl
                       have hfz30_0 := blk_frozen BK299.out 0
                       have hfz30_1 := blk_frozen BK299.out 1
                       have hfz30_2 := blk_frozen BK299.out 2
                       have hfz30_3 := blk_frozen BK299.out 3
                       have hfz30_4 := blk_frozen BK299.out 4
                       go_wp2
                       go_meet
                       case rel => exact ⟨_, (decide (x31_3 < (wrap64 (((rd_T33 t292 x38_4).f2) + ((rd_T33 t292 x38_4).f4))))), rfs_, H', ⟨by have := HJ1.out; have := HK2.out; have := HK3.out; have := HK4.out; first | omega | exact Nat.le_refl _⟩, ⟨by (with_reducible repeat (first | apply Kd.R_alloc | apply Kd.R_drewN | apply Kd.R_drew)); exact Kd.R_mono (Kd.R_far (p := ⟨gb299, 4, none⟩) (Kd.R_far (p := ⟨gb299, 3, none⟩) (Kd.R_far (p := ⟨gb299, 2, none⟩) (Kd.R_far (p := ⟨gb299, 1, none⟩) (Kd.R_far (p := ⟨gb299, 0, none⟩) (Kd.R_mono HO_3.out (fun k_ hk => (⟨hk, hk.2⟩ : _ ∧ k_ ≠ gb299))) (fun _ hk => hk.2) (.string ((rd_T33 t292 x38_4).f0))) (fun _ hk => hk.2) (.int .i64 ((rd_T33 t292 x38_4).f1))) (fun _ hk => hk.2) (.int .i64 ((rd_T33 t292 x38_4).f2))) (fun _ hk => hk.2) (.int .i64 ((rd_T33 t292 x38_4).f3))) (fun _ hk => hk.2) (.int .i64 ((rd_T33 t292 x38_4).f4))) (fun _ hk => hk.1.2)⟩, ⟨by (with_reducible repeat (first | apply Kd.R_alloc | apply Kd.R_drewN | apply Kd.R_drew)); exact Kd.R_mono (Kd.R_far (p := ⟨gb299, 4, none⟩) (Kd.R_far (p := ⟨gb299, 3, none⟩) (Kd.R_far (p := ⟨gb299, 2, none⟩) (Kd.R_far (p := ⟨gb299, 1, none⟩) (Kd.R_far (p := ⟨gb299, 0, none⟩) (Kd.R_mono HO_36.out (fun k_ hk => (⟨hk, hk.2⟩ : _ ∧ k_ ≠ gb299))) (fun _ hk => hk.2) (.string ((rd_T33 t292 x38_4).f0))) (fun _ hk => hk.2) (.int .i64 ((rd_T33 t292 x38_4).f1))) (fun _ hk => hk.2) (.int .i64 ((rd_T33 t292 x38_4).f2))) (fun _ hk => hk.2) (.int .i64 ((rd_T33 t292 x38_4).f3))) (fun _ hk => hk.2) (.int .i64 ((rd_T33 t292 x38_4).f4))) (fun _ hk => hk.1.2)⟩, ⟨by (with_reducible repeat (first | refine blk_drewN ?_ _ | refine blk_drew ?_ | refine blk_alloc ?_ _)); refine blk_put (cs := #[.string ((rd_T33 t292 x38_4).f0), .int .i64 ((rd_T33 t292 x38_4).f1), .int .i64 ((rd_T33 t292 x38_4).f2), .int .i64 ((rd_T33 t292 x38_4).f3), .int .i64 0]) ?_ 4 _ rfl; (with_reducible repeat (first | refine blk_drewN ?_ _ | refine blk_drew ?_ | refine blk_alloc ?_ _)); refine blk_put (cs := #[.string ((rd_T33 t292 x38_4).f0), .int .i64 ((rd_T33 t292 x38_4).f1), .int .i64 ((rd_T33 t292 x38_4).f2), .int .i64 0, .int .i64 0]) ?_ 3 _ rfl; (with_reducible repeat (first | refine blk_drewN ?_ _ | refine blk_drew ?_ | refine blk_alloc ?_ _)); refine blk_put (cs := #[.string ((rd_T33 t292 x38_4).f0), .int .i64 ((rd_T33 t292 x38_4).f1), .int .i64 0, .int .i64 0, .int .i64 0]) ?_ 2 _ rfl; (with_reducible repeat (first | refine blk_drewN ?_ _ | refine blk_drew ?_ | refine blk_alloc ?_ _)); refine blk_put (cs := #[.string ((rd_T33 t292 x38_4).f0), .int .i64 0, .int .i64 0, .int .i64 0, .int .i64 0]) ?_ 1 _ rfl; (with_reducible repeat (first | refine blk_drewN ?_ _ | refine blk_drew ?_ | refine blk_alloc ?_ _)); refine blk_put (cs := #[.string (⟨#[]⟩ : ByteArray), .int .i64 0, .int .i64 0, .int .i64 0, .int .i64 0]) ?_ 0 _ rfl; (with_reducible repeat (first | refine blk_drewN ?_ _ | refine blk_drew ?_ | refine blk_alloc ?_ _)); exact BK299.out⟩, ⟨bel_⟩⟩
                      ·rw [if_neg c29] at H
                       have c29b0 : decide (((rd_T33 t292 x38_4).f2) ≤ x31_3) = false := decide_eq_false c29
                       clear c29
                       have H' := Aside0.mk H
                       clear H
                       have hcz31_0 : w25.cell? ⟨gb299, 0, none⟩ = some (.string (⟨#[]⟩ : ByteArray)) := (blk_cell BK299.out 0).trans rfl
                       have hcz31_1 : w25.cell? ⟨gb299, 1, none⟩ = some (.int .i64 0) := (blk_cell BK299.out 1).trans rfl
                       have hcz31_2 : w25.cell? ⟨gb299, 2, none⟩ = some (.int .i64 0) := (blk_cell BK299.out 2).trans rfl
                       have hcz31_3 : w25.cell? ⟨gb299, 3, none⟩ = some (.int .i64 0) := (blk_cell BK299.out 3).trans rfl
                       have hcz31_4 : w25.cell? ⟨gb299, 4, none⟩ = some (.int .i64 0) := (blk_cell BK299.out 4).trans rfl
                       have hfz31_0 := blk_frozen BK299.out 0
                       have hfz31_1 := blk_frozen BK299.out 1
                       have hfz31_2 := blk_frozen BK299.out 2
                       have hfz31_3 := blk_frozen BK299.out 3
                       have hfz31_4 := blk_frozen BK299.out 4
                       go_wp2
                       go_meet
                       case rel => exact ⟨_, (false), rfs_, H', ⟨by have := HJ1.out; have := HK2.out; have := HK3.out; have := HK4.out; first | omega | exact Nat.le_refl _⟩, ⟨by (with_reducible repeat (first | apply Kd.R_alloc | apply Kd.R_drewN | apply Kd.R_drew)); exact Kd.R_mono (Kd.R_far (p := ⟨gb299, 4, none⟩) (Kd.R_far (p := ⟨gb299, 3, none⟩) (Kd.R_far (p := ⟨gb299, 2, none⟩) (Kd.R_far (p := ⟨gb299, 1, none⟩) (Kd.R_far (p := ⟨gb299, 0, none⟩) (Kd.R_mono HO_3.out (fun k_ hk => (⟨hk, hk.2⟩ : _ ∧ k_ ≠ gb299))) (fun _ hk => hk.2) (.string ((rd_T33 t292 x38_4).f0))) (fun _ hk => hk.2) (.int .i64 ((rd_T33 t292 x38_4).f1))) (fun _ hk => hk.2) (.int .i64 ((rd_T33 t292 x38_4).f2))) (fun _ hk => hk.2) (.int .i64 ((rd_T33 t292 x38_4).f3))) (fun _ hk => hk.2) (.int .i64 ((rd_T33 t292 x38_4).f4))) (fun _ hk => hk.1.2)⟩, ⟨by (with_reducible repeat (first | apply Kd.R_alloc | apply Kd.R_drewN | apply Kd.R_drew)); exact Kd.R_mono (Kd.R_far (p := ⟨gb299, 4, none⟩) (Kd.R_far (p := ⟨gb299, 3, none⟩) (Kd.R_far (p := ⟨gb299, 2, none⟩) (Kd.R_far (p := ⟨gb299, 1, none⟩) (Kd.R_far (p := ⟨gb299, 0, none⟩) (Kd.R_mono HO_36.out (fun k_ hk => (⟨hk, hk.2⟩ : _ ∧ k_ ≠ gb299))) (fun _ hk => hk.2) (.string ((rd_T33 t292 x38_4).f0))) (fun _ hk => hk.2) (.int .i64 ((rd_T33 t292 x38_4).f1))) (fun _ hk => hk.2) (.int .i64 ((rd_T33 t292 x38_4).f2))) (fun _ hk => hk.2) (.int .i64 ((rd_T33 t292 x38_4).f3))) (fun _ hk => hk.2) (.int .i64 ((rd_T33 t292 x38_4).f4))) (fun _ hk => hk.1.2)⟩, ⟨by (with_reducible repeat (first | refine blk_drewN ?_ _ | refine blk_drew ?_ | refine blk_alloc ?_ _)); refine blk_put (cs := #[.string ((rd_T33 t292 x38_4).f0), .int .i64 ((rd_T33 t292 x38_4).f1), .int .i64 ((rd_T33 t292 x38_4).f2), .int .i64 ((rd_T33 t292 x38_4).f3), .int .i64 0]) ?_ 4 _ rfl; (with_reducible repeat (first | refine blk_drewN ?_ _ | refine blk_drew ?_ | refine blk_alloc ?_ _)); refine blk_put (cs := #[.string ((rd_T33 t292 x38_4).f0), .int .i64 ((rd_T33 t292 x38_4).f1), .int .i64 ((rd_T33 t292 x38_4).f2), .int .i64 0, .int .i64 0]) ?_ 3 _ rfl; (with_reducible repeat (first | refine blk_drewN ?_ _ | refine blk_drew ?_ | refine blk_alloc ?_ _)); refine blk_put (cs := #[.string ((rd_T33 t292 x38_4).f0), .int .i64 ((rd_T33 t292 x38_4).f1), .int .i64 0, .int .i64 0, .int .i64 0]) ?_ 2 _ rfl; (with_reducible repeat (first | refine blk_drewN ?_ _ | refine blk_drew ?_ | refine blk_alloc ?_ _)); refine blk_put (cs := #[.string ((rd_T33 t292 x38_4).f0), .int .i64 0, .int .i64 0, .int .i64 0, .int .i64 0]) ?_ 1 _ rfl; (with_reducible repeat (first | refine blk_drewN ?_ _ | refine blk_drew ?_ | refine blk_alloc ?_ _)); refine blk_put (cs := #[.string (⟨#[]⟩ : ByteArray), .int .i64 0, .int .i64 0, .int .i64 0, .int .i64 0]) ?_ 0 _ rfl; (with_reducible repeat (first | refine blk_drewN ?_ _ | refine blk_drew ?_ | refine blk_alloc ?_ _)); exact BK299.out⟩, ⟨bel_⟩⟩
                     ·rw [if_neg c28] at H
                      have c28b0 : decide (x23_2 < (wrap64 (((rd_T33 t292 x38_4).f1) + ((rd_T33 t292 x38_4).f3)))) = false := decide_eq_false c28
                      clear c28
                      have H' := Aside0.mk H
                      clear H
                      have hcz32_0 : w25.cell? ⟨gb299, 0, none⟩ = some (.string (⟨#[]⟩ : ByteArray)) := (blk_cell BK299.out 0).trans rfl
                      have hcz32_1 : w25.cell? ⟨gb299, 1, none⟩ = some (.int .i64 0) := (blk_cell BK299.out 1).trans rfl
                      have hcz32_2 : w25.cell? ⟨gb299, 2, none⟩ = some (.int .i64 0) := (blk_cell BK299.out 2).trans rfl
                      have hcz32_3 : w25.cell? ⟨gb299, 3, none⟩ = some (.int .i64 0) := (blk_cell BK299.out 3).trans rfl
                      have hcz32_4 : w25.cell? ⟨gb299, 4, none⟩ = some (.int .i64 0) := (blk_cell BK299.out 4).trans rfl
                      have hfz32_0 := blk_frozen BK299.out 0
                      have hfz32_1 := blk_frozen BK299.out 1
                      have hfz32_2 := blk_frozen BK299.out 2
                      have hfz32_3 := blk_frozen BK299.out 3
                      have hfz32_4 := blk_frozen BK299.out 4
                      go_wp2
                      go_meet
                      case rel => exact ⟨_, (false), rfs_, H', ⟨by have := HJ1.out; have := HK2.out; have := HK3.out; have := HK4.out; first | omega | exact Nat.le_refl _⟩, ⟨by (with_reducible repeat (first | apply Kd.R_alloc | apply Kd.R_drewN | apply Kd.R_drew)); exact Kd.R_mono (Kd.R_far (p := ⟨gb299, 4, none⟩) (Kd.R_far (p := ⟨gb299, 3, none⟩) (Kd.R_far (p := ⟨gb299, 2, none⟩) (Kd.R_far (p := ⟨gb299, 1, none⟩) (Kd.R_far (p := ⟨gb299, 0, none⟩) (Kd.R_mono HO_3.out (fun k_ hk => (⟨hk, hk.2⟩ : _ ∧ k_ ≠ gb299))) (fun _ hk => hk.2) (.string ((rd_T33 t292 x38_4).f0))) (fun _ hk => hk.2) (.int .i64 ((rd_T33 t292 x38_4).f1))) (fun _ hk => hk.2) (.int .i64 ((rd_T33 t292 x38_4).f2))) (fun _ hk => hk.2) (.int .i64 ((rd_T33 t292 x38_4).f3))) (fun _ hk => hk.2) (.int .i64 ((rd_T33 t292 x38_4).f4))) (fun _ hk => hk.1.2)⟩, ⟨by (with_reducible repeat (first | apply Kd.R_alloc | apply Kd.R_drewN | apply Kd.R_drew)); exact Kd.R_mono (Kd.R_far (p := ⟨gb299, 4, none⟩) (Kd.R_far (p := ⟨gb299, 3, none⟩) (Kd.R_far (p := ⟨gb299, 2, none⟩) (Kd.R_far (p := ⟨gb299, 1, none⟩) (Kd.R_far (p := ⟨gb299, 0, none⟩) (Kd.R_mono HO_36.out (fun k_ hk => (⟨hk, hk.2⟩ : _ ∧ k_ ≠ gb299))) (fun _ hk => hk.2) (.string ((rd_T33 t292 x38_4).f0))) (fun _ hk => hk.2) (.int .i64 ((rd_T33 t292 x38_4).f1))) (fun _ hk => hk.2) (.int .i64 ((rd_T33 t292 x38_4).f2))) (fun _ hk => hk.2) (.int .i64 ((rd_T33 t292 x38_4).f3))) (fun _ hk => hk.2) (.int .i64 ((rd_T33 t292 x38_4).f4))) (fun _ hk => hk.1.2)⟩, ⟨by (with_reducible repeat (first | refine blk_drewN ?_ _ | refine blk_drew ?_ | refine blk_alloc ?_ _)); refine blk_put (cs := #[.string ((rd_T33 t292 x38_4).f0), .int .i64 ((rd_T33 t292 x38_4).f1), .int .i64 ((rd_T33 t292 x38_4).f2), .int .i64 ((rd_T33 t292 x38_4).f3), .int .i64 0]) ?_ 4 _ rfl; (with_reducible repeat (first | refine blk_drewN ?_ _ | refine blk_drew ?_ | refine blk_alloc ?_ _)); refine blk_put (cs := #[.string ((rd_T33 t292 x38_4).f0), .int .i64 ((rd_T33 t292 x38_4).f1), .int .i64 ((rd_T33 t292 x38_4).f2), .int .i64 0, .int .i64 0]) ?_ 3 _ rfl; (with_reducible repeat (first | refine blk_drewN ?_ _ | refine blk_drew ?_ | refine blk_alloc ?_ _)); refine blk_put (cs := #[.string ((rd_T33 t292 x38_4).f0), .int .i64 ((rd_T33 t292 x38_4).f1), .int .i64 0, .int .i64 0, .int .i64 0]) ?_ 2 _ rfl; (with_reducible repeat (first | refine blk_drewN ?_ _ | refine blk_drew ?_ | refine blk_alloc ?_ _)); refine blk_put (cs := #[.string ((rd_T33 t292 x38_4).f0), .int .i64 0, .int .i64 0, .int .i64 0, .int .i64 0]) ?_ 1 _ rfl; (with_reducible repeat (first | refine blk_drewN ?_ _ | refine blk_drew ?_ | refine blk_alloc ?_ _)); refine blk_put (cs := #[.string (⟨#[]⟩ : ByteArray), .int .i64 0, .int .i64 0, .int .i64 0, .int .i64 0]) ?_ 0 _ rfl; (with_reducible repeat (first | refine blk_drewN ?_ _ | refine blk_drew ?_ | refine blk_alloc ?_ _)); exact BK299.out⟩, ⟨bel_⟩⟩
                    ·rw [if_neg c27] at H
                     have c27b0 : decide (((rd_T33 t292 x38_4).f1) ≤ x23_2) = false := decide_eq_false c27
                     clear c27
                     (first | rw [c27b0] | (simp only [i64_w, i32_w]; rw [c27b0]) | skip)
                     have H' := Aside0.mk H
                     clear H
                     have hcz33_0 : w25.cell? ⟨gb299, 0, none⟩ = some (.string (⟨#[]⟩ : ByteArray)) := (blk_cell BK299.out 0).trans rfl
                     have hcz33_1 : w25.cell? ⟨gb299, 1, none⟩ = some (.int .i64 0) := (blk_cell BK299.out 1).trans rfl
                     have hcz33_2 : w25.cell? ⟨gb299, 2, none⟩ = some (.int .i64 0) := (blk_cell BK299.out 2).trans rfl
                     have hcz33_3 : w25.cell? ⟨gb299, 3, none⟩ = some (.int .i64 0) := (blk_cell BK299.out 3).trans rfl
                     have hcz33_4 : w25.cell? ⟨gb299, 4, none⟩ = some (.int .i64 0) := (blk_cell BK299.out 4).trans rfl
                     have hfz33_0 := blk_frozen BK299.out 0
                     have hfz33_1 := blk_frozen BK299.out 1
                     have hfz33_2 := blk_frozen BK299.out 2
                     have hfz33_3 := blk_frozen BK299.out 3
                     have hfz33_4 := blk_frozen BK299.out 4
                     go_wp2
                     go_meet
                     case rel => exact ⟨_, (false), rfs_, H', ⟨by have := HJ1.out; have := HK2.out; have := HK3.out; have := HK4.out; first | omega | exact Nat.le_refl _⟩, ⟨by (with_reducible repeat (first | apply Kd.R_alloc | apply Kd.R_drewN | apply Kd.R_drew)); exact Kd.R_mono (Kd.R_far (p := ⟨gb299, 4, none⟩) (Kd.R_far (p := ⟨gb299, 3, none⟩) (Kd.R_far (p := ⟨gb299, 2, none⟩) (Kd.R_far (p := ⟨gb299, 1, none⟩) (Kd.R_far (p := ⟨gb299, 0, none⟩) (Kd.R_mono HO_3.out (fun k_ hk => (⟨hk, hk.2⟩ : _ ∧ k_ ≠ gb299))) (fun _ hk => hk.2) (.string ((rd_T33 t292 x38_4).f0))) (fun _ hk => hk.2) (.int .i64 ((rd_T33 t292 x38_4).f1))) (fun _ hk => hk.2) (.int .i64 ((rd_T33 t292 x38_4).f2))) (fun _ hk => hk.2) (.int .i64 ((rd_T33 t292 x38_4).f3))) (fun _ hk => hk.2) (.int .i64 ((rd_T33 t292 x38_4).f4))) (fun _ hk => hk.1.2)⟩, ⟨by (with_reducible repeat (first | apply Kd.R_alloc | apply Kd.R_drewN | apply Kd.R_drew)); exact Kd.R_mono (Kd.R_far (p := ⟨gb299, 4, none⟩) (Kd.R_far (p := ⟨gb299, 3, none⟩) (Kd.R_far (p := ⟨gb299, 2, none⟩) (Kd.R_far (p := ⟨gb299, 1, none⟩) (Kd.R_far (p := ⟨gb299, 0, none⟩) (Kd.R_mono HO_36.out (fun k_ hk => (⟨hk, hk.2⟩ : _ ∧ k_ ≠ gb299))) (fun _ hk => hk.2) (.string ((rd_T33 t292 x38_4).f0))) (fun _ hk => hk.2) (.int .i64 ((rd_T33 t292 x38_4).f1))) (fun _ hk => hk.2) (.int .i64 ((rd_T33 t292 x38_4).f2))) (fun _ hk => hk.2) (.int .i64 ((rd_T33 t292 x38_4).f3))) (fun _ hk => hk.2) (.int .i64 ((rd_T33 t292 x38_4).f4))) (fun _ hk => hk.1.2)⟩, ⟨by (with_reducible repeat (first | refine blk_drewN ?_ _ | refine blk_drew ?_ | refine blk_alloc ?_ _)); refine blk_put (cs := #[.string ((rd_T33 t292 x38_4).f0), .int .i64 ((rd_T33 t292 x38_4).f1), .int .i64 ((rd_T33 t292 x38_4).f2), .int .i64 ((rd_T33 t292 x38_4).f3), .int .i64 0]) ?_ 4 _ rfl; (with_reducible repeat (first | refine blk_drewN ?_ _ | refine blk_drew ?_ | refine blk_alloc ?_ _)); refine blk_put (cs := #[.string ((rd_T33 t292 x38_4).f0), .int .i64 ((rd_T33 t292 x38_4).f1), .int .i64 ((rd_T33 t292 x38_4).f2), .int .i64 0, .int .i64 0]) ?_ 3 _ rfl; (with_reducible repeat (first | refine blk_drewN ?_ _ | refine blk_drew ?_ | refine blk_alloc ?_ _)); refine blk_put (cs := #[.string ((rd_T33 t292 x38_4).f0), .int .i64 ((rd_T33 t292 x38_4).f1), .int .i64 0, .int .i64 0, .int .i64 0]) ?_ 2 _ rfl; (with_reducible repeat (first | refine blk_drewN ?_ _ | refine blk_drew ?_ | refine blk_alloc ?_ _)); refine blk_put (cs := #[.string ((rd_T33 t292 x38_4).f0), .int .i64 0, .int .i64 0, .int .i64 0, .int .i64 0]) ?_ 1 _ rfl; (with_reducible repeat (first | refine blk_drewN ?_ _ | refine blk_drew ?_ | refine blk_alloc ?_ _)); refine blk_put (cs := #[.string (⟨#[]⟩ : ByteArray), .int .i64 0, .int .i64 0, .int .i64 0, .int .i64 0]) ?_ 0 _ rfl; (with_reducible repeat (first | refine blk_drewN ?_ _ | refine blk_drew ?_ | refine blk_alloc ?_ _)); exact BK299.out⟩, ⟨bel_⟩⟩
                   case rest =>
                    clear HC24
                    try clear c1
                    try clear c2
                    try clear p2
                    try clear q2
                    try clear hx2
                    try clear c4
                    try clear p6
                    try clear c8
                    try clear c9
                    try clear c12
                    try clear c14
                    try clear c14b0
                    try clear c15
                    try clear c15b0
                    try clear c16
                    try clear c16b0
                    try clear c17
                    try clear c17b0
                    try clear c18
                    try clear c18b0
                    try clear c19
                    try clear c19b0
                    try clear c21
                    try clear c21b0
                    try clear c22
                    try clear c22b0
                    try clear c23
                    try clear c23b0
                    try clear c27
                    try clear c27b0
                    try clear c28
                    try clear c28b0
                    try clear c29
                    try clear c29b0
                    try clear p29
                    try clear q29
                    try clear hx29
                    try clear hcz26_0
                    try clear hcz26_1
                    try clear hcz26_2
                    try clear hcz26_3
                    try clear hcz26_4
                    try clear hcz30_0
                    try clear hcz30_1
                    try clear hcz30_2
                    try clear hcz30_3
                    try clear hcz30_4
                    try clear hcz31_0
                    try clear hcz31_1
                    try clear hcz31_2
                    try clear hcz31_3
                    try clear hcz31_4
                    try clear hcz32_0
                    try clear hcz32_1
                    try clear hcz32_2
                    try clear hcz32_3
                    try clear hcz32_4
                    try clear hcz33_0
                    try clear hcz33_1
                    try clear hcz33_2
                    try clear hcz33_3
                    try clear hcz33_4
                    try clear hfz26_0
                    try clear hfz26_1
                    try clear hfz26_2
                    try clear hfz26_3
                    try clear hfz26_4
                    try clear hfz30_0
                    try clear hfz30_1
                    try clear hfz30_2
                    try clear hfz30_3
                    try clear hfz30_4
                    try clear hfz31_0
                    try clear hfz31_1
                    try clear hfz31_2
                    try clear hfz31_3
                    try clear hfz31_4
                    try clear hfz32_0
                    try clear hfz32_1
                    try clear hfz32_2
                    try clear hfz32_3
                    try clear hfz32_4
                    try clear hfz33_0
                    try clear hfz33_1
                    try clear hfz33_2
                    try clear hfz33_3
                    try clear hfz33_4
                    try clear hx296_0
                    try clear hx297_0
                    try clear hx298_0
                    try clear hx298_1
                    try clear hx298_2
                    try clear hx298_3
                    try clear hx298_4
                    try clear p2
                    try clear p296
                    try clear p297
                    try clear p298
                    try clear q2
                    try clear q296
                    try clear q297
                    try clear q298
                    obtain ⟨kq, x69_23, rfl, HA, HJ23, HO_3, HO_36, BK299, HB⟩ := hcut
                    cases kq with
                    | zero => exact absurd HA.out (by simp [parterrelaw08_AreaApart.j4])
                    | succ kj23 =>
                     have H := HA.out
                     clear HA
                     simp only [parterrelaw08_AreaApart.j4] at H
                     by_cases c34 : x69_23 = true
                     ·subst c34
                      rw [if_pos rfl] at H
                      by_cases c35 : ((rd_T33 t292 x38_4).f0).toList = (rdOf ByteArray.empty (rd_L1 l0 x23_2) x31_3).toList
                      ·rw [if_pos c35] at H
                       have c35b0 : (((rd_T33 t292 x38_4).f0).toList == (rdOf ByteArray.empty (rd_L1 l0 x23_2) x31_3).toList) = true := beq_iff_eq.mpr c35
                       have c35b1 : (((rd_T33 t292 x38_4).f0).toList != (rdOf ByteArray.empty (rd_L1 l0 x23_2) x31_3).toList) = false := bne_eq_false_iff_eq.mpr c35
                       clear c35
                       have H' := Aside0.mk H
                       clear H
                       have hcz36_0 : wc.cell? ⟨gb299, 0, none⟩ = some (.string ((rd_T33 t292 x38_4).f0)) := (blk_cell BK299.out 0).trans rfl
                       have hcz36_1 : wc.cell? ⟨gb299, 1, none⟩ = some (.int .i64 ((rd_T33 t292 x38_4).f1)) := (blk_cell BK299.out 1).trans rfl
                       have hcz36_2 : wc.cell? ⟨gb299, 2, none⟩ = some (.int .i64 ((rd_T33 t292 x38_4).f2)) := (blk_cell BK299.out 2).trans rfl
                       have hcz36_3 : wc.cell? ⟨gb299, 3, none⟩ = some (.int .i64 ((rd_T33 t292 x38_4).f3)) := (blk_cell BK299.out 3).trans rfl
                       have hcz36_4 : wc.cell? ⟨gb299, 4, none⟩ = some (.int .i64 ((rd_T33 t292 x38_4).f4)) := (blk_cell BK299.out 4).trans rfl
                       have hfz36_0 := blk_frozen BK299.out 0
                       have hfz36_1 := blk_frozen BK299.out 1
                       have hfz36_2 := blk_frozen BK299.out 2
                       have hfz36_3 := blk_frozen BK299.out 3
                       have hfz36_4 := blk_frozen BK299.out 4
                       go_wp2
                       go_roundg kj23
                       case measure => have := HJ1.out; have := HK2.out; have := HK3.out; have := HK4.out; have := HJ23.out; omega
                       case rel => exact ⟨(wrap64 (x7_4 + 1)), (wrap64 (x38_4 + 1)), rfs_, rfs_, H', ⟨by have := HJ1.out; have := HK2.out; have := HK3.out; have := HK4.out; have := HJ23.out; omega⟩, ⟨by (with_reducible repeat (first | apply Kd.R_alloc | apply Kd.R_drewN | apply Kd.R_drew)); exact Kd.R_mono HO_3.out (fun _ hk => trivial)⟩, ⟨by (with_reducible repeat (first | apply Kd.R_alloc | apply Kd.R_drewN | apply Kd.R_drew)); exact Kd.R_mono HO_36.out (fun _ hk => trivial)⟩, ⟨bel_⟩⟩
                      ·rw [if_neg c35] at H
                       exact absurd H (by simp)
                     ·replace c34 := Bool.eq_false_iff.mpr c34
                      subst c34
                      rw [if_neg (show ¬ (false = true) by decide)] at H
                      have H' := Aside0.mk H
                      clear H
                      go_wp2
                      go_roundg kj23
                      case measure => have := HJ1.out; have := HK2.out; have := HK3.out; have := HK4.out; have := HJ23.out; omega
                      case rel => exact ⟨(x7_4), (wrap64 (x38_4 + 1)), rfs_, rfs_, H', ⟨by have := HJ1.out; have := HK2.out; have := HK3.out; have := HK4.out; have := HJ23.out; omega⟩, ⟨by (with_reducible repeat (first | apply Kd.R_alloc | apply Kd.R_drewN | apply Kd.R_drew)); exact Kd.R_mono HO_3.out (fun _ hk => trivial)⟩, ⟨by (with_reducible repeat (first | apply Kd.R_alloc | apply Kd.R_drewN | apply Kd.R_drew)); exact Kd.R_mono HO_36.out (fun _ hk => trivial)⟩, ⟨bel_⟩⟩
                  ·rw [if_neg c23] at H
                   exact absurd H (by simp)
                 ·rw [if_neg c22] at H
                  exact absurd H (by simp)
                ·rw [if_neg c21] at H
                 have c21b0 : decide (x38_4 < (t292.length : Int)) = false := decide_eq_false c21
                 clear c21
                 obtain ⟨ji37, hji37⟩ : ∃ j_ : Int, (mn 1 ((rdOf ByteArray.empty (rd_L1 l0 x23_2) x31_3).size : Int)) = j_ := ⟨_, rfl⟩
                 replace H : (if x7_4 = (ji37) then (parterrelaw08_AreaApart.l1 k4 l0 t292 x23_2 (l0.length : Int) x23_2 (rd_L1 l0 x23_2) ((rd_L1 l0 x23_2).length : Int) (wrap64 (x31_3 + 1))) else (none)) = some r := by first | (rw [hji37] at H; exact H) | (simp only [hji37] at H ⊢; exact H)
                 have hji37_ : (if ((rdOf ByteArray.empty (rd_L1 l0 x23_2) x31_3).size : Int) < 1 then ((rdOf ByteArray.empty (rd_L1 l0 x23_2) x31_3).size : Int) else 1) = ji37 := hji37
                 by_cases c38 : x7_4 = (ji37)
                 ·rw [if_pos c38] at H
                  have c38b0 : (x7_4 == (ji37)) = true := beq_iff_eq.mpr c38
                  have c38b1 : (x7_4 != (ji37)) = false := bne_eq_false_iff_eq.mpr c38
                  clear c38
                  have H' := Aside0.mk H
                  clear H
                  go_wp2
                  go_roundg k4
                  case measure => have := HJ1.out; have := HK2.out; have := HK3.out; have := HK4.out; omega
                  case rel => exact ⟨(wrap64 (x31_3 + 1)), rfs_, H', ⟨by have := HJ1.out; have := HK2.out; have := HK3.out; have := HK4.out; omega⟩, ⟨by (with_reducible repeat (first | apply Kd.R_alloc | apply Kd.R_drewN | apply Kd.R_drew)); exact HO_3.out⟩, ⟨bel_⟩⟩
                 ·rw [if_neg c38] at H
                  exact absurd H (by simp)
             ·rw [if_neg c19] at H
              exact absurd H (by simp)
            ·rw [if_neg c18] at H
             exact absurd H (by simp)
           ·rw [if_neg c17] at H
            have c17b0 : decide (x31_3 < ((rd_L1 l0 x23_2).length : Int)) = false := decide_eq_false c17
            clear c17
            have H' := Aside0.mk H
            clear H
            go_wp2
            go_roundg k3
            case measure => have := HJ1.out; have := HK2.out; have := HK3.out; omega
            case rel => exact ⟨(wrap64 (x23_2 + 1)), rfs_, H', ⟨by have := HJ1.out; have := HK2.out; have := HK3.out; omega⟩, ⟨by (with_reducible repeat (first | apply Kd.R_alloc | apply Kd.R_drewN | apply Kd.R_drew)); exact HO_3.out⟩, ⟨bel_⟩⟩
        ·rw [if_neg c16] at H
         exact absurd H (by simp)
       ·rw [if_neg c15] at H
        exact absurd H (by simp)
      ·rw [if_neg c14] at H
       have c14b0 : decide (x23_2 < (l0.length : Int)) = false := decide_eq_false c14
       clear c14
       replace H := Option.bind_eq_some_iff.mp H
       obtain ⟨t295, A390, H⟩ := H
       try dsimp only at H
       have A39 := Aside0.mk A390
       clear A390
       obtain rfl := Option.some.inj H
       go_wp2_with (first | ((with_reducible refine gate_callee (f := 8) rfl ?_); refine goesL_ (some 84) rfl rfl Tryd.func8 (by kernel_rfl) rfl #[] rfl goa_ ?_; (with_reducible refine (parterrelaw08_lives.calls k2  t295 _ A39.out).mono ?_); rintro e w40 ⟨rfl, hb⟩; refine ⟨_, rfl, ?_⟩; have n0_ := Aside0.mk (Kd.R_below (by (with_reducible repeat (first | apply Kd.R_alloc | apply Kd.R_drewN | apply Kd.R_drew)); exact HO_3.out) hb); have n1_ := Aside0.mk (below_step bel_ hb); clear HO_3; clear HB; have HO_3 := n0_; have HB := n1_; clear n0_ n1_; clear hb))
       go_ret
       exact ⟨rsl_, bel_⟩

/-- THE ONE PURE STATEMENT of parterrelaw08_AreaApart. -/
def parterrelaw08_AreaApart.Pure : Prop := ∀ (l0 : List (List ByteArray)), gSl 24 (gSl 16 gStr) l0 → ∃ k, parterrelaw08_AreaApart.f k l0 = some true

/-! ### ident_control: function 60 -/
def ident_control.f (a0 : Int) : Option (Bool) := if a0 < 32 then (some true) else (some (a0 == 127))
set_option maxHeartbeats 8000000 in
set_option maxRecDepth 100000 in
theorem ident_control.calls (a0 : Int) (r : Bool) (w : World) (h : ident_control.f a0 = some r) :
  Calls Tryd.prog 60 #[.int .u8 a0] w fun e w' => e = .returned (.bool r) ∧ Drawn0 w w' := by
 have H : (if a0 < 32 then (some true) else (some (a0 == 127))) = some r := h
 clear h
 by_cases c2 : a0 < 32
 ·rw [if_pos c2] at H
  have c2b0 : decide (a0 < 32) = true := decide_eq_true c2
  clear c2
  obtain rfl := Option.some.inj H
  go_enter Tryd.func60, Tryd.ntmps60
  go_wp2
  go_ret
  exact ⟨by first | rfl | (simp; done) | (simp [*]; done), drs_⟩
 ·rw [if_neg c2] at H
  have c2b0 : decide (a0 < 32) = false := decide_eq_false c2
  clear c2
  obtain rfl := Option.some.inj H
  go_enter Tryd.func60, Tryd.ntmps60
  go_wp2
  go_ret
  exact ⟨by first | rfl | (simp; done) | (simp [*]; done), drs_⟩

/-! ### ident_escaped: function 61 -/
def ident_escaped.f (a0 : Int) : Option (ByteArray) := if (a0 / 16) > 0 then (if 0 ≤ (a0 / 16) then (if (a0 / 16) ≤ (((a0 / 16) + 1) % 256) then (if (((a0 / 16) + 1) % 256) ≤ 16 then (if 1 + ((⟨#[48, 49, 50, 51, 52, 53, 54, 55, 56, 57, 97, 98, 99, 100, 101, 102]⟩ : ByteArray).extract ((a0 / 16) : Int).toNat ((((a0 / 16) + 1) % 256) : Int).toNat).size ≤ 9223372036854775807 then (if 0 ≤ (Go.bits .and .u8 a0 15) then (if (Go.bits .and .u8 a0 15) ≤ (((Go.bits .and .u8 a0 15) + 1) % 256) then (if (((Go.bits .and .u8 a0 15) + 1) % 256) ≤ 16 then (if ((⟨#[92]⟩ : ByteArray) ++ ((⟨#[48, 49, 50, 51, 52, 53, 54, 55, 56, 57, 97, 98, 99, 100, 101, 102]⟩ : ByteArray).extract ((a0 / 16) : Int).toNat ((((a0 / 16) + 1) % 256) : Int).toNat)).size + ((⟨#[48, 49, 50, 51, 52, 53, 54, 55, 56, 57, 97, 98, 99, 100, 101, 102]⟩ : ByteArray).extract ((Go.bits .and .u8 a0 15) : Int).toNat ((((Go.bits .and .u8 a0 15) + 1) % 256) : Int).toNat).size ≤ 9223372036854775807 then (if (((⟨#[92]⟩ : ByteArray) ++ ((⟨#[48, 49, 50, 51, 52, 53, 54, 55, 56, 57, 97, 98, 99, 100, 101, 102]⟩ : ByteArray).extract ((a0 / 16) : Int).toNat ((((a0 / 16) + 1) % 256) : Int).toNat)) ++ ((⟨#[48, 49, 50, 51, 52, 53, 54, 55, 56, 57, 97, 98, 99, 100, 101, 102]⟩ : ByteArray).extract ((Go.bits .and .u8 a0 15) : Int).toNat ((((Go.bits .and .u8 a0 15) + 1) % 256) : Int).toNat)).size + 1 ≤ 9223372036854775807 then (some ((((⟨#[92]⟩ : ByteArray) ++ ((⟨#[48, 49, 50, 51, 52, 53, 54, 55, 56, 57, 97, 98, 99, 100, 101, 102]⟩ : ByteArray).extract ((a0 / 16) : Int).toNat ((((a0 / 16) + 1) % 256) : Int).toNat)) ++ ((⟨#[48, 49, 50, 51, 52, 53, 54, 55, 56, 57, 97, 98, 99, 100, 101, 102]⟩ : ByteArray).extract ((Go.bits .and .u8 a0 15) : Int).toNat ((((Go.bits .and .u8 a0 15) + 1) % 256) : Int).toNat)) ++ (⟨#[32]⟩ : ByteArray))) else (none)) else (none)) else (none)) else (none)) else (none)) else (none)) else (none)) else (none)) else (none)) else (if 0 ≤ (Go.bits .and .u8 a0 15) then (if (Go.bits .and .u8 a0 15) ≤ (((Go.bits .and .u8 a0 15) + 1) % 256) then (if (((Go.bits .and .u8 a0 15) + 1) % 256) ≤ 16 then (if 1 + ((⟨#[48, 49, 50, 51, 52, 53, 54, 55, 56, 57, 97, 98, 99, 100, 101, 102]⟩ : ByteArray).extract ((Go.bits .and .u8 a0 15) : Int).toNat ((((Go.bits .and .u8 a0 15) + 1) % 256) : Int).toNat).size ≤ 9223372036854775807 then (if ((⟨#[92]⟩ : ByteArray) ++ ((⟨#[48, 49, 50, 51, 52, 53, 54, 55, 56, 57, 97, 98, 99, 100, 101, 102]⟩ : ByteArray).extract ((Go.bits .and .u8 a0 15) : Int).toNat ((((Go.bits .and .u8 a0 15) + 1) % 256) : Int).toNat)).size + 1 ≤ 9223372036854775807 then (some (((⟨#[92]⟩ : ByteArray) ++ ((⟨#[48, 49, 50, 51, 52, 53, 54, 55, 56, 57, 97, 98, 99, 100, 101, 102]⟩ : ByteArray).extract ((Go.bits .and .u8 a0 15) : Int).toNat ((((Go.bits .and .u8 a0 15) + 1) % 256) : Int).toNat)) ++ (⟨#[32]⟩ : ByteArray))) else (none)) else (none)) else (none)) else (none)) else (none))
set_option maxHeartbeats 8000000 in
set_option maxRecDepth 100000 in
theorem ident_escaped.calls (a0 : Int) (r : ByteArray) (w : World) (h : ident_escaped.f a0 = some r) :
  Calls Tryd.prog 61 #[.int .u8 a0] w fun e w' => e = .returned (.string r) ∧ Drawn0 w w' := by
 have H : (if (a0 / 16) > 0 then (if 0 ≤ (a0 / 16) then (if (a0 / 16) ≤ (((a0 / 16) + 1) % 256) then (if (((a0 / 16) + 1) % 256) ≤ 16 then (if 1 + ((⟨#[48, 49, 50, 51, 52, 53, 54, 55, 56, 57, 97, 98, 99, 100, 101, 102]⟩ : ByteArray).extract ((a0 / 16) : Int).toNat ((((a0 / 16) + 1) % 256) : Int).toNat).size ≤ 9223372036854775807 then (if 0 ≤ (Go.bits .and .u8 a0 15) then (if (Go.bits .and .u8 a0 15) ≤ (((Go.bits .and .u8 a0 15) + 1) % 256) then (if (((Go.bits .and .u8 a0 15) + 1) % 256) ≤ 16 then (if ((⟨#[92]⟩ : ByteArray) ++ ((⟨#[48, 49, 50, 51, 52, 53, 54, 55, 56, 57, 97, 98, 99, 100, 101, 102]⟩ : ByteArray).extract ((a0 / 16) : Int).toNat ((((a0 / 16) + 1) % 256) : Int).toNat)).size + ((⟨#[48, 49, 50, 51, 52, 53, 54, 55, 56, 57, 97, 98, 99, 100, 101, 102]⟩ : ByteArray).extract ((Go.bits .and .u8 a0 15) : Int).toNat ((((Go.bits .and .u8 a0 15) + 1) % 256) : Int).toNat).size ≤ 9223372036854775807 then (if (((⟨#[92]⟩ : ByteArray) ++ ((⟨#[48, 49, 50, 51, 52, 53, 54, 55, 56, 57, 97, 98, 99, 100, 101, 102]⟩ : ByteArray).extract ((a0 / 16) : Int).toNat ((((a0 / 16) + 1) % 256) : Int).toNat)) ++ ((⟨#[48, 49, 50, 51, 52, 53, 54, 55, 56, 57, 97, 98, 99, 100, 101, 102]⟩ : ByteArray).extract ((Go.bits .and .u8 a0 15) : Int).toNat ((((Go.bits .and .u8 a0 15) + 1) % 256) : Int).toNat)).size + 1 ≤ 9223372036854775807 then (some ((((⟨#[92]⟩ : ByteArray) ++ ((⟨#[48, 49, 50, 51, 52, 53, 54, 55, 56, 57, 97, 98, 99, 100, 101, 102]⟩ : ByteArray).extract ((a0 / 16) : Int).toNat ((((a0 / 16) + 1) % 256) : Int).toNat)) ++ ((⟨#[48, 49, 50, 51, 52, 53, 54, 55, 56, 57, 97, 98, 99, 100, 101, 102]⟩ : ByteArray).extract ((Go.bits .and .u8 a0 15) : Int).toNat ((((Go.bits .and .u8 a0 15) + 1) % 256) : Int).toNat)) ++ (⟨#[32]⟩ : ByteArray))) else (none)) else (none)) else (none)) else (none)) else (none)) else (none)) else (none)) else (none)) else (none)) else (if 0 ≤ (Go.bits .and .u8 a0 15) then (if (Go.bits .and .u8 a0 15) ≤ (((Go.bits .and .u8 a0 15) + 1) % 256) then (if (((Go.bits .and .u8 a0 15) + 1) % 256) ≤ 16 then (if 1 + ((⟨#[48, 49, 50, 51, 52, 53, 54, 55, 56, 57, 97, 98, 99, 100, 101, 102]⟩ : ByteArray).extract ((Go.bits .and .u8 a0 15) : Int).toNat ((((Go.bits .and .u8 a0 15) + 1) % 256) : Int).toNat).size ≤ 9223372036854775807 then (if ((⟨#[92]⟩ : ByteArray) ++ ((⟨#[48, 49, 50, 51, 52, 53, 54, 55, 56, 57, 97, 98, 99, 100, 101, 102]⟩ : ByteArray).extract ((Go.bits .and .u8 a0 15) : Int).toNat ((((Go.bits .and .u8 a0 15) + 1) % 256) : Int).toNat)).size + 1 ≤ 9223372036854775807 then (some (((⟨#[92]⟩ : ByteArray) ++ ((⟨#[48, 49, 50, 51, 52, 53, 54, 55, 56, 57, 97, 98, 99, 100, 101, 102]⟩ : ByteArray).extract ((Go.bits .and .u8 a0 15) : Int).toNat ((((Go.bits .and .u8 a0 15) + 1) % 256) : Int).toNat)) ++ (⟨#[32]⟩ : ByteArray))) else (none)) else (none)) else (none)) else (none)) else (none))) = some r := h
 clear h
 by_cases c2 : (a0 / 16) > 0
 ·rw [if_pos c2] at H
  have c2b0 : decide (0 < (a0 / 16)) = true := decide_eq_true c2
  clear c2
  obtain ⟨ji3, hji3⟩ : ∃ j_ : Int, (a0 / 16) = j_ := ⟨_, rfl⟩
  replace H : (if 0 ≤ (ji3) then (if (ji3) ≤ (((ji3) + 1) % 256) then (if (((ji3) + 1) % 256) ≤ 16 then (if 1 + ((⟨#[48, 49, 50, 51, 52, 53, 54, 55, 56, 57, 97, 98, 99, 100, 101, 102]⟩ : ByteArray).extract ((ji3) : Int).toNat ((((ji3) + 1) % 256) : Int).toNat).size ≤ 9223372036854775807 then (if 0 ≤ (Go.bits .and .u8 a0 15) then (if (Go.bits .and .u8 a0 15) ≤ (((Go.bits .and .u8 a0 15) + 1) % 256) then (if (((Go.bits .and .u8 a0 15) + 1) % 256) ≤ 16 then (if ((⟨#[92]⟩ : ByteArray) ++ ((⟨#[48, 49, 50, 51, 52, 53, 54, 55, 56, 57, 97, 98, 99, 100, 101, 102]⟩ : ByteArray).extract ((ji3) : Int).toNat ((((ji3) + 1) % 256) : Int).toNat)).size + ((⟨#[48, 49, 50, 51, 52, 53, 54, 55, 56, 57, 97, 98, 99, 100, 101, 102]⟩ : ByteArray).extract ((Go.bits .and .u8 a0 15) : Int).toNat ((((Go.bits .and .u8 a0 15) + 1) % 256) : Int).toNat).size ≤ 9223372036854775807 then (if (((⟨#[92]⟩ : ByteArray) ++ ((⟨#[48, 49, 50, 51, 52, 53, 54, 55, 56, 57, 97, 98, 99, 100, 101, 102]⟩ : ByteArray).extract ((ji3) : Int).toNat ((((ji3) + 1) % 256) : Int).toNat)) ++ ((⟨#[48, 49, 50, 51, 52, 53, 54, 55, 56, 57, 97, 98, 99, 100, 101, 102]⟩ : ByteArray).extract ((Go.bits .and .u8 a0 15) : Int).toNat ((((Go.bits .and .u8 a0 15) + 1) % 256) : Int).toNat)).size + 1 ≤ 9223372036854775807 then (some ((((⟨#[92]⟩ : ByteArray) ++ ((⟨#[48, 49, 50, 51, 52, 53, 54, 55, 56, 57, 97, 98, 99, 100, 101, 102]⟩ : ByteArray).extract ((ji3) : Int).toNat ((((ji3) + 1) % 256) : Int).toNat)) ++ ((⟨#[48, 49, 50, 51, 52, 53, 54, 55, 56, 57, 97, 98, 99, 100, 101, 102]⟩ : ByteArray).extract ((Go.bits .and .u8 a0 15) : Int).toNat ((((Go.bits .and .u8 a0 15) + 1) % 256) : Int).toNat)) ++ (⟨#[32]⟩ : ByteArray))) else (none)) else (none)) else (none)) else (none)) else (none)) else (none)) else (none)) else (none)) else (none)) = some r := by first | (rw [hji3] at H; exact H) | (simp only [hji3] at H ⊢; exact H)
  (try rw [hji3] at c2b0)
  by_cases c4 : 0 ≤ (ji3)
  ·rw [if_pos c4] at H
   have c4b0 := eq_true c4
   have c4b1 : decide (0 ≤ (ji3)) = true := decide_eq_true c4
   clear c4
   by_cases c5 : (ji3) ≤ (((ji3) + 1) % 256)
   ·rw [if_pos c5] at H
    have c5b0 := eq_true c5
    have c5b1 : decide ((ji3) ≤ (((ji3) + 1) % 256)) = true := decide_eq_true c5
    by_cases c6 : (((ji3) + 1) % 256) ≤ 16
    ·rw [if_pos c6] at H
     have c6b0 := eq_true c6
     have c6b1 : decide ((((ji3) + 1) % 256) ≤ 16) = true := decide_eq_true c6
     by_cases c7 : 1 + ((⟨#[48, 49, 50, 51, 52, 53, 54, 55, 56, 57, 97, 98, 99, 100, 101, 102]⟩ : ByteArray).extract ((ji3) : Int).toNat ((((ji3) + 1) % 256) : Int).toNat).size ≤ 9223372036854775807
     ·rw [if_pos c7] at H
      have c7b0 := eq_true c7
      have c7b1 : decide (1 + ((⟨#[48, 49, 50, 51, 52, 53, 54, 55, 56, 57, 97, 98, 99, 100, 101, 102]⟩ : ByteArray).extract ((ji3) : Int).toNat ((((ji3) + 1) % 256) : Int).toNat).size ≤ 9223372036854775807) = true := decide_eq_true c7
      try have c7b2 : (9223372036854775807 < 1 + ((⟨#[48, 49, 50, 51, 52, 53, 54, 55, 56, 57, 97, 98, 99, 100, 101, 102]⟩ : ByteArray).extract ((ji3) : Int).toNat ((((ji3) + 1) % 256) : Int).toNat).size) = False := eq_false (Nat.not_lt.2 c7)
      by_cases c8 : 0 ≤ (Go.bits .and .u8 a0 15)
      ·rw [if_pos c8] at H
       have c8b0 := eq_true c8
       have c8b1 : decide (0 ≤ (Go.bits .and .u8 a0 15)) = true := decide_eq_true c8
       clear c8
       by_cases c9 : (Go.bits .and .u8 a0 15) ≤ (((Go.bits .and .u8 a0 15) + 1) % 256)
       ·rw [if_pos c9] at H
        have c9b0 := eq_true c9
        have c9b1 : decide ((Go.bits .and .u8 a0 15) ≤ (((Go.bits .and .u8 a0 15) + 1) % 256)) = true := decide_eq_true c9
        by_cases c10 : (((Go.bits .and .u8 a0 15) + 1) % 256) ≤ 16
        ·rw [if_pos c10] at H
         have c10b0 := eq_true c10
         have c10b1 : decide ((((Go.bits .and .u8 a0 15) + 1) % 256) ≤ 16) = true := decide_eq_true c10
         by_cases c11 : ((⟨#[92]⟩ : ByteArray) ++ ((⟨#[48, 49, 50, 51, 52, 53, 54, 55, 56, 57, 97, 98, 99, 100, 101, 102]⟩ : ByteArray).extract ((ji3) : Int).toNat ((((ji3) + 1) % 256) : Int).toNat)).size + ((⟨#[48, 49, 50, 51, 52, 53, 54, 55, 56, 57, 97, 98, 99, 100, 101, 102]⟩ : ByteArray).extract ((Go.bits .and .u8 a0 15) : Int).toNat ((((Go.bits .and .u8 a0 15) + 1) % 256) : Int).toNat).size ≤ 9223372036854775807
         ·rw [if_pos c11] at H
          have c11b0 := eq_true c11
          have c11b1 : decide (((⟨#[92]⟩ : ByteArray) ++ ((⟨#[48, 49, 50, 51, 52, 53, 54, 55, 56, 57, 97, 98, 99, 100, 101, 102]⟩ : ByteArray).extract ((ji3) : Int).toNat ((((ji3) + 1) % 256) : Int).toNat)).size + ((⟨#[48, 49, 50, 51, 52, 53, 54, 55, 56, 57, 97, 98, 99, 100, 101, 102]⟩ : ByteArray).extract ((Go.bits .and .u8 a0 15) : Int).toNat ((((Go.bits .and .u8 a0 15) + 1) % 256) : Int).toNat).size ≤ 9223372036854775807) = true := decide_eq_true c11
          try have c11b2 : (9223372036854775807 < ((⟨#[92]⟩ : ByteArray) ++ ((⟨#[48, 49, 50, 51, 52, 53, 54, 55, 56, 57, 97, 98, 99, 100, 101, 102]⟩ : ByteArray).extract ((ji3) : Int).toNat ((((ji3) + 1) % 256) : Int).toNat)).size + ((⟨#[48, 49, 50, 51, 52, 53, 54, 55, 56, 57, 97, 98, 99, 100, 101, 102]⟩ : ByteArray).extract ((Go.bits .and .u8 a0 15) : Int).toNat ((((Go.bits .and .u8 a0 15) + 1) % 256) : Int).toNat).size) = False := eq_false (Nat.not_lt.2 c11)
          by_cases c12 : (((⟨#[92]⟩ : ByteArray) ++ ((⟨#[48, 49, 50, 51, 52, 53, 54, 55, 56, 57, 97, 98, 99, 100, 101, 102]⟩ : ByteArray).extract ((ji3) : Int).toNat ((((ji3) + 1) % 256) : Int).toNat)) ++ ((⟨#[48, 49, 50, 51, 52, 53, 54, 55, 56, 57, 97, 98, 99, 100, 101, 102]⟩ : ByteArray).extract ((Go.bits .and .u8 a0 15) : Int).toNat ((((Go.bits .and .u8 a0 15) + 1) % 256) : Int).toNat)).size + 1 ≤ 9223372036854775807
          ·rw [if_pos c12] at H
           have c12b0 := eq_true c12
           have c12b1 : decide ((((⟨#[92]⟩ : ByteArray) ++ ((⟨#[48, 49, 50, 51, 52, 53, 54, 55, 56, 57, 97, 98, 99, 100, 101, 102]⟩ : ByteArray).extract ((ji3) : Int).toNat ((((ji3) + 1) % 256) : Int).toNat)) ++ ((⟨#[48, 49, 50, 51, 52, 53, 54, 55, 56, 57, 97, 98, 99, 100, 101, 102]⟩ : ByteArray).extract ((Go.bits .and .u8 a0 15) : Int).toNat ((((Go.bits .and .u8 a0 15) + 1) % 256) : Int).toNat)).size + 1 ≤ 9223372036854775807) = true := decide_eq_true c12
           try have c12b2 : (9223372036854775807 < (((⟨#[92]⟩ : ByteArray) ++ ((⟨#[48, 49, 50, 51, 52, 53, 54, 55, 56, 57, 97, 98, 99, 100, 101, 102]⟩ : ByteArray).extract ((ji3) : Int).toNat ((((ji3) + 1) % 256) : Int).toNat)) ++ ((⟨#[48, 49, 50, 51, 52, 53, 54, 55, 56, 57, 97, 98, 99, 100, 101, 102]⟩ : ByteArray).extract ((Go.bits .and .u8 a0 15) : Int).toNat ((((Go.bits .and .u8 a0 15) + 1) % 256) : Int).toNat)).size + 1) = False := eq_false (Nat.not_lt.2 c12)
           obtain rfl := Option.some.inj H
           go_enter Tryd.func61, Tryd.ntmps61
           go_wp2
           go_ret
           exact ⟨by first | rfl | (simp; done) | (simp only [← hji3] <;> (first | rfl | simp)) | (simp [*]; done), drs_⟩
          ·rw [if_neg c12] at H
           exact absurd H (by simp)
         ·rw [if_neg c11] at H
          exact absurd H (by simp)
        ·rw [if_neg c10] at H
         exact absurd H (by simp)
       ·rw [if_neg c9] at H
        exact absurd H (by simp)
      ·rw [if_neg c8] at H
       exact absurd H (by simp)
     ·rw [if_neg c7] at H
      exact absurd H (by simp)
    ·rw [if_neg c6] at H
     exact absurd H (by simp)
   ·rw [if_neg c5] at H
    exact absurd H (by simp)
  ·rw [if_neg c4] at H
   exact absurd H (by simp)
 ·rw [if_neg c2] at H
  have c2b0 : decide (0 < (a0 / 16)) = false := decide_eq_false c2
  clear c2
  by_cases c13 : 0 ≤ (Go.bits .and .u8 a0 15)
  ·rw [if_pos c13] at H
   have c13b0 := eq_true c13
   have c13b1 : decide (0 ≤ (Go.bits .and .u8 a0 15)) = true := decide_eq_true c13
   clear c13
   by_cases c14 : (Go.bits .and .u8 a0 15) ≤ (((Go.bits .and .u8 a0 15) + 1) % 256)
   ·rw [if_pos c14] at H
    have c14b0 := eq_true c14
    have c14b1 : decide ((Go.bits .and .u8 a0 15) ≤ (((Go.bits .and .u8 a0 15) + 1) % 256)) = true := decide_eq_true c14
    by_cases c15 : (((Go.bits .and .u8 a0 15) + 1) % 256) ≤ 16
    ·rw [if_pos c15] at H
     have c15b0 := eq_true c15
     have c15b1 : decide ((((Go.bits .and .u8 a0 15) + 1) % 256) ≤ 16) = true := decide_eq_true c15
     by_cases c16 : 1 + ((⟨#[48, 49, 50, 51, 52, 53, 54, 55, 56, 57, 97, 98, 99, 100, 101, 102]⟩ : ByteArray).extract ((Go.bits .and .u8 a0 15) : Int).toNat ((((Go.bits .and .u8 a0 15) + 1) % 256) : Int).toNat).size ≤ 9223372036854775807
     ·rw [if_pos c16] at H
      have c16b0 := eq_true c16
      have c16b1 : decide (1 + ((⟨#[48, 49, 50, 51, 52, 53, 54, 55, 56, 57, 97, 98, 99, 100, 101, 102]⟩ : ByteArray).extract ((Go.bits .and .u8 a0 15) : Int).toNat ((((Go.bits .and .u8 a0 15) + 1) % 256) : Int).toNat).size ≤ 9223372036854775807) = true := decide_eq_true c16
      try have c16b2 : (9223372036854775807 < 1 + ((⟨#[48, 49, 50, 51, 52, 53, 54, 55, 56, 57, 97, 98, 99, 100, 101, 102]⟩ : ByteArray).extract ((Go.bits .and .u8 a0 15) : Int).toNat ((((Go.bits .and .u8 a0 15) + 1) % 256) : Int).toNat).size) = False := eq_false (Nat.not_lt.2 c16)
      by_cases c17 : ((⟨#[92]⟩ : ByteArray) ++ ((⟨#[48, 49, 50, 51, 52, 53, 54, 55, 56, 57, 97, 98, 99, 100, 101, 102]⟩ : ByteArray).extract ((Go.bits .and .u8 a0 15) : Int).toNat ((((Go.bits .and .u8 a0 15) + 1) % 256) : Int).toNat)).size + 1 ≤ 9223372036854775807
      ·rw [if_pos c17] at H
       have c17b0 := eq_true c17
       have c17b1 : decide (((⟨#[92]⟩ : ByteArray) ++ ((⟨#[48, 49, 50, 51, 52, 53, 54, 55, 56, 57, 97, 98, 99, 100, 101, 102]⟩ : ByteArray).extract ((Go.bits .and .u8 a0 15) : Int).toNat ((((Go.bits .and .u8 a0 15) + 1) % 256) : Int).toNat)).size + 1 ≤ 9223372036854775807) = true := decide_eq_true c17
       try have c17b2 : (9223372036854775807 < ((⟨#[92]⟩ : ByteArray) ++ ((⟨#[48, 49, 50, 51, 52, 53, 54, 55, 56, 57, 97, 98, 99, 100, 101, 102]⟩ : ByteArray).extract ((Go.bits .and .u8 a0 15) : Int).toNat ((((Go.bits .and .u8 a0 15) + 1) % 256) : Int).toNat)).size + 1) = False := eq_false (Nat.not_lt.2 c17)
       obtain rfl := Option.some.inj H
       go_enter Tryd.func61, Tryd.ntmps61
       go_wp2
       go_ret
       exact ⟨by first | rfl | (simp; done) | (simp [*]; done), drs_⟩
      ·rw [if_neg c17] at H
       exact absurd H (by simp)
     ·rw [if_neg c16] at H
      exact absurd H (by simp)
    ·rw [if_neg c15] at H
     exact absurd H (by simp)
   ·rw [if_neg c14] at H
    exact absurd H (by simp)
  ·rw [if_neg c13] at H
   exact absurd H (by simp)

end Go.Proofs.YtofdhdafabmhmaaDoor.PAr
end
section
/- Rows' cells: area.Cells and the document's Cells, of any text. Conditions: as each theorem says. -/
namespace Go.Proofs.YtofdhdafabmhmaaDoor.PureAr
open Go.RowKit Go.Proofs.YtofdhdafabmhmaaDoorW.PrintWords Go.Proofs.YtofdhdafabmhmaaDoorW.PrintMore Go.Proofs.YtofdhdafabmhmaaDoor.Evs Go.Proofs.YtofdhdafabmhmaaDoor.Opn Go.Proofs.YtofdhdafabmhmaaDoor.PAr Go.Proofs.YtofdhdafabmhmaaDoor.Giv
open Go
theorem lives_ev : Ev (fun k => parterrelaw08_lives.f k) true := Ev.of (fun k => parterrelaw08_lives.mono k) (k := 100) (by decide +kernel)

/-! ### The 256 bytes -/
def inB (c : UInt8) : Bool := area_inner.f (c.toNat : Int) == some true
def blB (c : UInt8) : Bool := [32, 9, 10, 13, 12].contains c
def fineA (n : Nat) : Bool := (area_inner.f (n : Int)).isSome && (parterreref08_inner.f (n : Int) == area_inner.f (n : Int) && (parterreref03_Blank.f (n : Int) == some (blB (UInt8.ofNat n)) && (area_inner.f (n : Int) != some true || (n != 46 && (n != 0 && !blB (UInt8.ofNat n))))))
theorem fineA_all : (List.range 256).all fineA = true := by decide +kernel
structure ToldA (c : UInt8) : Prop where
  inn : area_inner.f (c.toNat : Int) = some (inB c)
  ref : parterreref08_inner.f (c.toNat : Int) = some (inB c)
  bl : parterreref03_Blank.f (c.toNat : Int) = some (blB c)
  dot : inB c = true → c ≠ 46
  zero : inB c = true → c ≠ 0
  nobl : inB c = true → blB c = false
theorem toldA (c : UInt8) : ToldA c := by
  have h := List.all_eq_true.1 fineA_all c.toNat (List.mem_range.2 c.toNat_lt)
  simp only [fineA, Bool.and_eq_true, Bool.or_eq_true, beq_iff_eq, bne_iff_ne, Bool.not_eq_true'] at h
  obtain ⟨h1, h2, h3, h4⟩ := h
  obtain ⟨t, ht⟩ := Option.isSome_iff_exists.1 h1
  have e : inB c = t := by
    unfold inB
    rw [ht]
    cases t <;> rfl
  have ec : UInt8.ofNat c.toNat = c := UInt8.ofNat_toNat
  rw [ec] at h3 h4
  have h5 : inB c = true → c.toNat ≠ 46 ∧ c.toNat ≠ 0 ∧ blB c = false := fun hi => h4.resolve_left (fun hn => hn (by rw [ht, ← e, hi]))
  refine ⟨by rw [ht, e], by rw [h2, ht, e], h3, fun hi hc => (h5 hi).1 (by rw [hc]; rfl), fun hi hc => (h5 hi).2.1 (by rw [hc]; rfl), fun hi => (h5 hi).2.2⟩
/-! ### Texts and the rest from a place on -/
def T (l : List UInt8) : ByteArray := ⟨l.toArray⟩
def Dr (x : ByteArray) (i : Nat) (l : List UInt8) : Prop := x.data.toList.drop i = l ∧ i + l.length = x.size
section
variable {x : ByteArray} {i : Nat} {c : UInt8} {l A B : List UInt8}
theorem size_list (x : ByteArray) : x.data.toList.length = x.size := by simp
theorem Dr.all (x : ByteArray) : Dr x 0 x.data.toList := ⟨rfl, by rw [size_list]; omega⟩
theorem Dr.get (h : Dr x i (c :: l)) : i < x.size ∧ bt x (i : Int) = (c.toNat : Int) := by
  have h1 : x.data.toList[i]? = some c := by
    have := congrArg (fun z => z[0]?) h.1
    simpa using this
  obtain ⟨h2, h3⟩ := List.getElem?_eq_some_iff.1 h1
  rw [size_list] at h2
  refine ⟨h2, ?_⟩
  rw [← bt_at x (i : Int) (by simpa using h2), ← h3]
  simp
  rfl
theorem Dr.tail (h : Dr x i (c :: l)) : Dr x (i + 1) l := by
  refine ⟨?_, by have := h.2; simp only [List.length_cons] at this; omega⟩
  rw [← List.drop_drop, h.1]
  rfl
theorem Dr.nil (h : Dr x i []) : i = x.size := by simpa using h.2
end
/-! ### run -/
theorem test_in (c : UInt8) : area_run.test 29 (c.toNat : Int) = some (inB c) := by
  unfold area_run.test
  rw [if_pos rfl]
  exact (toldA c).inn
theorem run_l0 {p : Nat} {f : UInt8 → Bool} (hf : ∀ c : UInt8, area_run.test p (c.toNat : Int) = some (f c)) {s : ByteArray} (hs : s.size ≤ 1000000) : ∀ (l : List UInt8) (n : Nat), Dr s n l → Ev (fun k => area_run.l0 k s p (n : Int)) ((n + (l.takeWhile f).length : Nat) : Int)
  | [], n, h => by
    refine ev_step ?_
    simp only [area_run.l0]
    have := h.nil
    exact ev_neg (by omega) (ev_eq (by simp))
  | c :: l, n, h => by
    refine ev_step ?_
    simp only [area_run.l0]
    obtain ⟨h1, h2⟩ := h.get
    rw [h2]
    refine ev_pos (by omega) (ev_pos (by omega) (ev_bindc (hf c) ?_))
    rw [w64 (by omega) (by omega), List.takeWhile_cons]
    cases hc : f c with
    | true =>
      refine ev_pos rfl (ev_cast (run_l0 hf hs l (n + 1) h.tail) ?_)
      simp only [if_true, List.length_cons]
      omega
    | false => exact ev_neg (by decide) (ev_eq (by simp))
theorem run_in {s : ByteArray} (hs : s.size ≤ 1000000) : Ev (fun k => area_run.f k s 29) (((s.data.toList.takeWhile inB).length : Nat) : Int) := by
  simp only [area_run.f]
  refine ev_pos (by simp) (ev_cast (run_l0 test_in hs _ 0 (Dr.all s)) ?_)
  omega
/-! ### area.Cells -/
section
variable {out : List ByteArray} {r : List ByteArray × Bool} {A B l : List UInt8} {c : UInt8}
end

/-! ### The document's Cells -/
section
variable {x : ByteArray} {out : List ByteArray} {r : List ByteArray × Bool} {A B l : List UInt8} {c : UInt8} {i j : Nat}
end
theorem lat (l0 : List (List ByteArray)) {i : Nat} {row : List ByteArray} (h : l0[i]? = some row) : rd_L1 l0 (i : Int) = row := by
  unfold rd_L1
  rw [Int.toNat_natCast, List.getD_eq_getElem?_getD, h]
  rfl
theorem sat (row : List ByteArray) {i : Nat} {s : ByteArray} (h : row[i]? = some s) : rdOf ByteArray.empty row (i : Int) = s := by
  unfold rdOf
  rw [Int.toNat_natCast, List.getD_eq_getElem?_getD, h]
  rfl
section
variable {x : List (List ByteArray)}
end
end Go.Proofs.YtofdhdafabmhmaaDoor.PureAr
end
section
/- area.boxes: plain laws: which rectangles it tells, and that each has just its name's cells where it says so. Conditions: rows and columns below 1000000. -/
namespace Go.Proofs.YtofdhdafabmhmaaDoor.Giv
open Go.RowKit Go.Proofs.YtofdhdafabmhmaaDoorW.PrintWords Go.Proofs.YtofdhdafabmhmaaDoorW.PrintLast Go.Proofs.YtofdhdafabmhmaaDoorW.PrintMore
open Go.Proofs.YtofdhdafabmhmaaDoor.Opn Go.Proofs.YtofdhdafabmhmaaDoor.PAr
open Go
/-- The cell of a row and a column. -/
def arAt (l0 : List (List ByteArray)) (r c : Nat) : Option ByteArray := (l0[r]?).bind (·[c]?)
theorem ar_row_mem (r0 : Nat) : ∀ (l : List ByteArray) (c0 : Nat) (x : ByteArray × Int × Int), x ∈ area_boxes.row r0 l c0 ↔ ∃ c : Nat, x.2.1 = r0 ∧ x.2.2 = ((c0 + c : Nat) : Int) ∧ l[c]? = some x.1 ∧ x.1.size ≠ 0
  | [], c0, x => by simp [area_boxes.row]
  | s :: l, c0, x => by
    have ih := ar_row_mem r0 l (c0 + 1) x
    have key : (∃ c : Nat, x.2.1 = r0 ∧ x.2.2 = ((c0 + c : Nat) : Int) ∧ (s :: l)[c]? = some x.1 ∧ x.1.size ≠ 0) ↔ ((x.2.1 = r0 ∧ x.2.2 = c0 ∧ s = x.1 ∧ x.1.size ≠ 0) ∨ ∃ c : Nat, x.2.1 = r0 ∧ x.2.2 = ((c0 + 1 + c : Nat) : Int) ∧ l[c]? = some x.1 ∧ x.1.size ≠ 0) := by
      constructor
      · rintro ⟨c, h1, h2, h3, h4⟩
        cases c with
        | zero => exact .inl ⟨h1, by simpa using h2, by simpa using h3, h4⟩
        | succ c => exact .inr ⟨c, h1, by rw [h2]; omega, by simpa using h3, h4⟩
      · rintro (⟨h1, h2, h3, h4⟩ | ⟨c, h1, h2, h3, h4⟩)
        · exact ⟨0, h1, by simpa using h2, by simpa using h3, h4⟩
        · exact ⟨c + 1, h1, by rw [h2]; omega, by simpa using h3, h4⟩
    rw [key, ← ih, show area_boxes.row r0 (s :: l) c0 = if s.size = 0 then area_boxes.row r0 l (c0 + 1) else (s, (r0 : Int), (c0 : Int)) :: area_boxes.row r0 l (c0 + 1) from rfl]
    split
    · rename_i hs
      constructor
      · exact .inr
      · rintro (⟨_, _, rfl, h⟩ | h)
        · exact absurd hs h
        · exact h
    · rename_i hs
      obtain ⟨x1, x2, x3⟩ := x
      simp only [List.mem_cons, Prod.mk.injEq]
      constructor
      · rintro (⟨rfl, rfl, rfl⟩ | h)
        · exact .inl ⟨rfl, rfl, rfl, hs⟩
        · exact .inr h
      · rintro (⟨rfl, rfl, rfl, h⟩ | h)
        · exact .inl ⟨rfl, rfl, rfl⟩
        · exact .inr h
theorem ar_cells_mem : ∀ (l0 : List (List ByteArray)) (r0 : Nat) (x : ByteArray × Int × Int), x ∈ area_boxes.cells l0 r0 ↔ ∃ r c : Nat, x.2.1 = ((r0 + r : Nat) : Int) ∧ x.2.2 = (c : Int) ∧ arAt l0 r c = some x.1 ∧ x.1.size ≠ 0
  | [], r0, x => by simp [area_boxes.cells, arAt]
  | l :: l0, r0, x => by
    have ih := ar_cells_mem l0 (r0 + 1) x
    have hr := ar_row_mem r0 l 0 x
    unfold area_boxes.cells
    rw [List.mem_append, ih, hr]
    constructor
    · rintro (⟨c, h1, h2, h3, h4⟩ | ⟨r, c, h1, h2, h3, h4⟩)
      · exact ⟨0, c, by simpa using h1, by simpa using h2, by simpa [arAt] using h3, h4⟩
      · exact ⟨r + 1, c, by rw [h1]; omega, h2, by simpa [arAt] using h3, h4⟩
    · rintro ⟨r, c, h1, h2, h3, h4⟩
      cases r with
      | zero => exact .inl ⟨c, by simpa using h1, by simpa using h2, by simpa [arAt] using h3, h4⟩
      | succ r => exact .inr ⟨r, c, by rw [h1]; omega, h2, by simpa [arAt] using h3, h4⟩
/-- Ahead of another one, row by row. -/
def arLt (x y : ByteArray × Int × Int) : Prop := x.2.1 < y.2.1 ∨ (x.2.1 = y.2.1 ∧ x.2.2 < y.2.2)
theorem ar_row_sorted (r0 : Nat) : ∀ (l : List ByteArray) (c0 : Nat), (area_boxes.row r0 l c0).Pairwise arLt
  | [], c0 => by simp [area_boxes.row]
  | s :: l, c0 => by
    have ih := ar_row_sorted r0 l (c0 + 1)
    rw [show area_boxes.row r0 (s :: l) c0 = if s.size = 0 then area_boxes.row r0 l (c0 + 1) else (s, (r0 : Int), (c0 : Int)) :: area_boxes.row r0 l (c0 + 1) from rfl]
    split
    · exact ih
    · refine List.pairwise_cons.2 ⟨fun y hy => ?_, ih⟩
      obtain ⟨c, h1, h2, _, _⟩ := (ar_row_mem r0 l (c0 + 1) y).1 hy
      exact .inr ⟨by simp [h1], by simp only [h2]; omega⟩
theorem ar_cells_sorted : ∀ (l0 : List (List ByteArray)) (r0 : Nat), (area_boxes.cells l0 r0).Pairwise arLt
  | [], r0 => by simp [area_boxes.cells]
  | l :: l0, r0 => by
    unfold area_boxes.cells
    refine List.pairwise_append.2 ⟨ar_row_sorted r0 l 0, ar_cells_sorted l0 (r0 + 1), fun x hx y hy => ?_⟩
    obtain ⟨c, h1, h2, _, _⟩ := (ar_row_mem r0 l 0 x).1 hx
    obtain ⟨r, c', h1', h2', _, _⟩ := (ar_cells_mem l0 (r0 + 1) y).1 hy
    exact .inl (by rw [h1, h1']; omega)
theorem ar_at_none (s : ByteArray) : ∀ out : List S33, area_boxes.at_ s out = none ↔ ∀ b ∈ out, b.f0 ≠ s
  | [] => by simp [area_boxes.at_]
  | x :: out => by
    have ih := ar_at_none s out
    unfold area_boxes.at_
    split
    · rename_i h
      simp [h]
    · rename_i h
      rw [Option.map_eq_none_iff, ih]
      simp [h]
/-- A rectangle is just as great as its name's cells need, and so many there are. -/
structure ArBox (pre : List (ByteArray × Int × Int)) (b : S33) (n : Int) : Prop where
  cnt : n = ((pre.filter (fun x => decide (x.1 = b.f0))).length : Nat)
  bd : ∀ x ∈ pre, x.1 = b.f0 → b.f1 ≤ x.2.1 ∧ x.2.1 < b.f1 + b.f3 ∧ b.f2 ≤ x.2.2 ∧ x.2.2 < b.f2 + b.f4
  top : ∃ x ∈ pre, x.1 = b.f0 ∧ x.2.1 = b.f1
  bot : ∃ x ∈ pre, x.1 = b.f0 ∧ x.2.1 = b.f1 + b.f3 - 1
  lef : ∃ x ∈ pre, x.1 = b.f0 ∧ x.2.2 = b.f2
  rig : ∃ x ∈ pre, x.1 = b.f0 ∧ x.2.2 = b.f2 + b.f4 - 1
open Classical in
/-- The first cells of all names. -/
noncomputable def arFirsts (pre : List (ByteArray × Int × Int)) : List ByteArray := pre.foldl (fun (o : List ByteArray) x => if x.1 ∈ o then o else o ++ [x.1]) []
structure ArInv (pre : List (ByteArray × Int × Int)) (out : List S33) (cnt : List Int) : Prop where
  len : out.length = cnt.length
  names : out.map (·.f0) = arFirsts pre
  box : ∀ (k : Nat) (b : S33) (n : Int), out[k]? = some b → cnt[k]? = some n → ArBox pre b n
open Classical in
theorem ar_firsts_snoc (pre) (x : ByteArray × Int × Int) : arFirsts (pre ++ [x]) = if x.1 ∈ arFirsts pre then arFirsts pre else arFirsts pre ++ [x.1] := by
  unfold arFirsts
  rw [List.foldl_append, List.foldl_cons, List.foldl_nil]
theorem ar_firsts_mem (s : ByteArray) : ∀ (n : Nat) (pre : List (ByteArray × Int × Int)), pre.length = n → (s ∈ arFirsts pre ↔ ∃ x ∈ pre, x.1 = s)
  | 0, pre, h => by
    obtain rfl := List.length_eq_zero_iff.1 h
    simp [arFirsts]
  | n + 1, pre, h => by
    obtain ⟨p, x, rfl⟩ : ∃ p x, pre = p ++ [x] := ⟨pre.dropLast, pre.getLast (by intro e; simp [e] at h), (List.dropLast_concat_getLast _).symm⟩
    have ih := ar_firsts_mem s n p (by simpa using h)
    rw [ar_firsts_snoc]
    simp only [List.mem_append, List.mem_singleton, or_and_right, exists_or, exists_eq_left]
    split
    · rename_i hx
      rw [ih]
      constructor
      · exact .inl
      · rintro (h | rfl)
        · exact h
        · exact ih.1 hx
    · simp only [List.mem_append, List.mem_singleton, ih, eq_comm]
theorem ar_firsts_nodup : ∀ (n : Nat) (pre : List (ByteArray × Int × Int)), pre.length = n → (arFirsts pre).Nodup
  | 0, pre, h => by
    obtain rfl := List.length_eq_zero_iff.1 h
    simp [arFirsts]
  | n + 1, pre, h => by
    obtain ⟨p, x, rfl⟩ : ∃ p x, pre = p ++ [x] := ⟨pre.dropLast, pre.getLast (by intro e; simp [e] at h), (List.dropLast_concat_getLast _).symm⟩
    have ih := ar_firsts_nodup n p (by simpa using h)
    rw [ar_firsts_snoc]
    split
    · exact ih
    · rename_i hx
      refine List.nodup_append.2 ⟨ih, by simp, fun a ha b hb => ?_⟩
      simp only [List.mem_singleton] at hb
      subst hb
      exact fun e => hx (e ▸ ha)
def arIn (x : ByteArray × Int × Int) : Prop := 0 ≤ x.2.1 ∧ x.2.1 < 1000000 ∧ 0 ≤ x.2.2 ∧ x.2.2 < 1000000
theorem ar_w (x : Int) (h1 : -9223372036854775808 ≤ x) (h2 : x ≤ 9223372036854775807) : wrap64 x = x := by
  unfold wrap64
  omega
theorem ar_step_inv {pre : List (ByteArray × Int × Int)} {out : List S33} {cnt : List Int} (x : ByteArray × Int × Int) (h : ArInv pre out cnt) (hp : ∀ y ∈ pre, arIn y) (hx : arIn x) (hs : ∀ y ∈ pre, arLt y x) (hl : pre.length < 2000000000000) :
    ArInv (pre ++ [x]) (area_boxes.step x (out, cnt)).1 (area_boxes.step x (out, cnt)).2 := by
  obtain ⟨s, r, c⟩ := x
  have hxr := hx.1
  have hxr2 := hx.2.1
  have hxc := hx.2.2.1
  have hxc2 := hx.2.2.2
  dsimp only at hxr hxr2 hxc hxc2
  have hmem : ∀ s', s' ∈ arFirsts pre ↔ ∃ y ∈ pre, y.1 = s' := fun s' => ar_firsts_mem s' _ pre rfl
  have hold : ∀ b n, ArBox pre b n → b.f0 ≠ s → ArBox (pre ++ [(s, r, c)]) b n := by
    intro b n hb hne
    refine ⟨?_, ?_, ?_, ?_, ?_, ?_⟩
    · rw [hb.cnt, List.filter_append]
      simp [Ne.symm hne]
    · intro y hy hy1
      rcases List.mem_append.1 hy with hy | hy
      · exact hb.bd y hy hy1
      · simp only [List.mem_singleton] at hy
        subst hy
        exact absurd hy1.symm hne
    all_goals
      first
      | (obtain ⟨y, hy, h1, h2⟩ := hb.top; exact ⟨y, List.mem_append_left _ hy, h1, h2⟩)
      | (obtain ⟨y, hy, h1, h2⟩ := hb.bot; exact ⟨y, List.mem_append_left _ hy, h1, h2⟩)
      | (obtain ⟨y, hy, h1, h2⟩ := hb.lef; exact ⟨y, List.mem_append_left _ hy, h1, h2⟩)
      | (obtain ⟨y, hy, h1, h2⟩ := hb.rig; exact ⟨y, List.mem_append_left _ hy, h1, h2⟩)
  unfold area_boxes.step
  cases hat : area_boxes.at_ s out with
  | none =>
    have hno := (ar_at_none s out).1 hat
    have hnf : s ∉ arFirsts pre := by
      rw [← h.names]
      intro hm
      obtain ⟨b, hb, e⟩ := List.mem_map.1 hm
      exact hno b hb e
    have hnp : ∀ y ∈ pre, y.1 ≠ s := fun y hy e => hnf ((hmem s).2 ⟨y, hy, e⟩)
    dsimp only
    refine ⟨by simp [h.len], by rw [ar_firsts_snoc, if_neg hnf]; simp [h.names], fun k b n hb hn => ?_⟩
    rw [List.getElem?_append] at hb hn
    by_cases hk : k < out.length
    · rw [if_pos hk] at hb
      rw [if_pos (by rw [← h.len]; exact hk)] at hn
      exact hold b n (h.box k b n hb hn) (hno b (List.mem_of_getElem? hb))
    · rw [if_neg hk] at hb
      rw [if_neg (by rw [← h.len]; exact hk)] at hn
      have hk0 : k - out.length = 0 := by
        by_cases h0 : k - out.length = 0
        · exact h0
        · rw [List.getElem?_eq_none (by simp; omega)] at hb
          cases hb
      rw [hk0] at hb
      rw [← h.len, hk0] at hn
      simp at hb hn
      subst hb hn
      refine ⟨?_, ?_, ⟨(s, r, c), by simp, rfl, rfl⟩, ⟨(s, r, c), by simp, rfl, ?_⟩, ⟨(s, r, c), by simp, rfl, rfl⟩, ⟨(s, r, c), by simp, rfl, ?_⟩⟩
      · rw [List.filter_append, List.filter_eq_nil_iff.2 (by intro y hy; simp [hnp y hy])]
        simp
      · intro y hy hy1
        rcases List.mem_append.1 hy with hy | hy
        · exact absurd hy1 (hnp y hy)
        · simp only [List.mem_singleton] at hy
          subst hy
          dsimp only
          omega
      · dsimp only; omega
      · dsimp only; omega
  | some k =>
    obtain ⟨b0, hb0, hbs⟩ := ar_at_some s out k hat
    have hsf : s ∈ arFirsts pre := by
      rw [← h.names]
      exact List.mem_map.2 ⟨b0, List.mem_of_getElem? hb0, hbs⟩
    dsimp only
    have hkl : k < out.length := (List.getElem?_eq_some_iff.1 hb0).1
    have hnod : (out.map (·.f0)).Nodup := by rw [h.names]; exact ar_firsts_nodup _ pre rfl
    refine ⟨by simp [h.len], ?_, fun k' b n hb hn => ?_⟩
    · rw [ar_firsts_snoc, if_pos hsf, ← h.names]
      apply List.ext_getElem?
      intro i
      simp only [List.getElem?_map, List.getElem?_modify]
      by_cases hik : k = i
      · subst hik
        rw [hb0]
        simp [area_boxes.wide]
      · simp [hik]
    · rw [List.getElem?_modify] at hb hn
      by_cases hkk : k = k'
      · subst hkk
        obtain ⟨n0, hn0⟩ : ∃ n0, cnt[k]? = some n0 := ⟨_, List.getElem?_eq_getElem (by rw [← h.len]; exact hkl)⟩
        have hB := h.box k b0 n0 hb0 hn0
        rw [hb0] at hb
        rw [hn0] at hn
        simp at hb hn
        subst hb hn
        subst hbs
        obtain ⟨xt, hxt, ht1, ht2⟩ := hB.top
        obtain ⟨xb, hxb, hb1, hb2⟩ := hB.bot
        obtain ⟨xl, hxl, hl1, hl2⟩ := hB.lef
        obtain ⟨xr, hxr', hr1, hr2⟩ := hB.rig
        have it := hp xt hxt
        have ib := hp xb hxb
        have il := hp xl hxl
        have ir := hp xr hxr'
        unfold arIn at it ib il ir
        have hbl := hB.bd xl hxl hl1
        have hfl : (pre.filter (fun x => decide (x.1 = b0.f0))).length ≤ pre.length := List.length_filter_le _ _
        have st := hs xt hxt
        unfold arLt at st
        dsimp only at st
        have e1 : wrap64 (r + 1) = r + 1 := ar_w _ (by omega) (by omega)
        have e2 : wrap64 (r + 1 - b0.f1) = r + 1 - b0.f1 := ar_w _ (by omega) (by omega)
        have e3 : wrap64 (b0.f2 + b0.f4) = b0.f2 + b0.f4 := ar_w _ (by omega) (by omega)
        have e4 : wrap64 (c + 1) = c + 1 := ar_w _ (by omega) (by omega)
        have e5 : wrap64 (max (b0.f2 + b0.f4) (c + 1) - min b0.f2 c) = max (b0.f2 + b0.f4) (c + 1) - min b0.f2 c := ar_w _ (by omega) (by omega)
        have ew : area_boxes.wide b0 r c = ⟨b0.f0, b0.f1, min b0.f2 c, r + 1 - b0.f1, max (b0.f2 + b0.f4) (c + 1) - min b0.f2 c⟩ := by
          unfold area_boxes.wide
          rw [e1, e2, e3, e4, e5]
        rw [ew]
        refine ⟨?_, ?_, ⟨xt, List.mem_append_left _ hxt, ht1, ht2⟩, ⟨(b0.f0, r, c), by simp, rfl, ?_⟩, ?_, ?_⟩
        · rw [hB.cnt, List.filter_append]
          dsimp only
          simp only [List.filter_cons, decide_true, List.filter_nil, if_true, List.length_append, List.length_singleton]
          exact (ar_w _ (by omega) (by omega)).trans (by omega)
        · intro y hy hy1
          dsimp only at hy1 ⊢
          rcases List.mem_append.1 hy with hy | hy
          · have hb := hB.bd y hy hy1
            have sy := hs y hy
            unfold arLt at sy
            dsimp only at sy
            omega
          · simp only [List.mem_singleton] at hy
            subst hy
            dsimp only
            omega
        · dsimp only; omega
        · by_cases hc : b0.f2 ≤ c
          · exact ⟨xl, List.mem_append_left _ hxl, hl1, by dsimp only; omega⟩
          · exact ⟨(b0.f0, r, c), by simp, rfl, by dsimp only; omega⟩
        · by_cases hc : c + 1 ≤ b0.f2 + b0.f4
          · exact ⟨xr, List.mem_append_left _ hxr', hr1, by dsimp only; omega⟩
          · exact ⟨(b0.f0, r, c), by simp, rfl, by dsimp only; omega⟩
      · simp [hkk] at hb hn
        refine hold b n (h.box k' b n hb hn) (fun e => hkk ?_)
        have h1 : (out.map (·.f0))[k]? = some s := by simp [hb0, hbs]
        have h2 : (out.map (·.f0))[k']? = some s := by simp [hb, e]
        exact (List.getElem?_inj (by simpa using hkl) hnod).1 (h1.trans h2.symm)
theorem ar_run_inv : ∀ (n : Nat) (pre : List (ByteArray × Int × Int)), pre.length = n → pre.Pairwise arLt → (∀ y ∈ pre, arIn y) → pre.length < 2000000000000 → ArInv pre (area_boxes.run pre).1 (area_boxes.run pre).2
  | 0, pre, h, _, _, _ => by
    obtain rfl := List.length_eq_zero_iff.1 h
    exact ⟨rfl, rfl, fun k b n hb => by simp [area_boxes.run] at hb⟩
  | n + 1, pre, h, hs, hp, hl => by
    obtain ⟨p, x, rfl⟩ : ∃ p x, pre = p ++ [x] := ⟨pre.dropLast, pre.getLast (by intro e; simp [e] at h), (List.dropLast_concat_getLast _).symm⟩
    obtain ⟨hs1, _, hs2⟩ := List.pairwise_append.1 hs
    have ih := ar_run_inv n p (by simpa using h) hs1 (fun y hy => hp y (List.mem_append_left _ hy)) (by simp at hl; omega)
    have e : area_boxes.run (p ++ [x]) = area_boxes.step x (area_boxes.run p) := by simp [area_boxes.run]
    rw [e]
    exact ar_step_inv x ih (fun y hy => hp y (List.mem_append_left _ hy)) (hp x (by simp)) (fun y hy => hs2 y hy x (by simp)) (by simp at hl; omega)
theorem ar_nodup_le {α : Type} [DecidableEq α] : ∀ (L R : List α), L.Nodup → (∀ x ∈ L, x ∈ R) → L.length ≤ R.length
  | [], _, _, _ => by simp
  | x :: L, R, hn, hs => by
    obtain ⟨h1, h2⟩ := List.nodup_cons.1 hn
    have hx := hs x (List.mem_cons_self ..)
    have ih := ar_nodup_le L (R.erase x) h2 (fun y hy => (List.mem_erase_of_ne (fun (e : y = x) => h1 (e ▸ hy))).2 (hs y (List.mem_cons_of_mem _ hy)))
    rw [List.length_erase_of_mem hx] at ih
    have := List.length_pos_of_mem hx
    simp only [List.length_cons]
    omega
theorem ar_cover {α : Type} [DecidableEq α] {L R : List α} (hn : L.Nodup) (hs : ∀ x ∈ L, x ∈ R) (hl : R.length ≤ L.length) : ∀ x ∈ R, x ∈ L := by
  intro x hx
  apply Classical.byContradiction
  intro hno
  have := ar_nodup_le (x :: L) R (List.nodup_cons.2 ⟨hno, hn⟩) (fun y hy => by
    rcases List.mem_cons.1 hy with rfl | hy
    · exact hx
    · exact hs y hy)
  simp only [List.length_cons] at this
  omega
/-- All places of a rectangle. -/
def arRect (a b : Int) (h w : Nat) : List (Int × Int) := (List.range h).flatMap fun (i : Nat) => (List.range w).map fun (j : Nat) => (a + (i : Int), b + (j : Int))
theorem ar_rect_len (a b : Int) (h w : Nat) : (arRect a b h w).length = h * w := by
  unfold arRect
  induction h with
  | zero => simp
  | succ h ih => rw [List.range_succ, List.flatMap_append, List.length_append, ih]; simp [Nat.succ_mul]
theorem ar_rect_mem (a b : Int) (h w : Nat) (x : Int × Int) : x ∈ arRect a b h w ↔ a ≤ x.1 ∧ x.1 < a + h ∧ b ≤ x.2 ∧ x.2 < b + w := by
  obtain ⟨r, c⟩ := x
  unfold arRect
  simp only [List.mem_flatMap, List.mem_range, List.mem_map, Prod.mk.injEq]
  constructor
  · rintro ⟨i, hi, j, hj, rfl, rfl⟩
    omega
  · rintro ⟨h1, h2, h3, h4⟩
    exact ⟨(r - a).toNat, by omega, (c - b).toNat, by omega, by omega, by omega⟩
/-- The places of a name's cells. -/
def arPts (pre : List (ByteArray × Int × Int)) (s : ByteArray) : List (Int × Int) := (pre.filter (fun x => decide (x.1 = s))).map (·.2)
theorem ar_pts_mem (pre : List (ByteArray × Int × Int)) (s : ByteArray) (p : Int × Int) : p ∈ arPts pre s ↔ (s, p.1, p.2) ∈ pre := by
  unfold arPts
  simp only [List.mem_map, List.mem_filter, decide_eq_true_eq]
  constructor
  · rintro ⟨⟨s', q⟩, ⟨h1, h2⟩, rfl⟩
    dsimp only at h2
    subst h2
    exact h1
  · intro h
    exact ⟨_, ⟨h, rfl⟩, rfl⟩
theorem ar_pts_nodup {pre : List (ByteArray × Int × Int)} (h : pre.Pairwise arLt) (s : ByteArray) : (arPts pre s).Nodup := by
  unfold arPts
  refine List.pairwise_map.2 ((h.filter _).imp ?_)
  intro x y hxy e
  unfold arLt at hxy
  rw [e] at hxy
  omega
theorem ar_full_iff : ∀ (out : List S33) (cnt : List Int), area_boxes.full out cnt = true ↔ ∀ (k : Nat) (b : S33) (n : Int), out[k]? = some b → cnt[k]? = some n → wrap64 (b.f3 * b.f4) = n
  | [], cnt => by simp [area_boxes.full]
  | b :: out, [] => by simp [area_boxes.full]
  | b :: out, n :: cnt => by
    have ih := ar_full_iff out cnt
    simp only [area_boxes.full, Bool.and_eq_true, decide_eq_true_eq, ih]
    constructor
    · rintro ⟨h1, h2⟩ k b' n' hb hn
      cases k with
      | zero =>
        simp at hb hn
        subst hb hn
        exact h1
      | succ k => exact h2 k b' n' (by simpa using hb) (by simpa using hn)
    · intro h
      exact ⟨h 0 b n rfl rfl, fun k b' n' hb hn => h (k + 1) b' n' (by simpa using hb) (by simpa using hn)⟩
theorem ar_box_dims {pre : List (ByteArray × Int × Int)} {b : S33} {n : Int} (hB : ArBox pre b n) (hp : ∀ y ∈ pre, arIn y) : 0 ≤ b.f1 ∧ b.f1 < 1000000 ∧ 0 ≤ b.f2 ∧ b.f2 < 1000000 ∧ 1 ≤ b.f3 ∧ b.f1 + b.f3 ≤ 1000000 ∧ 1 ≤ b.f4 ∧ b.f2 + b.f4 ≤ 1000000 := by
  obtain ⟨xt, hxt, ht1, ht2⟩ := hB.top
  obtain ⟨xb, hxb, hb1, hb2⟩ := hB.bot
  obtain ⟨xl, hxl, hl1, hl2⟩ := hB.lef
  obtain ⟨xr, hxr, hr1, hr2⟩ := hB.rig
  have it := hp xt hxt
  have ib := hp xb hxb
  have il := hp xl hxl
  have ir := hp xr hxr
  have jt := hB.bd xt hxt ht1
  unfold arIn at it ib il ir
  omega
theorem ar_prod (a b : Int) (ha : 1 ≤ a) (ha2 : a ≤ 1000000) (hb : 1 ≤ b) (hb2 : b ≤ 1000000) : wrap64 (a * b) = a * b ∧ ((a.toNat * b.toNat : Nat) : Int) = a * b := by
  have h1 : 0 ≤ a * b := Int.mul_nonneg (by omega) (by omega)
  have h2 : a * b ≤ 1000000 * 1000000 := Int.mul_le_mul ha2 hb2 (by omega) (by omega)
  refine ⟨ar_w _ (by omega) (by omega), ?_⟩
  rw [Int.natCast_mul, Int.toNat_of_nonneg (by omega), Int.toNat_of_nonneg (by omega)]
theorem ar_box_full {pre : List (ByteArray × Int × Int)} {b : S33} {n : Int} (hB : ArBox pre b n) (hs : pre.Pairwise arLt) (hp : ∀ y ∈ pre, arIn y) (hf : wrap64 (b.f3 * b.f4) = n) (r c : Int) :
    (b.f0, r, c) ∈ pre ↔ b.f1 ≤ r ∧ r < b.f1 + b.f3 ∧ b.f2 ≤ c ∧ c < b.f2 + b.f4 := by
  obtain ⟨d1, d2, d3, d4, d5, d6, d7, d8⟩ := ar_box_dims hB hp
  obtain ⟨q1, q2⟩ := ar_prod b.f3 b.f4 (by omega) (by omega) (by omega) (by omega)
  constructor
  · intro h
    have := hB.bd _ h rfl
    dsimp only at this
    omega
  · intro h
    have hsub : ∀ p ∈ arPts pre b.f0, p ∈ arRect b.f1 b.f2 b.f3.toNat b.f4.toNat := by
      intro p hp1
      have := hB.bd _ ((ar_pts_mem _ _ _).1 hp1) rfl
      dsimp only at this
      rw [ar_rect_mem]
      omega
    have hlen : (arRect b.f1 b.f2 b.f3.toNat b.f4.toNat).length ≤ (arPts pre b.f0).length := by
      have h1 := hB.cnt
      have h2 : (arPts pre b.f0).length = (pre.filter (fun x => decide (x.1 = b.f0))).length := by simp [arPts]
      rw [ar_rect_len, h2]
      omega
    have := ar_cover (ar_pts_nodup hs b.f0) hsub hlen (r, c) (by rw [ar_rect_mem]; dsimp only; omega)
    exact (ar_pts_mem _ _ _).1 this
end Go.Proofs.YtofdhdafabmhmaaDoor.Giv
end
section
/- Which rows are areas: area.Good, area.Rects; what their rectangles are. Conditions: as each theorem says. -/
namespace Go.Proofs.YtofdhdafabmhmaaDoor.PureAr
open Go.RowKit Go.Proofs.YtofdhdafabmhmaaDoorW.PrintWords Go.Proofs.YtofdhdafabmhmaaDoorW.PrintMore Go.Proofs.YtofdhdafabmhmaaDoor.Evs Go.Proofs.YtofdhdafabmhmaaDoor.Opn Go.Proofs.YtofdhdafabmhmaaDoor.PAr Go.Proofs.YtofdhdafabmhmaaDoor.Giv
open Go
def cellOk (s : ByteArray) : Bool := decide (s.size ≤ 64) && s.data.toList.all inB
def rowOk (h : Nat) (l : List ByteArray) : Bool := decide (1 ≤ l.length ∧ l.length ≤ 64 ∧ l.length = h) && l.all cellOk
def boxR (l0 : List (List ByteArray)) : List S33 × List Int := area_boxes.run (area_boxes.cells l0 0)
def fullB (l0 : List (List ByteArray)) : Bool := area_boxes.full (boxR l0).1 (boxR l0).2
def goodB (l0 : List (List ByteArray)) : Bool := decide (l0.length ≤ 64) && (l0.all (rowOk (l0.headD []).length) && fullB l0)
theorem tw_all {f : UInt8 → Bool} : ∀ l : List UInt8, decide ((l.takeWhile f).length < l.length) = !l.all f
  | [] => rfl
  | c :: l => by
    have ih := tw_all (f := f) l
    rw [List.takeWhile_cons, List.all_cons]
    cases f c with
    | false => simp
    | true =>
      simp only [if_true, List.length_cons, Bool.true_and]
      rw [← ih]
      congr 1
      simp
theorem row_len (r : Nat) : ∀ (l : List ByteArray) (c : Nat), (area_boxes.row r l c).length ≤ l.length
  | [], c => by simp [area_boxes.row]
  | s :: l, c => by
    have ih := row_len r l (c + 1)
    rw [show area_boxes.row r (s :: l) c = if s.size = 0 then area_boxes.row r l (c + 1) else (s, (r : Int), (c : Int)) :: area_boxes.row r l (c + 1) from rfl]
    split <;> simp only [List.length_cons] <;> omega
theorem cells_len (m : Nat) : ∀ (l0 : List (List ByteArray)) (r : Nat), (∀ l ∈ l0, l.length ≤ m) → (area_boxes.cells l0 r).length ≤ l0.length * m
  | [], r, _ => by simp [area_boxes.cells]
  | l :: l0, r, h => by
    have ih := cells_len m l0 (r + 1) (fun l hl => h l (List.mem_cons_of_mem _ hl))
    have h1 := row_len r l 0
    have h2 := h l List.mem_cons_self
    rw [area_boxes.cells, List.length_append, List.length_cons, Nat.succ_mul]
    omega
theorem rowOk_len {h : Nat} {l : List ByteArray} (hr : rowOk h l = true) : 1 ≤ l.length ∧ l.length ≤ 64 ∧ l.length = h ∧ ∀ s ∈ l, s.size ≤ 64 ∧ ∀ c ∈ s.data.toList, inB c = true := by
  simp only [rowOk, Bool.and_eq_true, decide_eq_true_eq, List.all_eq_true] at hr
  refine ⟨hr.1.1, hr.1.2.1, hr.1.2.2, fun s hs => ?_⟩
  have := hr.2 s hs
  simp only [cellOk, Bool.and_eq_true, decide_eq_true_eq, List.all_eq_true] at this
  exact this
theorem boxes_f {l0 : List (List ByteArray)} (h1 : l0.length ≤ 64) (h2 : ∀ l ∈ l0, l.length ≤ 64 ∧ ∀ s ∈ l, s.size ≤ 64) (k : Nat) : area_boxes.f k l0 = if fullB l0 = true then some ((boxR l0).1, true) else some ([], false) := by
  have h3 := cells_len 64 l0 0 (fun l hl => (h2 l hl).1)
  unfold area_boxes.f
  rw [if_pos ⟨by omega, by omega, fun l hl => ⟨by have := (h2 l hl).1; omega, fun s hs => by have := (h2 l hl).2 s hs; omega⟩⟩]
  rfl
section
variable {l0 : List (List ByteArray)} {r : Bool} {i : Nat}
theorem good_l1 (row : List ByteArray) (hl : row.length ≤ 64) : ∀ (n j : Nat), j + n = row.length → ((row.drop j).all cellOk = true → Ev (fun k => area_Good.l0 k l0 l0 (l0.length : Int) (wrap64 ((i : Int) + 1))) r) → Ev (fun k => area_Good.l1 k l0 l0 (l0.length : Int) (i : Int) row (row.length : Int) (j : Int)) ((row.drop j).all cellOk && r)
  | 0, j, hj, h => by
    refine ev_step ?_
    simp only [area_Good.l1]
    rw [List.drop_of_length_le (by omega)] at h ⊢
    exact ev_neg (by omega) (h rfl)
  | n + 1, j, hj, h => by
    refine ev_step ?_
    simp only [area_Good.l1]
    have hlt : j < row.length := by omega
    obtain ⟨s, hs⟩ : ∃ s, row[j]? = some s := ⟨_, List.getElem?_eq_getElem hlt⟩
    have e1 : rdOf ByteArray.empty row (j : Int) = s := by
      unfold rdOf
      rw [Int.toNat_natCast, List.getD_eq_getElem?_getD, hs]
      rfl
    have e2 : row.drop j = s :: row.drop (j + 1) := by
      rw [List.drop_eq_getElem_cons hlt, (List.getElem?_eq_some_iff.1 hs).2]
    rw [e1, e2, List.all_cons]
    refine ev_pos (by omega) (ev_pos (by omega) (ev_pos (by omega) (ev_ite (fun hb => ?_) (fun hb => ?_))))
    · refine ev_eq ?_
      have : cellOk s = false := by
        unfold cellOk
        rw [decide_eq_false (by omega)]
        rfl
      rw [this]
      rfl
    · have hc : decide ((s.data.toList.takeWhile inB).length < s.data.toList.length) = !s.data.toList.all inB := tw_all _
      rw [size_list] at hc
      refine ev_bind (run_in (by omega)) (ev_ite (fun hb2 => ?_) (fun hb2 => ?_))
      · refine ev_eq ?_
        rw [decide_eq_true (by omega)] at hc
        have : cellOk s = false := by
          unfold cellOk
          rw [show s.data.toList.all inB = false by simpa using hc.symm, Bool.and_false]
        rw [this]
        rfl
      · rw [decide_eq_false (by omega)] at hc
        have : cellOk s = true := by
          unfold cellOk
          rw [show s.data.toList.all inB = true by simpa using hc.symm, decide_eq_true (by omega)]
          rfl
        rw [this, Bool.true_and, w64 (by omega) (by omega)]
        exact good_l1 row hl n (j + 1) (by omega) (fun h'' => h (by rw [e2, List.all_cons, this, h'']; rfl))
theorem good_l0 (h64 : l0.length ≤ 64) : ∀ (n i : Nat), i + n = l0.length → (∀ l ∈ l0.take i, rowOk (l0.headD []).length l = true) → Ev (fun k => area_Good.l0 k l0 l0 (l0.length : Int) (i : Int)) ((l0.drop i).all (rowOk (l0.headD []).length) && fullB l0)
  | 0, i, hi, hok => by
    refine ev_step ?_
    simp only [area_Good.l0]
    have hi0 : i = l0.length := by omega
    subst hi0
    rw [List.take_length] at hok
    rw [List.drop_length]
    refine ev_neg (by omega) ?_
    have hb : ∀ k, area_boxes.f k l0 = if fullB l0 = true then some ((boxR l0).1, true) else some ([], false) := boxes_f h64 (fun l hl => by
      obtain ⟨_, a, _, b⟩ := rowOk_len (hok l hl)
      exact ⟨a, fun s hs => (b s hs).1⟩)
    refine Ev.congr (f := fun _ => some (fullB l0)) (fun k => ?_) (ev_eq (by rw [List.all_nil, Bool.true_and]))
    rw [hb]
    cases fullB l0 <;> rfl
  | n + 1, i, hi, hok => by
    refine ev_step ?_
    simp only [area_Good.l0]
    have hlt : i < l0.length := by omega
    obtain ⟨row, hs⟩ : ∃ s, l0[i]? = some s := ⟨_, List.getElem?_eq_getElem hlt⟩
    have e1 : rd_L1 l0 (i : Int) = row := by
      unfold rd_L1
      rw [Int.toNat_natCast, List.getD_eq_getElem?_getD, hs]
      rfl
    have e2 : l0.drop i = row :: l0.drop (i + 1) := by
      rw [List.drop_eq_getElem_cons hlt, (List.getElem?_eq_some_iff.1 hs).2]
    have e3 : rd_L1 l0 0 = l0.headD [] := by
      unfold rd_L1
      cases l0 <;> rfl
    rw [e1, e2, e3, List.all_cons]
    have bad : rowOk (l0.headD []).length row = false → Ev (fun k => area_Good.j1 k l0 row l0 (l0.length : Int) (i : Int) true) ((rowOk (l0.headD []).length row && (l0.drop (i + 1)).all (rowOk (l0.headD []).length)) && fullB l0) := fun hb => by
      rw [hb]
      refine ev_step ?_
      simp only [area_Good.j1]
      exact ev_pos (by trivial) (ev_eq rfl)
    refine ev_pos (by omega) (ev_pos (by omega) (ev_pos (by omega) (ev_ite (fun h1 => bad ?_) (fun h1 => ev_ite (fun h2 => bad ?_) (fun h2 => ev_pos (by omega) ?_)))))
    · unfold rowOk
      rw [decide_eq_false (by omega)]
      rfl
    · unfold rowOk
      rw [decide_eq_false (by omega)]
      rfl
    · by_cases h3 : row.length = (l0.headD []).length
      · rw [show ((row.length : Int) != ((l0.headD []).length : Int)) = false by rw [h3]; simp]
        refine ev_step ?_
        simp only [area_Good.j1]
        refine ev_neg (by decide) ?_
        have hr : rowOk (l0.headD []).length row = row.all cellOk := by
          unfold rowOk
          rw [decide_eq_true ⟨by omega, by omega, h3⟩, Bool.true_and]
        have := good_l1 (i := i) (r := (l0.drop (i + 1)).all (rowOk (l0.headD []).length) && fullB l0) row (by omega) row.length 0 (by omega) (fun hc => by
          rw [w64 (by omega) (by omega)]
          exact good_l0 h64 n (i + 1) (by omega) (fun l hl => by
            rw [List.take_add_one, hs] at hl
            rcases List.mem_append.1 hl with hl | hl
            · exact hok l hl
            · simp at hl
              subst hl
              rw [hr]
              exact hc))
        rw [List.drop_zero, ← hr] at this
        rw [Bool.and_assoc]
        exact this
      · rw [show ((row.length : Int) != ((l0.headD []).length : Int)) = true by simp only [bne_iff_ne, ne_eq]; omega]
        refine bad ?_
        unfold rowOk
        rw [decide_eq_false (by omega)]
        rfl
end
theorem good_ev (l0 : List (List ByteArray)) : Ev (fun k => area_Good.f k l0) (goodB l0) := by
  simp only [area_Good.f]
  refine ev_ite (fun h => ev_eq ?_) (fun h => ?_)
  · unfold goodB
    rw [decide_eq_false (by omega)]
    rfl
  · have := good_l0 (l0 := l0) (by omega) l0.length 0 (by omega) (fun l hl => by simp at hl)
    rw [List.drop_zero] at this
    unfold goodB
    rw [decide_eq_true (by omega), Bool.true_and]
    exact this
structure GoodA (l0 : List (List ByteArray)) : Prop where
  n : l0.length ≤ 64
  row : ∀ l ∈ l0, 1 ≤ l.length ∧ l.length ≤ 64 ∧ l.length = (l0.headD []).length ∧ ∀ s ∈ l, s.size ≤ 64 ∧ ∀ c ∈ s.data.toList, inB c = true
  full : fullB l0 = true
theorem good_of {l0 : List (List ByteArray)} (h : goodB l0 = true) : GoodA l0 := by
  simp only [goodB, Bool.and_eq_true, decide_eq_true_eq, List.all_eq_true] at h
  exact ⟨h.1, fun l hl => rowOk_len (h.2.1 l hl), h.2.2⟩
theorem good_boxes {l0 : List (List ByteArray)} (h : GoodA l0) (k : Nat) : area_boxes.f k l0 = some ((boxR l0).1, true) := by
  rw [boxes_f h.n (fun l hl => ⟨(h.row l hl).2.1, fun s hs => ((h.row l hl).2.2.2 s hs).1⟩), h.full]
  rfl
theorem rects_ev {l0 : List (List ByteArray)} (h : goodB l0 = true) : Ev (fun k => area_Rects.f k l0) (boxR l0).1 := by
  simp only [area_Rects.f]
  have hg := good_ev l0
  rw [h] at hg
  refine ev_bind hg (ev_pos rfl (Ev.congr (f := fun _ => some (boxR l0).1) (fun k => ?_) ev_some))
  rw [good_boxes (good_of h)]
  rfl
/-- What a rectangle has. -/
def inRect (b : S33) (r c : Int) : Prop := b.f1 ≤ r ∧ r < b.f1 + b.f3 ∧ b.f2 ≤ c ∧ c < b.f2 + b.f4
instance (b : S33) (r c : Int) : Decidable (inRect b r c) := by unfold inRect; exact inferInstance
/-- The laws of rows that are areas. -/
structure AreasA (l0 : List (List ByteArray)) (out : List S33) : Prop where
  dims : ∀ b ∈ out, 0 ≤ b.f1 ∧ b.f1 < 1000000 ∧ 0 ≤ b.f2 ∧ b.f2 < 1000000 ∧ 1 ≤ b.f3 ∧ b.f1 + b.f3 ≤ 1000000 ∧ 1 ≤ b.f4 ∧ b.f2 + b.f4 ≤ 1000000
  has : ∀ b ∈ out, ∀ r c : Nat, inRect b r c ↔ (arAt l0 r c = some b.f0 ∧ b.f0.size ≠ 0)
  nodup : (out.map (·.f0)).Nodup
  all : ∀ (r c : Nat) (s : ByteArray), arAt l0 r c = some s → s.size ≠ 0 → ∃ b ∈ out, b.f0 = s
  names : out.map (·.f0) = arFirsts (area_boxes.cells l0 0)
theorem firsts_len : ∀ pre : List (ByteArray × Int × Int), (arFirsts pre).length ≤ pre.length := by
  intro pre
  have : ∀ (n : Nat) (pre : List (ByteArray × Int × Int)), pre.length = n → (arFirsts pre).length ≤ pre.length := by
    intro n
    induction n with
    | zero =>
      intro pre h
      obtain rfl := List.length_eq_zero_iff.1 h
      simp [arFirsts]
    | succ n ih =>
      intro pre h
      obtain ⟨p, x, rfl⟩ : ∃ p x, pre = p ++ [x] := ⟨pre.dropLast, pre.getLast (by intro e; simp [e] at h), (List.dropLast_concat_getLast _).symm⟩
      have := ih p (by simpa using h)
      rw [ar_firsts_snoc]
      split <;> simp only [List.length_append, List.length_singleton] <;> omega
  exact this _ pre rfl
theorem cells_in {l0 : List (List ByteArray)} (h1 : l0.length ≤ 64) (h2 : ∀ l ∈ l0, l.length ≤ 64) : ∀ y ∈ area_boxes.cells l0 0, arIn y := by
  intro y hy
  obtain ⟨r, c, e1, e2, e3, _⟩ := (ar_cells_mem l0 0 y).1 hy
  unfold arAt at e3
  obtain ⟨l, hl, hc⟩ := Option.bind_eq_some_iff.1 e3
  have h3 := (List.getElem?_eq_some_iff.1 hl).1
  have h4 := (List.getElem?_eq_some_iff.1 hc).1
  have h5 := h2 l (List.mem_of_getElem? hl)
  unfold arIn
  omega
theorem box_inv {l0 : List (List ByteArray)} (h1 : l0.length ≤ 64) (h2 : ∀ l ∈ l0, l.length ≤ 64) : ArInv (area_boxes.cells l0 0) (boxR l0).1 (boxR l0).2 := by
  have h3 := cells_len 64 l0 0 h2
  exact ar_run_inv _ _ rfl (ar_cells_sorted l0 0) (cells_in h1 h2) (by omega)
theorem areas_of {l0 : List (List ByteArray)} (h : GoodA l0) : AreasA l0 (boxR l0).1 := by
  have hl2 : ∀ l ∈ l0, l.length ≤ 64 := fun l hl => (h.row l hl).2.1
  have hv := box_inv h.n hl2
  have hin := cells_in h.n hl2
  have hso := ar_cells_sorted l0 0
  have hf := (ar_full_iff _ _).1 h.full
  have key : ∀ b ∈ (boxR l0).1, ∃ n, ArBox (area_boxes.cells l0 0) b n ∧ wrap64 (b.f3 * b.f4) = n := by
    intro b hb
    obtain ⟨k, hk⟩ := List.mem_iff_getElem?.1 hb
    have hlt := (List.getElem?_eq_some_iff.1 hk).1
    obtain ⟨n, hn⟩ : ∃ n, (boxR l0).2[k]? = some n := ⟨_, List.getElem?_eq_getElem (by rw [← hv.len]; exact hlt)⟩
    exact ⟨n, hv.box k b n hk hn, hf k b n hk hn⟩
  refine ⟨fun b hb => ?_, fun b hb r c => ?_, ?_, fun r c s hs hz => ?_, hv.names⟩
  · obtain ⟨n, hB, _⟩ := key b hb
    exact ar_box_dims hB hin
  · obtain ⟨n, hB, hn⟩ := key b hb
    unfold inRect
    rw [← ar_box_full hB hso hin hn (r : Int) (c : Int), ar_cells_mem]
    constructor
    · rintro ⟨r', c', e1, e2, e3, e4⟩
      dsimp only at e1 e2 e3 e4
      have e5 : r' = r := by omega
      have e6 : c' = c := by omega
      subst e5 e6
      exact ⟨e3, e4⟩
    · rintro ⟨e3, e4⟩
      exact ⟨r, c, by dsimp only; omega, rfl, e3, e4⟩
  · rw [hv.names]
    exact ar_firsts_nodup _ _ rfl
  · have hm : s ∈ (boxR l0).1.map (·.f0) := by
      rw [hv.names, ar_firsts_mem s _ _ rfl]
      exact ⟨(s, (r : Int), (c : Int)), (ar_cells_mem _ _ _).2 ⟨r, c, by dsimp only; omega, rfl, hs, hz⟩, rfl⟩
    obtain ⟨b, hb, e⟩ := List.mem_map.1 hm
    exact ⟨b, hb, e⟩
theorem filter_one {s : ByteArray} : ∀ {out : List S33}, (out.map (·.f0)).Nodup → (∃ b ∈ out, b.f0 = s) → (out.filter (fun b => decide (b.f0 = s))).length = 1
  | [], _, h => by simp at h
  | b :: out, hn, h => by
    rw [List.map_cons, List.nodup_cons] at hn
    by_cases e : b.f0 = s
    · rw [List.filter_cons, if_pos (by simpa using e)]
      have : out.filter (fun b => decide (b.f0 = s)) = [] := by
        refine List.filter_eq_nil_iff.2 (fun y hy h2 => hn.1 ?_)
        rw [e, ← of_decide_eq_true h2]
        exact List.mem_map.2 ⟨y, hy, rfl⟩
      rw [this]
      rfl
    · rw [List.filter_cons, if_neg (by simpa using e)]
      refine filter_one hn.2 ?_
      obtain ⟨y, hy, e2⟩ := h
      rcases List.mem_cons.1 hy with rfl | hy
      · exact absurd e2 e
      · exact ⟨y, hy, e2⟩
/-- How many rectangles a cell is in. -/
theorem rects_count {l0 : List (List ByteArray)} {out : List S33} (h : AreasA l0 out) {r c : Nat} {s : ByteArray} (hs : arAt l0 r c = some s) :
    (out.filter (fun b => decide (inRect b r c))).length = min 1 s.size ∧ ∀ b ∈ out, inRect b r c → b.f0 = s := by
  have hn : ∀ b ∈ out, inRect b r c ↔ (b.f0 = s ∧ s.size ≠ 0) := fun b hb => by
    rw [h.has b hb, hs]
    constructor
    · rintro ⟨e, hz⟩
      cases e
      exact ⟨rfl, hz⟩
    · rintro ⟨rfl, hz⟩
      exact ⟨rfl, hz⟩
  refine ⟨?_, fun b hb hi => ((hn b hb).1 hi).1⟩
  by_cases hz : s.size = 0
  · rw [List.filter_eq_nil_iff.2 (fun b hb hi => ((hn b hb).1 (of_decide_eq_true hi)).2 hz), hz]
    rfl
  · have e : out.filter (fun b => decide (inRect b r c)) = out.filter (fun b => decide (b.f0 = s)) := by
      apply List.filter_congr
      intro b hb
      have := hn b hb
      by_cases hi : inRect b r c
      · rw [decide_eq_true hi, decide_eq_true (this.1 hi).1]
      · rw [decide_eq_false hi, decide_eq_false (fun e => hi (this.2 ⟨e, hz⟩))]
    rw [e, filter_one h.nodup (h.all r c s hs hz)]
    omega
end Go.Proofs.YtofdhdafabmhmaaDoor.PureAr
end
section
/- AreaApart, as a statement on lists and numbers. Conditions: none beyond the argument's own kind. -/
namespace Go.Proofs.YtofdhdafabmhmaaDoor.PureAr
open Go.RowKit Go.Proofs.YtofdhdafabmhmaaDoorW.PrintWords Go.Proofs.YtofdhdafabmhmaaDoorW.PrintMore Go.Proofs.YtofdhdafabmhmaaDoor.Evs Go.Proofs.YtofdhdafabmhmaaDoor.Opn Go.Proofs.YtofdhdafabmhmaaDoor.PAr Go.Proofs.YtofdhdafabmhmaaDoor.Giv
section
variable {l0 : List (List ByteArray)}
theorem light_l1 {i : Nat} {row : List ByteArray} (hr : row.length ≤ 9000000000000) (x3 m : Int) {b : Bool} (h : Ev (fun k => parterrelaw08_Light.l0 k x3 l0 m (wrap64 ((i : Int) + 1))) b) : ∀ (n j : Nat), j + n = row.length → ∃ b, Ev (fun k => parterrelaw08_Light.l1 k x3 l0 m (i : Int) row (row.length : Int) (j : Int)) b
  | 0, j, hj => by
    refine ⟨b, ev_step ?_⟩
    simp only [parterrelaw08_Light.l1]
    exact ev_neg (by omega) h
  | n + 1, j, hj => by
    obtain ⟨b', hb⟩ := light_l1 hr x3 m h n (j + 1) (by omega)
    by_cases hs : ((rdOf ByteArray.empty row (j : Int)).size : Int) > 200
    · refine ⟨false, ev_step ?_⟩
      simp only [parterrelaw08_Light.l1]
      exact ev_pos (by omega) (ev_pos (by omega) (ev_pos (by omega) (ev_pos hs ev_some)))
    · refine ⟨b', ev_step ?_⟩
      simp only [parterrelaw08_Light.l1]
      rw [w64 (by omega) (by omega)]
      exact ev_pos (by omega) (ev_pos (by omega) (ev_pos (by omega) (ev_neg hs hb)))
theorem light_l0 (h0 : l0.length ≤ 9000000000000) (h1 : ∀ row ∈ l0, row.length ≤ 9000000000000) : ∀ (n i : Nat) (x3 : Int), i + n = l0.length → ∃ b, Ev (fun k => parterrelaw08_Light.l0 k x3 l0 (l0.length : Int) (i : Int)) b
  | 0, i, x3, hi => by
    refine ⟨true, ev_step ?_⟩
    simp only [parterrelaw08_Light.l0]
    exact ev_neg (by omega) ev_some
  | n + 1, i, x3, hi => by
    obtain ⟨row, hrow⟩ : ∃ row, l0[i]? = some row := ⟨_, List.getElem?_eq_getElem (by omega)⟩
    obtain ⟨b, hb⟩ := light_l0 h0 h1 n (i + 1) (wrap64 (x3 + (1 + (mn (row.length : Int) 2000)))) (by omega)
    obtain ⟨b', hb'⟩ := light_l1 (l0 := l0) (i := i) (h1 row (List.mem_of_getElem? hrow)) (wrap64 (x3 + (1 + (mn (row.length : Int) 2000)))) (l0.length : Int) (b := b) (by rw [show wrap64 ((i : Int) + 1) = ((i + 1 : Nat) : Int) by rw [w64 (by omega) (by omega)]; omega]; exact hb) row.length 0 (by omega)
    by_cases hs : (wrap64 (x3 + (1 + (mn (row.length : Int) 2000)))) > 1500
    · refine ⟨false, ev_step ?_⟩
      simp only [parterrelaw08_Light.l0]
      rw [lat l0 hrow]
      exact ev_pos (by omega) (ev_pos (by omega) (ev_pos (by omega) (ev_pos hs ev_some)))
    · refine ⟨b', ev_step ?_⟩
      simp only [parterrelaw08_Light.l0]
      rw [lat l0 hrow]
      exact ev_pos (by omega) (ev_pos (by omega) (ev_pos (by omega) (ev_neg hs hb')))
theorem light_ev (g : gSl 24 (gSl 16 gStr) l0) : ∃ b, Ev (fun k => parterrelaw08_Light.f k l0) b := by
  simp only [parterrelaw08_Light.f]
  exact light_l0 (by have := g.1; omega) (fun row hr => by have := (g.2 row hr).1; omega) l0.length 0 0 (by omega)
end
section
variable {l0 : List (List ByteArray)} {out : List S33}
theorem ap_w {j : Nat} (h : j ≤ 1000000) : wrap64 ((j : Int) + 1) = ((j + 1 : Nat) : Int) := by
  rw [w64 (by omega) (by omega)]
  omega
theorem ap_w2 {a b : Int} (h1 : 0 ≤ a) (h2 : a + b ≤ 1000000) (h3 : 1 ≤ b) : wrap64 (a + b) = a + b := w64 (by omega) (by omega)
theorem ap_q (q z : Nat) : q + 1 + z = q + (z + 1) := by omega
set_option maxHeartbeats 4000000 in
theorem ap_l2 {r c : Nat} {s : ByteArray} {x22 x23 x30 x31 : Int} {x29 : List ByteArray} (hd : ∀ b ∈ out, 0 ≤ b.f1 ∧ b.f1 < 1000000 ∧ 0 ≤ b.f2 ∧ b.f2 < 1000000 ∧ 1 ≤ b.f3 ∧ b.f1 + b.f3 ≤ 1000000 ∧ 1 ≤ b.f4 ∧ b.f2 + b.f4 ≤ 1000000) (hs : ∀ b ∈ out, inRect b r c → b.f0 = s) (ho : out.length ≤ 1000000)
    (h : Ev (fun k => parterrelaw08_AreaApart.l1 k l0 out (r : Int) x22 x23 x29 x30 (wrap64 (x31 + 1))) true) : ∀ (n j : Nat) (q : Nat), j + n = out.length → q + ((out.drop j).filter (fun b => decide (inRect b r c))).length = min 1 s.size → Ev (fun k => parterrelaw08_AreaApart.l2 k l0 out (r : Int) (c : Int) s (q : Int) x22 x23 x29 x30 x31 out (out.length : Int) (j : Int)) true
  | 0, j, q, hj, hq => by
    refine ev_step ?_
    simp only [parterrelaw08_AreaApart.l2]
    rw [List.drop_of_length_le (by omega)] at hq
    simp only [List.filter_nil, List.length_nil, Nat.add_zero] at hq
    exact ev_neg (by omega) (ev_pos (by rw [mn_eq]; omega) h)
  | n + 1, j, q, hj, hq => by
    have p0 : j < out.length := by omega
    have p1 : (j : Int) < (out.length : Int) := by omega
    have p2 : 0 ≤ (j : Int) := by omega
    have p3 : j + 1 + n = out.length := by omega
    have p4 : j ≤ 1000000 := by omega
    have p5 : q ≤ 1 := by omega
    have w3 : wrap64 ((j : Int) + 1) = ((j + 1 : Nat) : Int) := ap_w p4
    have w5 : wrap64 ((q : Int) + 1) = ((q + 1 : Nat) : Int) := ap_w (by omega)
    obtain ⟨b, hb⟩ : ∃ b, out[j]? = some b := ⟨_, List.getElem?_eq_getElem p0⟩
    have hbm := List.mem_of_getElem? hb
    have hlt := (List.getElem?_eq_some_iff.1 hb).1
    have e1 : rd_T33 out (j : Int) = b := by
      unfold rd_T33
      rw [Int.toNat_natCast, List.getD_eq_getElem?_getD, hb]
      rfl
    have e2 : out.drop j = b :: out.drop (j + 1) := by rw [List.drop_eq_getElem_cons hlt, (List.getElem?_eq_some_iff.1 hb).2]
    rw [e2, List.filter_cons] at hq
    have db := hd b hbm
    have w1 : wrap64 (b.f1 + b.f3) = b.f1 + b.f3 := ap_w2 db.1 db.2.2.2.2.2.1 db.2.2.2.2.1
    have w2 : wrap64 (b.f2 + b.f4) = b.f2 + b.f4 := ap_w2 db.2.2.1 db.2.2.2.2.2.2.2 db.2.2.2.2.2.2.1
    have no : ¬ inRect b r c → Ev (fun k => parterrelaw08_AreaApart.j4 k l0 out (r : Int) (c : Int) s (q : Int) x22 x23 x29 x30 x31 out (out.length : Int) (j : Int) false b.f0 b.f1 b.f2 b.f3 b.f4) true := fun hi => by
      refine ev_step ?_
      simp only [parterrelaw08_AreaApart.j4]
      rw [if_neg (by simpa using hi)] at hq
      refine ev_neg (by decide) ?_
      rw [w3]
      exact ap_l2 hd hs ho h n (j + 1) q p3 hq
    refine ev_step ?_
    simp only [parterrelaw08_AreaApart.l2]
    rw [e1, w1, w2]
    refine ev_pos p1 (ev_pos p2 (ev_pos p1 (ev_ite (fun a1 => ev_ite (fun a2 => ev_ite (fun a3 => ?_) (fun a3 => no ?_)) (fun a2 => no ?_)) (fun a1 => no ?_))))
    · by_cases a4 : (c : Int) < b.f2 + b.f4
      · have hi : inRect b r c := ⟨a1, a2, a3, a4⟩
        rw [decide_eq_true a4]
        refine ev_step ?_
        simp only [parterrelaw08_AreaApart.j4]
        rw [if_pos (by simpa using hi), List.length_cons] at hq
        refine ev_pos (by trivial) (ev_pos (by rw [hs b hbm hi]) ?_)
        rw [w3, w5]
        exact ap_l2 hd hs ho h n (j + 1) (q + 1) p3 ((ap_q _ _).trans hq)
      · rw [decide_eq_false a4]
        exact no (fun hi => a4 hi.2.2.2)
    · exact fun hi => a3 hi.2.2.1
    · exact fun hi => a2 hi.2.1
    · exact fun hi => a1 hi.1
theorem ap_l1 {r : Nat} {row : List ByteArray} (ha : AreasA l0 out) (hrow : l0[r]? = some row) (hr : row.length ≤ 1000000) (ho : out.length ≤ 1000000)
    (h : Ev (fun k => parterrelaw08_AreaApart.l0 k l0 out (l0.length : Int) (wrap64 ((r : Int) + 1))) true) : ∀ (n c : Nat), c + n = row.length → Ev (fun k => parterrelaw08_AreaApart.l1 k l0 out (r : Int) (l0.length : Int) (r : Int) row (row.length : Int) (c : Int)) true
  | 0, c, hc => by
    refine ev_step ?_
    simp only [parterrelaw08_AreaApart.l1]
    exact ev_neg (by omega) h
  | n + 1, c, hc => by
    refine ev_step ?_
    simp only [parterrelaw08_AreaApart.l1]
    obtain ⟨s, hs⟩ : ∃ s, row[c]? = some s := ⟨_, List.getElem?_eq_getElem (by omega)⟩
    have hat : arAt l0 r c = some s := by unfold arAt; rw [hrow]; exact hs
    obtain ⟨k1, k2⟩ := rects_count ha hat
    rw [sat row hs]
    have ih := ap_l1 ha hrow hr ho h n (c + 1) (by omega)
    refine ev_pos (by omega) (ev_pos (by omega) (ev_pos (by omega) ?_))
    have := ap_l2 (l0 := l0) (x22 := (l0.length : Int)) (x23 := (r : Int)) (x30 := (row.length : Int)) (x31 := (c : Int)) (x29 := row) ha.dims k2 ho (by rw [w64 (by omega) (by omega)]; exact ih) out.length 0 0 (by omega) (by rw [List.drop_zero, k1]; omega)
    exact this
theorem ap_l0 (ha : AreasA l0 out) (hg : GoodA l0) (ho : out.length ≤ 1000000) : ∀ (n r : Nat), r + n = l0.length → Ev (fun k => parterrelaw08_AreaApart.l0 k l0 out (l0.length : Int) (r : Int)) true
  | 0, r, hr => by
    refine ev_step ?_
    simp only [parterrelaw08_AreaApart.l0]
    exact ev_neg (by omega) (ev_bind lives_ev ev_some)
  | n + 1, r, hr => by
    refine ev_step ?_
    simp only [parterrelaw08_AreaApart.l0]
    obtain ⟨row, hrow⟩ : ∃ row, l0[r]? = some row := ⟨_, List.getElem?_eq_getElem (by omega)⟩
    have h1 := (hg.row row (List.mem_of_getElem? hrow)).2.1
    have hn := hg.n
    rw [lat l0 hrow]
    have ih := ap_l0 ha hg ho n (r + 1) (by omega)
    exact ev_pos (by omega) (ev_pos (by omega) (ev_pos (by omega) (ap_l1 ha hrow (by omega) ho (by rw [w64 (by omega) (by omega)]; exact ih) row.length 0 (by omega))))
end
theorem out_len {l0 : List (List ByteArray)} (hg : GoodA l0) : (boxR l0).1.length ≤ 4096 := by
  have h1 := cells_len 64 l0 0 (fun l hl => (hg.row l hl).2.1)
  have h2 : (boxR l0).1.length = (arFirsts (area_boxes.cells l0 0)).length := by rw [← (box_inv hg.n (fun l hl => (hg.row l hl).2.1)).names, List.length_map]
  have h3 := firsts_len (area_boxes.cells l0 0)
  have := hg.n
  omega
end Go.Proofs.YtofdhdafabmhmaaDoor.PureAr
namespace Go.Proofs.YtofdhdafabmhmaaDoor.Pure
open Go.RowKit Go.Proofs.YtofdhdafabmhmaaDoorW.PrintWords Go.Proofs.YtofdhdafabmhmaaDoorW.PrintMore Go.Proofs.YtofdhdafabmhmaaDoor.Evs Go.Proofs.YtofdhdafabmhmaaDoor.Opn Go.Proofs.YtofdhdafabmhmaaDoor.PAr Go.Proofs.YtofdhdafabmhmaaDoor.Giv Go.Proofs.YtofdhdafabmhmaaDoor.PureAr
theorem AreaApart : parterrelaw08_AreaApart.Pure := by
  intro l0 g
  refine Ev.rounds ?_
  simp only [parterrelaw08_AreaApart.f]
  obtain ⟨b, hb⟩ := light_ev g
  have triv : Ev (fun k => parterrelaw08_AreaApart.j0 k l0 true) true := by
    refine ev_step ?_
    simp only [parterrelaw08_AreaApart.j0]
    exact ev_pos (by trivial) (ev_bind lives_ev ev_some)
  refine ev_bind hb (ev_ite (fun _ => ?_) (fun _ => triv))
  refine ev_bind (good_ev l0) ?_
  cases hg : goodB l0 with
  | false => exact triv
  | true =>
    refine ev_step ?_
    simp only [parterrelaw08_AreaApart.j0]
    have hG := good_of hg
    have hl := out_len hG
    exact ev_neg (by decide) (ev_bind (rects_ev hg) (ap_l0 (areas_of hG) hG (by omega) l0.length 0 (by omega)))
end Go.Proofs.YtofdhdafabmhmaaDoor.Pure
end
