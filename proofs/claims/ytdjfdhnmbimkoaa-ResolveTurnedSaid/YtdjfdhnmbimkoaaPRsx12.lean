-- Written by a program of this session (wip/p2) out of the translation; Lean checks it.
import Derived.Test.YtdjfdhnmbimkoaaSq
import Derived.Test.YtdjfdhnmbimkoaaPRsx0
import Derived.Test.YtdjfdhnmbimkoaaPRsx2
import Derived.Test.YtdjfdhnmbimkoaaPRsx3
import Derived.Test.YtdjfdhnmbimkoaaPRsx5
import Derived.Test.YtdjfdhnmbimkoaaPRsx10
import Derived.Test.YtdjfdhnmbimkoaaPRsx11
namespace Go.Proofs.Ytdjfdhnmbimkoaa.PRs
open Go.RowKit Go.Proofs.YtdjfdhnmbimkoaaW.PrintWords Go.Proofs.YtdjfdhnmbimkoaaW.PrintLast Go.Proofs.YtdjfdhnmbimkoaaW.PrintMore
attribute [local go_sem] max2_int min2_int max_two min_two max_three min_three max_four min_four   -- for this text's walks alone
set_option linter.unusedVariables false
set_option linter.unusedSimpArgs false
open Go.Proofs.Ytdjfdhnmbimkoaa.Opn Go.Proofs.Ytdjfdhnmbimkoaa.Giv

attribute [local go_sem high] eqA72
/-! ### parterrelaw18_ResolveTurned: function 12 -/
mutual
def parterrelaw18_ResolveTurned.j0 : Nat → List (List ByteArray) → Int → Int → Bool → Option (Bool)
 | 0, _, _, _, _ => none
 | k + 1, x0, x1, x2, x34 => if x34 = true then ((parterrelaw18_lives.f k).bind fun t197 => (some t197)) else ((parterrelaw18_num.f x1).bind fun bt198 => ((parterrelaw18_num.f x2).bind fun bt201 => ((resolve_Span.f k x0 bt198.1 bt198.2.1 bt198.2.2 bt201.1 bt201.2.1 bt201.2.2).bind fun bt204 => ((parterrelaw18_num.f x2).bind fun bt210 => ((parterrelaw18_num.f x1).bind fun bt213 => ((resolve_Span.f k x0 bt210.1 bt210.2.1 bt210.2.2 bt213.1 bt213.2.1 bt213.2.2).bind fun bt216 => (if bt204.2.2.2.2 = 0 then (if bt216.2.2.2.2 = 0 then (parterrelaw18_ResolveTurned.j1 k x0 x1 x2 (!(bt204.1 == bt216.1) || (!(bt204.2.1 == bt216.2.1) || (!(bt204.2.2.1 == bt216.2.2.1) || (!(bt204.2.2.2.1 == bt216.2.2.2.1)))))) else (parterrelaw18_ResolveTurned.j1 k x0 x1 x2 true)) else (parterrelaw18_ResolveTurned.j1 k x0 x1 x2 true))))))))
def parterrelaw18_ResolveTurned.j1 : Nat → List (List ByteArray) → Int → Int → Bool → Option (Bool)
 | 0, _, _, _, _ => none
 | k + 1, x0, x1, x2, x64 => if x64 = true then (some false) else ((parterrelaw18_num.f x1).bind fun bt222 => ((resolve_Span.f k x0 bt222.1 bt222.2.1 bt222.2.2 1 0 (⟨#[]⟩ : ByteArray)).bind fun bt225 => (if bt225.2.2.2.2 = 0 then (parterrelaw18_ResolveTurned.j2 k x0 x1 x2 ((wrap64 (bt225.2.2.1 - bt225.2.1)) != 1) bt225.1 bt225.2.1 bt225.2.2.1 bt225.2.2.2.1) else (parterrelaw18_ResolveTurned.j2 k x0 x1 x2 true bt225.1 bt225.2.1 bt225.2.2.1 bt225.2.2.2.1))))
def parterrelaw18_ResolveTurned.j2 : Nat → List (List ByteArray) → Int → Int → Bool → Bool → Int → Int → Int → Option (Bool)
 | 0, _, _, _, _, _, _, _, _ => none
 | k + 1, x0, x1, x2, x82, x231000, x231001, x231002, x231003 => if x82 = true then (some false) else ((parterrelaw18_num.f x1).bind fun bt231 => ((resolve_Span.f k x0 bt231.1 bt231.2.1 bt231.2.2 4 (wrap64 (1 + (wrap64 (Int.tmod (IntKind.u64.wrap (x2)) 50)))) (⟨#[]⟩ : ByteArray)).bind fun bt234 => (if bt234.2.2.2.2 = 0 then (if bt234.2.1 = x231001 then (if bt234.2.2.1 = (mn 10000 (wrap64 (bt234.2.1 + (wrap64 (1 + (wrap64 (Int.tmod (IntKind.u64.wrap (x2)) 50))))))) then ((parterrelaw18_lives.f k).bind fun t240 => (some t240)) else (some false)) else (some false)) else (some false))))
end
def parterrelaw18_ResolveTurned.f (k : Nat) (l0 : List (List ByteArray)) (a1 : Int) (a2 : Int) : Option (Bool) := (parterrelaw18_light.f k l0).bind fun t188 => (if t188 = true then (if (l0.length : Int) = 0 then (parterrelaw18_ResolveTurned.j0 k l0 a1 a2 true) else ((parterrelaw18_num.f a1).bind fun bt189 => ((line_Good.f k bt189.1 bt189.2.1 bt189.2.2).bind fun t192 => (if t192 = true then ((parterrelaw18_num.f a2).bind fun bt193 => ((line_Good.f k bt193.1 bt193.2.1 bt193.2.2).bind fun t196 => (parterrelaw18_ResolveTurned.j0 k l0 a1 a2 (!t196)))) else (parterrelaw18_ResolveTurned.j0 k l0 a1 a2 true))))) else (parterrelaw18_ResolveTurned.j0 k l0 a1 a2 true))
theorem parterrelaw18_ResolveTurned.mono_l : ∀ k, (∀ y0 y1 y2 y3, LeO (parterrelaw18_ResolveTurned.j0 k y0 y1 y2 y3) (parterrelaw18_ResolveTurned.j0 (k + 1) y0 y1 y2 y3)) ∧ (∀ y0 y1 y2 y3, LeO (parterrelaw18_ResolveTurned.j1 k y0 y1 y2 y3) (parterrelaw18_ResolveTurned.j1 (k + 1) y0 y1 y2 y3)) ∧ (∀ y0 y1 y2 y3 y4 y5 y6 y7, LeO (parterrelaw18_ResolveTurned.j2 k y0 y1 y2 y3 y4 y5 y6 y7) (parterrelaw18_ResolveTurned.j2 (k + 1) y0 y1 y2 y3 y4 y5 y6 y7))
 | 0 => ⟨fun _ _ _ _ r h => by simp [parterrelaw18_ResolveTurned.j0] at h, fun _ _ _ _ r h => by simp [parterrelaw18_ResolveTurned.j1] at h, fun _ _ _ _ _ _ _ _ r h => by simp [parterrelaw18_ResolveTurned.j2] at h⟩
 | k + 1 => by
  obtain ⟨ih0, ih1, ih2⟩ := parterrelaw18_ResolveTurned.mono_l k
  refine ⟨?_, ?_, ?_⟩
  ·intro y0 y1 y2 y3
   unfold parterrelaw18_ResolveTurned.j0
   repeat' first
   | (with_reducible exact ih0 _ _ _ _)
   | (with_reducible exact ih1 _ _ _ _)
   | (with_reducible exact ih2 _ _ _ _ _ _ _ _)
   | (with_reducible exact line_Good.mono _ _ _ _)
   | (with_reducible exact parterrelaw18_light.mono _ _)
   | (with_reducible exact parterrelaw18_lives.mono _)
   | (with_reducible exact resolve_Span.mono _ _ _ _ _ _ _ _)
   | (with_reducible exact LeO.refl _)
   | (with_reducible exact LeO.none _)
   | (with_reducible refine LeO.ite ?_ ?_)
   | (with_reducible refine LeO.bind ?_ (fun _ => ?_))
  ·intro y0 y1 y2 y3
   unfold parterrelaw18_ResolveTurned.j1
   repeat' first
   | (with_reducible exact ih0 _ _ _ _)
   | (with_reducible exact ih1 _ _ _ _)
   | (with_reducible exact ih2 _ _ _ _ _ _ _ _)
   | (with_reducible exact line_Good.mono _ _ _ _)
   | (with_reducible exact parterrelaw18_light.mono _ _)
   | (with_reducible exact parterrelaw18_lives.mono _)
   | (with_reducible exact resolve_Span.mono _ _ _ _ _ _ _ _)
   | (with_reducible exact LeO.refl _)
   | (with_reducible exact LeO.none _)
   | (with_reducible refine LeO.ite ?_ ?_)
   | (with_reducible refine LeO.bind ?_ (fun _ => ?_))
  ·intro y0 y1 y2 y3 y4 y5 y6 y7
   unfold parterrelaw18_ResolveTurned.j2
   repeat' first
   | (with_reducible exact ih0 _ _ _ _)
   | (with_reducible exact ih1 _ _ _ _)
   | (with_reducible exact ih2 _ _ _ _ _ _ _ _)
   | (with_reducible exact line_Good.mono _ _ _ _)
   | (with_reducible exact parterrelaw18_light.mono _ _)
   | (with_reducible exact parterrelaw18_lives.mono _)
   | (with_reducible exact resolve_Span.mono _ _ _ _ _ _ _ _)
   | (with_reducible exact LeO.refl _)
   | (with_reducible exact LeO.none _)
   | (with_reducible refine LeO.ite ?_ ?_)
   | (with_reducible refine LeO.bind ?_ (fun _ => ?_))
theorem parterrelaw18_ResolveTurned.mono : ∀ a0 a1 a2 k, LeO (parterrelaw18_ResolveTurned.f k a0 a1 a2) (parterrelaw18_ResolveTurned.f (k + 1) a0 a1 a2) := by
 intro a0 a1 a2 k
 obtain ⟨ih0, ih1, ih2⟩ := parterrelaw18_ResolveTurned.mono_l k
 unfold parterrelaw18_ResolveTurned.f
 repeat' first
   | (with_reducible exact ih0 _ _ _ _)
   | (with_reducible exact ih1 _ _ _ _)
   | (with_reducible exact ih2 _ _ _ _ _ _ _ _)
   | (with_reducible exact line_Good.mono _ _ _ _)
   | (with_reducible exact parterrelaw18_light.mono _ _)
   | (with_reducible exact parterrelaw18_lives.mono _)
   | (with_reducible exact resolve_Span.mono _ _ _ _ _ _ _ _)
   | (with_reducible exact LeO.refl _)
   | (with_reducible exact LeO.none _)
   | (with_reducible refine LeO.ite ?_ ?_)
   | (with_reducible refine LeO.bind ?_ (fun _ => ?_))
set_option maxHeartbeats 8000000 in
set_option maxRecDepth 100000 in
theorem parterrelaw18_ResolveTurned.calls (k : Nat) (A0 : Option Addr) (c0 : Nat) (l0 : List (List ByteArray)) (a1 : Int) (a2 : Int) (r : Bool) (w : World) (hr0 : Kd.C (Kd.slice 9 Kd.string) w A0 l0.length l0) (hc0 : l0.length ≤ c0) (h : parterrelaw18_ResolveTurned.f k l0 a1 a2 = some r) :
  Calls Try.prog 12 #[.slice A0 l0.length c0, .int .i64 a1, .int .i64 a2] w fun e w' => e = .returned (.bool r) ∧ Below w.heap.size w w' := by
 have hu72 := Try.underlying72
 have hu69 := Try.underlying69
 have HR0 := Aside0.mk hr0
 have HC0 := Aside0.mk hc0
 clear hr0 hc0
 have HB := Aside0.mk (Below.refl w.heap.size w)
 have H : ((parterrelaw18_light.f k l0).bind fun t188 => (if t188 = true then (if (l0.length : Int) = 0 then (parterrelaw18_ResolveTurned.j0 k l0 a1 a2 true) else ((parterrelaw18_num.f a1).bind fun bt189 => ((line_Good.f k bt189.1 bt189.2.1 bt189.2.2).bind fun t192 => (if t192 = true then ((parterrelaw18_num.f a2).bind fun bt193 => ((line_Good.f k bt193.1 bt193.2.1 bt193.2.2).bind fun t196 => (parterrelaw18_ResolveTurned.j0 k l0 a1 a2 (!t196)))) else (parterrelaw18_ResolveTurned.j0 k l0 a1 a2 true))))) else (parterrelaw18_ResolveTurned.j0 k l0 a1 a2 true))) = some r := h
 clear h
 have HC4 := Aside0.mk H
 clear H
 go_enter Try.func12, Try.ntmps12
 go_upto_region 1 with (fail)
 go_cut [34] (fun v34 wc => ∃ (kq : Nat) (x34_3 : Bool), v34 = .bool x34_3 ∧ Aside0 (parterrelaw18_ResolveTurned.j0 kq l0 a1 a2 x34_3 = some r) ∧ Aside0 (kq ≤ k) ∧ Aside0 (Below w.heap.size w wc))
 case first =>
  have H := HC4.out
  clear HC4
  replace H := Option.bind_eq_some_iff.mp H
  obtain ⟨t188, A50, H⟩ := H
  try dsimp only at H
  have A5 := Aside0.mk A50
  clear A50
  by_cases c6 : t188 = true
  ·subst c6
   rw [if_pos rfl] at H
   by_cases c7 : (l0.length : Int) = 0
   ·rw [if_pos c7] at H
    have c7b0 : ((l0.length : Int) == 0) = true := beq_iff_eq.mpr c7
    have c7b1 : ((l0.length : Int) != 0) = false := bne_eq_false_iff_eq.mpr c7
    clear c7
    (first | rw [c7b0] | (simp only [i64_w, i32_w]; rw [c7b0]) | skip)
    have H' := Aside0.mk H
    clear H
    go_wp2_with (first | ((with_reducible refine gate_callee (f := 54) rfl ?_); refine goesL_ (some 16) rfl rfl Try.func54 (by kernel_rfl) rfl #[.slice A0 l0.length c0] rfl goa_ ?_; (with_reducible refine (parterrelaw18_light.calls k _ _ l0 true _ ?side1 ?side2 A5.out).mono ?_); (case side1 => repeat (first | exact (Kd.C_below HR0.out HB.out) | (with_reducible refine Kd.C_alloc ?_ _) | (with_reducible refine Kd.C_drewN ?_ _) | (with_reducible refine Kd.C_drew ?_))); (case side2 => exact HC0.out); rintro e w8 ⟨rfl, hb⟩; refine ⟨_, rfl, ?_⟩; have n0_ := Aside0.mk (below_step bel_ hb); clear HB; have HB := n0_; clear n0_; clear hb))
    go_meet
    case rel => exact ⟨_, (true), rfs_, H', ⟨ole_⟩, ⟨bel_⟩⟩
   ·rw [if_neg c7] at H
    have c7b0 : ((l0.length : Int) == 0) = false := beq_eq_false_iff_ne.mpr c7
    have c7b1 : ((l0.length : Int) != 0) = true := bne_iff_ne.mpr c7
    have c7b2 : ¬ (l0 = []) := fun h_ => c7 (by rw [h_]; rfl)
    (first | rw [c7b0] | (simp only [i64_w, i32_w]; rw [c7b0]) | skip)
    replace H := Option.bind_eq_some_iff.mp H
    obtain ⟨⟨t189, t190, t191⟩, A90, H⟩ := H
    try dsimp only at H
    have A9 := Aside0.mk A90
    clear A90
    replace H := Option.bind_eq_some_iff.mp H
    obtain ⟨t192, A100, H⟩ := H
    try dsimp only at H
    have A10 := Aside0.mk A100
    clear A100
    by_cases c11 : t192 = true
    ·subst c11
     rw [if_pos rfl] at H
     replace H := Option.bind_eq_some_iff.mp H
     obtain ⟨⟨t193, t194, t195⟩, A120, H⟩ := H
     try dsimp only at H
     have A12 := Aside0.mk A120
     clear A120
     replace H := Option.bind_eq_some_iff.mp H
     obtain ⟨t196, A130, H⟩ := H
     try dsimp only at H
     have A13 := Aside0.mk A130
     clear A130
     have H' := Aside0.mk H
     clear H
     go_wp2_with (first | ((with_reducible refine gate_callee (f := 54) rfl ?_); refine goesL_ (some 16) rfl rfl Try.func54 (by kernel_rfl) rfl #[.slice A0 l0.length c0] rfl goa_ ?_; (with_reducible refine (parterrelaw18_light.calls k _ _ l0 true _ ?side1 ?side2 A5.out).mono ?_); (case side1 => repeat (first | exact (Kd.C_below HR0.out HB.out) | (with_reducible refine Kd.C_alloc ?_ _) | (with_reducible refine Kd.C_drewN ?_ _) | (with_reducible refine Kd.C_drew ?_))); (case side2 => exact HC0.out); rintro e w14 ⟨rfl, hb⟩; refine ⟨_, rfl, ?_⟩; have n0_ := Aside0.mk (below_step bel_ hb); clear HB; have HB := n0_; clear n0_; clear hb) | (go_at_call 56; (with_reducible refine (parterrelaw18_num.calls a1 t189 t190 t191 _ A9.out).mono ?_); rintro e w15 ⟨rfl, hb⟩; have n0_ := Aside0.mk (below_step bel_ hb); clear HB; have HB := n0_; clear n0_; clear hb) | (go_at_call 55; (with_reducible refine (line_Good.calls k t189 t190 t191 true _ A10.out).mono ?_); rintro e w16 ⟨rfl, hb⟩; have n0_ := Aside0.mk (below_step bel_ hb); clear HB; have HB := n0_; clear n0_; clear hb) | (go_at_call 56; (with_reducible refine (parterrelaw18_num.calls a2 t193 t194 t195 _ A12.out).mono ?_); rintro e w17 ⟨rfl, hb⟩; have n0_ := Aside0.mk (below_step bel_ hb); clear HB; have HB := n0_; clear n0_; clear hb) | (go_at_call 55; (with_reducible refine (line_Good.calls k t193 t194 t195 t196 _ A13.out).mono ?_); rintro e w18 ⟨rfl, hb⟩; have n0_ := Aside0.mk (below_step bel_ hb); clear HB; have HB := n0_; clear n0_; clear hb))
     go_meet
     case rel => exact ⟨_, (!t196), rfs_, H', ⟨ole_⟩, ⟨bel_⟩⟩
    ·replace c11 := Bool.eq_false_iff.mpr c11
     subst c11
     rw [if_neg (show ¬ (false = true) by decide)] at H
     have H' := Aside0.mk H
     clear H
     go_wp2_with (first | ((with_reducible refine gate_callee (f := 54) rfl ?_); refine goesL_ (some 16) rfl rfl Try.func54 (by kernel_rfl) rfl #[.slice A0 l0.length c0] rfl goa_ ?_; (with_reducible refine (parterrelaw18_light.calls k _ _ l0 true _ ?side1 ?side2 A5.out).mono ?_); (case side1 => repeat (first | exact (Kd.C_below HR0.out HB.out) | (with_reducible refine Kd.C_alloc ?_ _) | (with_reducible refine Kd.C_drewN ?_ _) | (with_reducible refine Kd.C_drew ?_))); (case side2 => exact HC0.out); rintro e w19 ⟨rfl, hb⟩; refine ⟨_, rfl, ?_⟩; have n0_ := Aside0.mk (below_step bel_ hb); clear HB; have HB := n0_; clear n0_; clear hb) | (go_at_call 56; (with_reducible refine (parterrelaw18_num.calls a1 t189 t190 t191 _ A9.out).mono ?_); rintro e w20 ⟨rfl, hb⟩; have n0_ := Aside0.mk (below_step bel_ hb); clear HB; have HB := n0_; clear n0_; clear hb) | (go_at_call 55; (with_reducible refine (line_Good.calls k t189 t190 t191 false _ A10.out).mono ?_); rintro e w21 ⟨rfl, hb⟩; have n0_ := Aside0.mk (below_step bel_ hb); clear HB; have HB := n0_; clear n0_; clear hb))
     go_meet
     case rel => exact ⟨_, (true), rfs_, H', ⟨ole_⟩, ⟨bel_⟩⟩
  ·replace c6 := Bool.eq_false_iff.mpr c6
   subst c6
   rw [if_neg (show ¬ (false = true) by decide)] at H
   have H' := Aside0.mk H
   clear H
   go_wp2_with (first | ((with_reducible refine gate_callee (f := 54) rfl ?_); refine goesL_ (some 16) rfl rfl Try.func54 (by kernel_rfl) rfl #[.slice A0 l0.length c0] rfl goa_ ?_; (with_reducible refine (parterrelaw18_light.calls k _ _ l0 false _ ?side1 ?side2 A5.out).mono ?_); (case side1 => repeat (first | exact (Kd.C_below HR0.out HB.out) | (with_reducible refine Kd.C_alloc ?_ _) | (with_reducible refine Kd.C_drewN ?_ _) | (with_reducible refine Kd.C_drew ?_))); (case side2 => exact HC0.out); rintro e w22 ⟨rfl, hb⟩; refine ⟨_, rfl, ?_⟩; have n0_ := Aside0.mk (below_step bel_ hb); clear HB; have HB := n0_; clear n0_; clear hb))
   go_meet
   case rel => exact ⟨_, (true), rfs_, H', ⟨ole_⟩, ⟨bel_⟩⟩
 case rest =>
  clear HC4
  try clear c1
  try clear p2
  try clear c5
  try clear c6
  try clear c7
  try clear c7b0
  try clear c7b1
  try clear c7b2
  try clear c11
  try clear c12
  obtain ⟨kq, x34_3, rfl, HA, HJ3, HB⟩ := hcut
  cases kq with
  | zero => exact absurd HA.out (by simp [parterrelaw18_ResolveTurned.j0])
  | succ kj3 =>
   have H := HA.out
   clear HA
   simp only [parterrelaw18_ResolveTurned.j0] at H
   by_cases c23 : x34_3 = true
   ·subst c23
    rw [if_pos rfl] at H
    replace H := Option.bind_eq_some_iff.mp H
    obtain ⟨t197, A240, H⟩ := H
    try dsimp only at H
    have A24 := Aside0.mk A240
    clear A240
    obtain rfl := Option.some.inj H
    go_wp2_with (first | ((with_reducible refine gate_callee (f := 57) rfl ?_); refine goesL_ (some 35) rfl rfl Try.func57 (by kernel_rfl) rfl #[] rfl goa_ ?_; (with_reducible refine (parterrelaw18_lives.calls kj3  t197 _ A24.out).mono ?_); rintro e w25 ⟨rfl, hb⟩; refine ⟨_, rfl, ?_⟩; have n0_ := Aside0.mk (below_step bel_ hb); clear HB; have HB := n0_; clear n0_; clear hb))
    go_ret
    exact ⟨rsl_, bel_⟩
   ·replace c23 := Bool.eq_false_iff.mpr c23
    subst c23
    rw [if_neg (show ¬ (false = true) by decide)] at H
    replace H := Option.bind_eq_some_iff.mp H
    obtain ⟨⟨t198, t199, t200⟩, A260, H⟩ := H
    try dsimp only at H
    have A26 := Aside0.mk A260
    clear A260
    replace H := Option.bind_eq_some_iff.mp H
    obtain ⟨⟨t201, t202, t203⟩, A270, H⟩ := H
    try dsimp only at H
    have A27 := Aside0.mk A270
    clear A270
    replace H := Option.bind_eq_some_iff.mp H
    obtain ⟨⟨t204, t205, t206, t207, t208⟩, A280, H⟩ := H
    try dsimp only at H
    have A28 := Aside0.mk A280
    clear A280
    replace H := Option.bind_eq_some_iff.mp H
    obtain ⟨⟨t210, t211, t212⟩, A290, H⟩ := H
    try dsimp only at H
    have A29 := Aside0.mk A290
    clear A290
    replace H := Option.bind_eq_some_iff.mp H
    obtain ⟨⟨t213, t214, t215⟩, A300, H⟩ := H
    try dsimp only at H
    have A30 := Aside0.mk A300
    clear A300
    replace H := Option.bind_eq_some_iff.mp H
    obtain ⟨⟨t216, t217, t218, t219, t220⟩, A310, H⟩ := H
    try dsimp only at H
    have A31 := Aside0.mk A310
    clear A310
    have HC32 := Aside0.mk H
    clear H
    go_upto_region 5 with (first | ((with_reducible refine gate_callee (f := 56) rfl ?_); refine goesL_ (some 39) rfl rfl Try.func56 (by kernel_rfl) rfl #[.int .i64 a1] rfl goa_ ?_; (with_reducible refine (parterrelaw18_num.calls a1 t198 t199 t200 _ A26.out).mono ?_); rintro e w33 ⟨rfl, hb⟩; refine ⟨_, rfl, ?_⟩; have n0_ := Aside0.mk (below_step bel_ hb); clear HB; have HB := n0_; clear n0_; clear hb) | ((with_reducible refine gate_callee (f := 56) rfl ?_); refine goesL_ (some 41) rfl rfl Try.func56 (by kernel_rfl) rfl #[.int .i64 a2] rfl goa_ ?_; (with_reducible refine (parterrelaw18_num.calls a2 t201 t202 t203 _ A27.out).mono ?_); rintro e w34 ⟨rfl, hb⟩; refine ⟨_, rfl, ?_⟩; have n0_ := Aside0.mk (below_step bel_ hb); clear HB; have HB := n0_; clear n0_; clear hb) | ((with_reducible refine gate_callee (f := 58) rfl ?_); refine goesL_ (some 42) rfl rfl Try.func58 (by kernel_rfl) rfl #[.slice A0 l0.length c0, .agg #[.int .i64 t198, .int .i64 t199, .string t200], .agg #[.int .i64 t201, .int .i64 t202, .string t203]] rfl goa_ ?_; (with_reducible refine (resolve_Span.calls kj3 _ _ l0 t198 t199 t200 t201 t202 t203 t204 t205 t206 t207 t208 _ ?side1 ?side2 A28.out).mono ?_); (case side1 => repeat (first | exact (Kd.C_below HR0.out HB.out) | (with_reducible refine Kd.C_alloc ?_ _) | (with_reducible refine Kd.C_drewN ?_ _) | (with_reducible refine Kd.C_drew ?_))); (case side2 => exact HC0.out); rintro e w35 ⟨rfl, hb⟩; refine ⟨_, rfl, ?_⟩; have n0_ := Aside0.mk (below_step bel_ hb); clear HB; have HB := n0_; clear n0_; clear hb) | ((with_reducible refine gate_dst (N := 7) rfl ?_); (try (refine gate_guard (by rfl) ?_; dsimp only)); refine box_event ?hg (N := 7) ?hd (cs := #[.bool false, .int .i64 0, .int .i64 0, .int .i64 0]) (t := 72) ?hr ?_; (case hd => rfl); (case hg => rfl); (case hr => first | (go_simp; done) | (go_simp; rfl)); intro gb209 hg w36 hbox hb; have n0_ := Aside0.mk (below_step bel_ hb); have n1_ := Aside0.mk (hbox); have n2_ := Aside0.mk ((bsz_ hg : w.heap.size ≤ gb209)); have n3_ := Aside0.mk ((bsz_ hg : w.heap.size ≤ gb209)); clear HB; have HB := n0_; have BK209 := n1_; have GW209 := n2_; have GE209 := n3_; clear n0_ n1_ n2_ n3_; clear hb hbox hg; have hcz37_0 : w36.cell? ⟨gb209, 0, none⟩ = some (.bool false) := (blk_cell BK209.out 0).trans rfl; have hcz37_1 : w36.cell? ⟨gb209, 1, none⟩ = some (.int .i64 0) := (blk_cell BK209.out 1).trans rfl; have hcz37_2 : w36.cell? ⟨gb209, 2, none⟩ = some (.int .i64 0) := (blk_cell BK209.out 2).trans rfl; have hcz37_3 : w36.cell? ⟨gb209, 3, none⟩ = some (.int .i64 0) := (blk_cell BK209.out 3).trans rfl; have hfz37_0 := blk_frozen BK209.out 0; have hfz37_1 := blk_frozen BK209.out 1; have hfz37_2 := blk_frozen BK209.out 2; have hfz37_3 := blk_frozen BK209.out 3) | ((with_reducible refine gate_callee (f := 56) rfl ?_); refine goesL_ (some 48) rfl rfl Try.func56 (by kernel_rfl) rfl #[.int .i64 a2] rfl goa_ ?_; (with_reducible refine (parterrelaw18_num.calls a2 t210 t211 t212 _ A29.out).mono ?_); rintro e w38 ⟨rfl, hb⟩; refine ⟨_, rfl, ?_⟩; have n0_ := Aside0.mk (blk_below (g := gb209) (o := .cells #[.bool t204, .int .i64 t205, .int .i64 t206, .int .i64 t207] 72 (0, 0)) (by (with_reducible repeat (first | refine blk_drewN ?_ _ | refine blk_drew ?_ | refine blk_alloc ?_ _)); refine blk_put (cs := #[.bool t204, .int .i64 t205, .int .i64 t206, .int .i64 0]) ?_ 3 _ rfl; (with_reducible repeat (first | refine blk_drewN ?_ _ | refine blk_drew ?_ | refine blk_alloc ?_ _)); refine blk_put (cs := #[.bool t204, .int .i64 t205, .int .i64 0, .int .i64 0]) ?_ 2 _ rfl; (with_reducible repeat (first | refine blk_drewN ?_ _ | refine blk_drew ?_ | refine blk_alloc ?_ _)); refine blk_put (cs := #[.bool t204, .int .i64 0, .int .i64 0, .int .i64 0]) ?_ 1 _ rfl; (with_reducible repeat (first | refine blk_drewN ?_ _ | refine blk_drew ?_ | refine blk_alloc ?_ _)); refine blk_put (cs := #[.bool false, .int .i64 0, .int .i64 0, .int .i64 0]) ?_ 0 _ rfl; (with_reducible repeat (first | refine blk_drewN ?_ _ | refine blk_drew ?_ | refine blk_alloc ?_ _)); exact BK209.out) hb); have n1_ := Aside0.mk (below_step bel_ hb); clear BK209; clear HB; have BK209 := n0_; have HB := n1_; clear n0_ n1_; clear hb) | ((with_reducible refine gate_callee (f := 56) rfl ?_); refine goesL_ (some 50) rfl rfl Try.func56 (by kernel_rfl) rfl #[.int .i64 a1] rfl goa_ ?_; (with_reducible refine (parterrelaw18_num.calls a1 t213 t214 t215 _ A30.out).mono ?_); rintro e w39 ⟨rfl, hb⟩; refine ⟨_, rfl, ?_⟩; have n0_ := blb_ BK209 hb; have n1_ := Aside0.mk (below_step bel_ hb); clear BK209; clear HB; have BK209 := n0_; have HB := n1_; clear n0_ n1_; clear hb) | ((with_reducible refine gate_callee (f := 58) rfl ?_); refine goesL_ (some 51) rfl rfl Try.func58 (by kernel_rfl) rfl #[.slice A0 l0.length c0, .agg #[.int .i64 t210, .int .i64 t211, .string t212], .agg #[.int .i64 t213, .int .i64 t214, .string t215]] rfl goa_ ?_; (with_reducible refine (resolve_Span.calls kj3 _ _ l0 t210 t211 t212 t213 t214 t215 t216 t217 t218 t219 t220 _ ?side1 ?side2 A31.out).mono ?_); (case side1 => repeat (first | exact (Kd.C_below HR0.out HB.out) | (with_reducible refine Kd.C_alloc ?_ _) | (with_reducible refine Kd.C_drewN ?_ _) | (with_reducible refine Kd.C_drew ?_))); (case side2 => exact HC0.out); rintro e w40 ⟨rfl, hb⟩; refine ⟨_, rfl, ?_⟩; have n0_ := blb_ BK209 hb; have n1_ := Aside0.mk (below_step bel_ hb); clear BK209; clear HB; have BK209 := n0_; have HB := n1_; clear n0_ n1_; clear hb) | ((with_reducible refine gate_dst (N := 9) rfl ?_); (try (refine gate_guard (by rfl) ?_; dsimp only)); refine box_event ?hg (N := 9) ?hd (cs := #[.bool false, .int .i64 0, .int .i64 0, .int .i64 0]) (t := 72) ?hr ?_; (case hd => rfl); (case hg => rfl); (case hr => first | (go_simp; done) | (go_simp; rfl)); intro gb221 hg w41 hbox hb; have n0_ := blb_ BK209 hb; have n1_ := Aside0.mk (below_step bel_ hb); have n2_ := Aside0.mk (hbox); have n3_ := Aside0.mk ((bsz_ hg : w.heap.size ≤ gb221)); have n4_ := Aside0.mk ((bsz_ hg : w.heap.size ≤ gb221)); have n5_ := Aside0.mk (bne_ BK209 hg : gb209 ≠ gb221); have n6_ := Aside0.mk (bng_ BK209 hg : gb221 ≠ gb209); clear BK209; clear HB; have BK209 := n0_; have HB := n1_; have BK221 := n2_; have GW221 := n3_; have GE221 := n4_; have NB209_221 := n5_; have NB221_209 := n6_; clear n0_ n1_ n2_ n3_ n4_ n5_ n6_; clear hb hbox hg; have hnb42 := NB221_209.out; have hnc42 := NB209_221.out; have hcz43_0 : w41.cell? ⟨gb221, 0, none⟩ = some (.bool false) := (blk_cell BK221.out 0).trans rfl; have hcz43_1 : w41.cell? ⟨gb221, 1, none⟩ = some (.int .i64 0) := (blk_cell BK221.out 1).trans rfl; have hcz43_2 : w41.cell? ⟨gb221, 2, none⟩ = some (.int .i64 0) := (blk_cell BK221.out 2).trans rfl; have hcz43_3 : w41.cell? ⟨gb221, 3, none⟩ = some (.int .i64 0) := (blk_cell BK221.out 3).trans rfl; have hfz43_0 := blk_frozen BK221.out 0; have hfz43_1 := blk_frozen BK221.out 1; have hfz43_2 := blk_frozen BK221.out 2; have hfz43_3 := blk_frozen BK221.out 3))
    (try simp only [Act.put, List.setIfInBounds_toArray, List.set_cons_zero, List.set_cons_succ])
    go_cut [64] (fun v64 wc => ∃ (kq : Nat) (x64_31 : Bool), v64 = .bool x64_31 ∧ Aside0 (parterrelaw18_ResolveTurned.j1 kq l0 a1 a2 x64_31 = some r) ∧ Aside0 (kq ≤ kj3) ∧ Aside0 (wc.heap[gb209]? = some (.cells #[.bool t204, .int .i64 t205, .int .i64 t206, .int .i64 t207] 72 (0, 0))) ∧ Aside0 (wc.heap[gb221]? = some (.cells #[.bool t216, .int .i64 t217, .int .i64 t218, .int .i64 t219] 72 (0, 0))) ∧ Aside0 (Below w.heap.size w wc))
    case first =>
     have H := HC32.out
     clear HC32
     by_cases c44 : t208 = 0
     ·rw [if_pos c44] at H
      have c44b0 : (t208 == 0) = true := beq_iff_eq.mpr c44
      have c44b1 : (t208 != 0) = false := bne_eq_false_iff_eq.mpr c44
      clear c44
      (first | rw [c44b0] | (simp only [i64_w, i32_w]; rw [c44b0]) | skip)
      by_cases c45 : t220 = 0
      ·rw [if_pos c45] at H
       have c45b0 : (t220 == 0) = true := beq_iff_eq.mpr c45
       have c45b1 : (t220 != 0) = false := bne_eq_false_iff_eq.mpr c45
       clear c45
       have H' := Aside0.mk H
       clear H
       have hnb46 := NB209_221.out
       have hnc46 := NB221_209.out
       have hcz47_0 : w41.cell? ⟨gb209, 0, none⟩ = some (.bool t204) := (blk_cell BK209.out 0).trans rfl
       have hcz47_1 : w41.cell? ⟨gb209, 1, none⟩ = some (.int .i64 t205) := (blk_cell BK209.out 1).trans rfl
       have hcz47_2 : w41.cell? ⟨gb209, 2, none⟩ = some (.int .i64 t206) := (blk_cell BK209.out 2).trans rfl
       have hcz47_3 : w41.cell? ⟨gb209, 3, none⟩ = some (.int .i64 t207) := (blk_cell BK209.out 3).trans rfl
       have hfz47_0 := blk_frozen BK209.out 0
       have hfz47_1 := blk_frozen BK209.out 1
       have hfz47_2 := blk_frozen BK209.out 2
       have hfz47_3 := blk_frozen BK209.out 3
       have hcz48_0 : w41.cell? ⟨gb221, 0, none⟩ = some (.bool false) := (blk_cell BK221.out 0).trans rfl
       have hcz48_1 : w41.cell? ⟨gb221, 1, none⟩ = some (.int .i64 0) := (blk_cell BK221.out 1).trans rfl
       have hcz48_2 : w41.cell? ⟨gb221, 2, none⟩ = some (.int .i64 0) := (blk_cell BK221.out 2).trans rfl
       have hcz48_3 : w41.cell? ⟨gb221, 3, none⟩ = some (.int .i64 0) := (blk_cell BK221.out 3).trans rfl
       have hfz48_0 := blk_frozen BK221.out 0
       have hfz48_1 := blk_frozen BK221.out 1
       have hfz48_2 := blk_frozen BK221.out 2
       have hfz48_3 := blk_frozen BK221.out 3
       go_wp2
       go_meet
       case rel => exact ⟨_, ((!(t204 == t216) || (!(t205 == t217) || (!(t206 == t218) || (!(t207 == t219)))))), rfs_, H', ⟨by have := HJ3.out; first | omega | exact Nat.le_refl _⟩, ⟨by (with_reducible repeat (first | refine blk_drewN ?_ _ | refine blk_drew ?_ | refine blk_alloc ?_ _)); refine blk_far ?_ NB209_221.out _; (with_reducible repeat (first | refine blk_drewN ?_ _ | refine blk_drew ?_ | refine blk_alloc ?_ _)); refine blk_far ?_ NB209_221.out _; (with_reducible repeat (first | refine blk_drewN ?_ _ | refine blk_drew ?_ | refine blk_alloc ?_ _)); refine blk_far ?_ NB209_221.out _; (with_reducible repeat (first | refine blk_drewN ?_ _ | refine blk_drew ?_ | refine blk_alloc ?_ _)); refine blk_far ?_ NB209_221.out _; (with_reducible repeat (first | refine blk_drewN ?_ _ | refine blk_drew ?_ | refine blk_alloc ?_ _)); exact BK209.out⟩, ⟨by (with_reducible repeat (first | refine blk_drewN ?_ _ | refine blk_drew ?_ | refine blk_alloc ?_ _)); refine blk_put (cs := #[.bool t216, .int .i64 t217, .int .i64 t218, .int .i64 0]) ?_ 3 _ rfl; (with_reducible repeat (first | refine blk_drewN ?_ _ | refine blk_drew ?_ | refine blk_alloc ?_ _)); refine blk_put (cs := #[.bool t216, .int .i64 t217, .int .i64 0, .int .i64 0]) ?_ 2 _ rfl; (with_reducible repeat (first | refine blk_drewN ?_ _ | refine blk_drew ?_ | refine blk_alloc ?_ _)); refine blk_put (cs := #[.bool t216, .int .i64 0, .int .i64 0, .int .i64 0]) ?_ 1 _ rfl; (with_reducible repeat (first | refine blk_drewN ?_ _ | refine blk_drew ?_ | refine blk_alloc ?_ _)); refine blk_put (cs := #[.bool false, .int .i64 0, .int .i64 0, .int .i64 0]) ?_ 0 _ rfl; (with_reducible repeat (first | refine blk_drewN ?_ _ | refine blk_drew ?_ | refine blk_alloc ?_ _)); exact BK221.out⟩, ⟨bel_⟩⟩
      ·rw [if_neg c45] at H
       have c45b0 : (t220 == 0) = false := beq_eq_false_iff_ne.mpr c45
       have c45b1 : (t220 != 0) = true := bne_iff_ne.mpr c45
       have H' := Aside0.mk H
       clear H
       go_wp2
       go_meet
       case rel => exact ⟨_, (true), rfs_, H', ⟨by have := HJ3.out; first | omega | exact Nat.le_refl _⟩, ⟨by (with_reducible repeat (first | refine blk_drewN ?_ _ | refine blk_drew ?_ | refine blk_alloc ?_ _)); refine blk_far ?_ NB209_221.out _; (with_reducible repeat (first | refine blk_drewN ?_ _ | refine blk_drew ?_ | refine blk_alloc ?_ _)); refine blk_far ?_ NB209_221.out _; (with_reducible repeat (first | refine blk_drewN ?_ _ | refine blk_drew ?_ | refine blk_alloc ?_ _)); refine blk_far ?_ NB209_221.out _; (with_reducible repeat (first | refine blk_drewN ?_ _ | refine blk_drew ?_ | refine blk_alloc ?_ _)); refine blk_far ?_ NB209_221.out _; (with_reducible repeat (first | refine blk_drewN ?_ _ | refine blk_drew ?_ | refine blk_alloc ?_ _)); exact BK209.out⟩, ⟨by (with_reducible repeat (first | refine blk_drewN ?_ _ | refine blk_drew ?_ | refine blk_alloc ?_ _)); refine blk_put (cs := #[.bool t216, .int .i64 t217, .int .i64 t218, .int .i64 0]) ?_ 3 _ rfl; (with_reducible repeat (first | refine blk_drewN ?_ _ | refine blk_drew ?_ | refine blk_alloc ?_ _)); refine blk_put (cs := #[.bool t216, .int .i64 t217, .int .i64 0, .int .i64 0]) ?_ 2 _ rfl; (with_reducible repeat (first | refine blk_drewN ?_ _ | refine blk_drew ?_ | refine blk_alloc ?_ _)); refine blk_put (cs := #[.bool t216, .int .i64 0, .int .i64 0, .int .i64 0]) ?_ 1 _ rfl; (with_reducible repeat (first | refine blk_drewN ?_ _ | refine blk_drew ?_ | refine blk_alloc ?_ _)); refine blk_put (cs := #[.bool false, .int .i64 0, .int .i64 0, .int .i64 0]) ?_ 0 _ rfl; (with_reducible repeat (first | refine blk_drewN ?_ _ | refine blk_drew ?_ | refine blk_alloc ?_ _)); exact BK221.out⟩, ⟨bel_⟩⟩
     ·rw [if_neg c44] at H
      have c44b0 : (t208 == 0) = false := beq_eq_false_iff_ne.mpr c44
      have c44b1 : (t208 != 0) = true := bne_iff_ne.mpr c44
      (first | rw [c44b0] | (simp only [i64_w, i32_w]; rw [c44b0]) | skip)
      have H' := Aside0.mk H
      clear H
      go_wp2
      go_meet
      case rel => exact ⟨_, (true), rfs_, H', ⟨by have := HJ3.out; first | omega | exact Nat.le_refl _⟩, ⟨by (with_reducible repeat (first | refine blk_drewN ?_ _ | refine blk_drew ?_ | refine blk_alloc ?_ _)); refine blk_far ?_ NB209_221.out _; (with_reducible repeat (first | refine blk_drewN ?_ _ | refine blk_drew ?_ | refine blk_alloc ?_ _)); refine blk_far ?_ NB209_221.out _; (with_reducible repeat (first | refine blk_drewN ?_ _ | refine blk_drew ?_ | refine blk_alloc ?_ _)); refine blk_far ?_ NB209_221.out _; (with_reducible repeat (first | refine blk_drewN ?_ _ | refine blk_drew ?_ | refine blk_alloc ?_ _)); refine blk_far ?_ NB209_221.out _; (with_reducible repeat (first | refine blk_drewN ?_ _ | refine blk_drew ?_ | refine blk_alloc ?_ _)); exact BK209.out⟩, ⟨by (with_reducible repeat (first | refine blk_drewN ?_ _ | refine blk_drew ?_ | refine blk_alloc ?_ _)); refine blk_put (cs := #[.bool t216, .int .i64 t217, .int .i64 t218, .int .i64 0]) ?_ 3 _ rfl; (with_reducible repeat (first | refine blk_drewN ?_ _ | refine blk_drew ?_ | refine blk_alloc ?_ _)); refine blk_put (cs := #[.bool t216, .int .i64 t217, .int .i64 0, .int .i64 0]) ?_ 2 _ rfl; (with_reducible repeat (first | refine blk_drewN ?_ _ | refine blk_drew ?_ | refine blk_alloc ?_ _)); refine blk_put (cs := #[.bool t216, .int .i64 0, .int .i64 0, .int .i64 0]) ?_ 1 _ rfl; (with_reducible repeat (first | refine blk_drewN ?_ _ | refine blk_drew ?_ | refine blk_alloc ?_ _)); refine blk_put (cs := #[.bool false, .int .i64 0, .int .i64 0, .int .i64 0]) ?_ 0 _ rfl; (with_reducible repeat (first | refine blk_drewN ?_ _ | refine blk_drew ?_ | refine blk_alloc ?_ _)); exact BK221.out⟩, ⟨bel_⟩⟩
    case rest =>
     clear HC32
     try clear c1
     try clear c2
     try clear p2
     try clear c4
     try clear c5
     try clear c6
     try clear c7
     try clear c7b0
     try clear c7b1
     try clear c7b2
     try clear c11
     try clear c12
     try clear c23
     try clear c42
     try clear c44
     try clear c44b0
     try clear c44b1
     try clear c45
     try clear c45b0
     try clear c45b1
     try clear c46
     try clear hcz37_0
     try clear hcz37_1
     try clear hcz37_2
     try clear hcz37_3
     try clear hcz43_0
     try clear hcz43_1
     try clear hcz43_2
     try clear hcz43_3
     try clear hcz47_0
     try clear hcz47_1
     try clear hcz47_2
     try clear hcz47_3
     try clear hcz48_0
     try clear hcz48_1
     try clear hcz48_2
     try clear hcz48_3
     try clear hfz37_0
     try clear hfz37_1
     try clear hfz37_2
     try clear hfz37_3
     try clear hfz43_0
     try clear hfz43_1
     try clear hfz43_2
     try clear hfz43_3
     try clear hfz47_0
     try clear hfz47_1
     try clear hfz47_2
     try clear hfz47_3
     try clear hfz48_0
     try clear hfz48_1
     try clear hfz48_2
     try clear hfz48_3
     try clear p2
     obtain ⟨kq, x64_31, rfl, HA, HJ31, BK209, BK221, HB⟩ := hcut
     cases kq with
     | zero => exact absurd HA.out (by simp [parterrelaw18_ResolveTurned.j1])
     | succ kj31 =>
      have H := HA.out
      clear HA
      simp only [parterrelaw18_ResolveTurned.j1] at H
      by_cases c49 : x64_31 = true
      ·subst c49
       rw [if_pos rfl] at H
       obtain rfl := Option.some.inj H
       go_wp2
       go_ret
       exact ⟨rsl_, bel_⟩
      ·replace c49 := Bool.eq_false_iff.mpr c49
       subst c49
       rw [if_neg (show ¬ (false = true) by decide)] at H
       replace H := Option.bind_eq_some_iff.mp H
       obtain ⟨⟨t222, t223, t224⟩, A500, H⟩ := H
       try dsimp only at H
       have A50 := Aside0.mk A500
       clear A500
       replace H := Option.bind_eq_some_iff.mp H
       obtain ⟨⟨t225, t226, t227, t228, t229⟩, A510, H⟩ := H
       try dsimp only at H
       have A51 := Aside0.mk A510
       clear A510
       have HC52 := Aside0.mk H
       clear H
       go_upto_region 8 with (first | ((with_reducible refine gate_callee (f := 56) rfl ?_); refine goesL_ (some 68) rfl rfl Try.func56 (by kernel_rfl) rfl #[.int .i64 a1] rfl goa_ ?_; (with_reducible refine (parterrelaw18_num.calls a1 t222 t223 t224 _ A50.out).mono ?_); rintro e w53 ⟨rfl, hb⟩; refine ⟨_, rfl, ?_⟩; have n0_ := blb_ BK209 hb; have n1_ := blb_ BK221 hb; have n2_ := Aside0.mk (below_step bel_ hb); clear BK209; clear BK221; clear HB; have BK209 := n0_; have BK221 := n1_; have HB := n2_; clear n0_ n1_ n2_; clear hb) | ((with_reducible refine gate_callee (f := 58) rfl ?_); refine goesL_ (some 70) rfl rfl Try.func58 (by kernel_rfl) rfl #[.slice A0 l0.length c0, .agg #[.int .i64 t222, .int .i64 t223, .string t224], .agg #[.int .i64 1, .int .i64 0, .string (⟨#[]⟩ : ByteArray)]] rfl goa_ ?_; (with_reducible refine (resolve_Span.calls kj31 _ _ l0 t222 t223 t224 1 0 (⟨#[]⟩ : ByteArray) t225 t226 t227 t228 t229 _ ?side1 ?side2 A51.out).mono ?_); (case side1 => repeat (first | exact (Kd.C_below HR0.out HB.out) | (with_reducible refine Kd.C_alloc ?_ _) | (with_reducible refine Kd.C_drewN ?_ _) | (with_reducible refine Kd.C_drew ?_))); (case side2 => exact HC0.out); rintro e w54 ⟨rfl, hb⟩; refine ⟨_, rfl, ?_⟩; have n0_ := blb_ BK209 hb; have n1_ := blb_ BK221 hb; have n2_ := Aside0.mk (below_step bel_ hb); clear BK209; clear BK221; clear HB; have BK209 := n0_; have BK221 := n1_; have HB := n2_; clear n0_ n1_ n2_; clear hb) | ((with_reducible refine gate_dst (N := 11) rfl ?_); (try (refine gate_guard (by rfl) ?_; dsimp only)); refine box_event ?hg (N := 11) ?hd (cs := #[.bool false, .int .i64 0, .int .i64 0, .int .i64 0]) (t := 72) ?hr ?_; (case hd => rfl); (case hg => rfl); (case hr => first | (go_simp; done) | (go_simp; rfl)); intro gb230 hg w55 hbox hb; have n0_ := blb_ BK209 hb; have n1_ := blb_ BK221 hb; have n2_ := Aside0.mk (below_step bel_ hb); have n3_ := Aside0.mk (hbox); have n4_ := Aside0.mk ((bsz_ hg : w.heap.size ≤ gb230)); have n5_ := Aside0.mk ((bsz_ hg : w.heap.size ≤ gb230)); have n6_ := Aside0.mk (bne_ BK209 hg : gb209 ≠ gb230); have n7_ := Aside0.mk (bng_ BK209 hg : gb230 ≠ gb209); have n8_ := Aside0.mk (bne_ BK221 hg : gb221 ≠ gb230); have n9_ := Aside0.mk (bng_ BK221 hg : gb230 ≠ gb221); clear BK209; clear BK221; clear HB; have BK209 := n0_; have BK221 := n1_; have HB := n2_; have BK230 := n3_; have GW230 := n4_; have GE230 := n5_; have NB209_230 := n6_; have NB230_209 := n7_; have NB221_230 := n8_; have NB230_221 := n9_; clear n0_ n1_ n2_ n3_ n4_ n5_ n6_ n7_ n8_ n9_; clear hb hbox hg; have hnb56 := NB230_209.out; have hnc56 := NB209_230.out; have hnb57 := NB230_221.out; have hnc57 := NB221_230.out; have hcz58_0 : w55.cell? ⟨gb230, 0, none⟩ = some (.bool false) := (blk_cell BK230.out 0).trans rfl; have hcz58_1 : w55.cell? ⟨gb230, 1, none⟩ = some (.int .i64 0) := (blk_cell BK230.out 1).trans rfl; have hcz58_2 : w55.cell? ⟨gb230, 2, none⟩ = some (.int .i64 0) := (blk_cell BK230.out 2).trans rfl; have hcz58_3 : w55.cell? ⟨gb230, 3, none⟩ = some (.int .i64 0) := (blk_cell BK230.out 3).trans rfl; have hfz58_0 := blk_frozen BK230.out 0; have hfz58_1 := blk_frozen BK230.out 1; have hfz58_2 := blk_frozen BK230.out 2; have hfz58_3 := blk_frozen BK230.out 3))
       (try simp only [Act.put, List.setIfInBounds_toArray, List.set_cons_zero, List.set_cons_succ])
       go_cut [82] (fun v82 wc => ∃ (kq : Nat) (x82_51 : Bool), v82 = .bool x82_51 ∧ Aside0 (parterrelaw18_ResolveTurned.j2 kq l0 a1 a2 x82_51 t225 t226 t227 t228 = some r) ∧ Aside0 (kq ≤ kj31) ∧ Aside0 (wc.heap[gb209]? = some (.cells #[.bool t204, .int .i64 t205, .int .i64 t206, .int .i64 t207] 72 (0, 0))) ∧ Aside0 (wc.heap[gb221]? = some (.cells #[.bool t216, .int .i64 t217, .int .i64 t218, .int .i64 t219] 72 (0, 0))) ∧ Aside0 (wc.heap[gb230]? = some (.cells #[.bool t225, .int .i64 t226, .int .i64 t227, .int .i64 t228] 72 (0, 0))) ∧ Aside0 (Below w.heap.size w wc))
       case first =>
        have H := HC52.out
        clear HC52
        by_cases c59 : t229 = 0
        ·rw [if_pos c59] at H
         have c59b0 : (t229 == 0) = true := beq_iff_eq.mpr c59
         have c59b1 : (t229 != 0) = false := bne_eq_false_iff_eq.mpr c59
         clear c59
         (first | rw [c59b0] | (simp only [i64_w, i32_w]; rw [c59b0]) | skip)
         have H' := Aside0.mk H
         clear H
         have hnb60 := NB230_209.out
         have hnc60 := NB209_230.out
         have hnb61 := NB230_221.out
         have hnc61 := NB221_230.out
         have hcz62_0 : w55.cell? ⟨gb230, 0, none⟩ = some (.bool false) := (blk_cell BK230.out 0).trans rfl
         have hcz62_1 : w55.cell? ⟨gb230, 1, none⟩ = some (.int .i64 0) := (blk_cell BK230.out 1).trans rfl
         have hcz62_2 : w55.cell? ⟨gb230, 2, none⟩ = some (.int .i64 0) := (blk_cell BK230.out 2).trans rfl
         have hcz62_3 : w55.cell? ⟨gb230, 3, none⟩ = some (.int .i64 0) := (blk_cell BK230.out 3).trans rfl
         have hfz62_0 := blk_frozen BK230.out 0
         have hfz62_1 := blk_frozen BK230.out 1
         have hfz62_2 := blk_frozen BK230.out 2
         have hfz62_3 := blk_frozen BK230.out 3
         go_wp2
         go_meet
         case rel => exact ⟨_, (((wrap64 (t227 - t226)) != 1)), rfs_, H', ⟨by have := HJ3.out; have := HJ31.out; first | omega | exact Nat.le_refl _⟩, ⟨by (with_reducible repeat (first | refine blk_drewN ?_ _ | refine blk_drew ?_ | refine blk_alloc ?_ _)); refine blk_far ?_ NB209_230.out _; (with_reducible repeat (first | refine blk_drewN ?_ _ | refine blk_drew ?_ | refine blk_alloc ?_ _)); refine blk_far ?_ NB209_230.out _; (with_reducible repeat (first | refine blk_drewN ?_ _ | refine blk_drew ?_ | refine blk_alloc ?_ _)); refine blk_far ?_ NB209_230.out _; (with_reducible repeat (first | refine blk_drewN ?_ _ | refine blk_drew ?_ | refine blk_alloc ?_ _)); refine blk_far ?_ NB209_230.out _; (with_reducible repeat (first | refine blk_drewN ?_ _ | refine blk_drew ?_ | refine blk_alloc ?_ _)); exact BK209.out⟩, ⟨by (with_reducible repeat (first | refine blk_drewN ?_ _ | refine blk_drew ?_ | refine blk_alloc ?_ _)); refine blk_far ?_ NB221_230.out _; (with_reducible repeat (first | refine blk_drewN ?_ _ | refine blk_drew ?_ | refine blk_alloc ?_ _)); refine blk_far ?_ NB221_230.out _; (with_reducible repeat (first | refine blk_drewN ?_ _ | refine blk_drew ?_ | refine blk_alloc ?_ _)); refine blk_far ?_ NB221_230.out _; (with_reducible repeat (first | refine blk_drewN ?_ _ | refine blk_drew ?_ | refine blk_alloc ?_ _)); refine blk_far ?_ NB221_230.out _; (with_reducible repeat (first | refine blk_drewN ?_ _ | refine blk_drew ?_ | refine blk_alloc ?_ _)); exact BK221.out⟩, ⟨by (with_reducible repeat (first | refine blk_drewN ?_ _ | refine blk_drew ?_ | refine blk_alloc ?_ _)); refine blk_put (cs := #[.bool t225, .int .i64 t226, .int .i64 t227, .int .i64 0]) ?_ 3 _ rfl; (with_reducible repeat (first | refine blk_drewN ?_ _ | refine blk_drew ?_ | refine blk_alloc ?_ _)); refine blk_put (cs := #[.bool t225, .int .i64 t226, .int .i64 0, .int .i64 0]) ?_ 2 _ rfl; (with_reducible repeat (first | refine blk_drewN ?_ _ | refine blk_drew ?_ | refine blk_alloc ?_ _)); refine blk_put (cs := #[.bool t225, .int .i64 0, .int .i64 0, .int .i64 0]) ?_ 1 _ rfl; (with_reducible repeat (first | refine blk_drewN ?_ _ | refine blk_drew ?_ | refine blk_alloc ?_ _)); refine blk_put (cs := #[.bool false, .int .i64 0, .int .i64 0, .int .i64 0]) ?_ 0 _ rfl; (with_reducible repeat (first | refine blk_drewN ?_ _ | refine blk_drew ?_ | refine blk_alloc ?_ _)); exact BK230.out⟩, ⟨bel_⟩⟩
        ·rw [if_neg c59] at H
         have c59b0 : (t229 == 0) = false := beq_eq_false_iff_ne.mpr c59
         have c59b1 : (t229 != 0) = true := bne_iff_ne.mpr c59
         (first | rw [c59b0] | (simp only [i64_w, i32_w]; rw [c59b0]) | skip)
         have H' := Aside0.mk H
         clear H
         go_wp2
         go_meet
         case rel => exact ⟨_, (true), rfs_, H', ⟨by have := HJ3.out; have := HJ31.out; first | omega | exact Nat.le_refl _⟩, ⟨by (with_reducible repeat (first | refine blk_drewN ?_ _ | refine blk_drew ?_ | refine blk_alloc ?_ _)); refine blk_far ?_ NB209_230.out _; (with_reducible repeat (first | refine blk_drewN ?_ _ | refine blk_drew ?_ | refine blk_alloc ?_ _)); refine blk_far ?_ NB209_230.out _; (with_reducible repeat (first | refine blk_drewN ?_ _ | refine blk_drew ?_ | refine blk_alloc ?_ _)); refine blk_far ?_ NB209_230.out _; (with_reducible repeat (first | refine blk_drewN ?_ _ | refine blk_drew ?_ | refine blk_alloc ?_ _)); refine blk_far ?_ NB209_230.out _; (with_reducible repeat (first | refine blk_drewN ?_ _ | refine blk_drew ?_ | refine blk_alloc ?_ _)); exact BK209.out⟩, ⟨by (with_reducible repeat (first | refine blk_drewN ?_ _ | refine blk_drew ?_ | refine blk_alloc ?_ _)); refine blk_far ?_ NB221_230.out _; (with_reducible repeat (first | refine blk_drewN ?_ _ | refine blk_drew ?_ | refine blk_alloc ?_ _)); refine blk_far ?_ NB221_230.out _; (with_reducible repeat (first | refine blk_drewN ?_ _ | refine blk_drew ?_ | refine blk_alloc ?_ _)); refine blk_far ?_ NB221_230.out _; (with_reducible repeat (first | refine blk_drewN ?_ _ | refine blk_drew ?_ | refine blk_alloc ?_ _)); refine blk_far ?_ NB221_230.out _; (with_reducible repeat (first | refine blk_drewN ?_ _ | refine blk_drew ?_ | refine blk_alloc ?_ _)); exact BK221.out⟩, ⟨by (with_reducible repeat (first | refine blk_drewN ?_ _ | refine blk_drew ?_ | refine blk_alloc ?_ _)); refine blk_put (cs := #[.bool t225, .int .i64 t226, .int .i64 t227, .int .i64 0]) ?_ 3 _ rfl; (with_reducible repeat (first | refine blk_drewN ?_ _ | refine blk_drew ?_ | refine blk_alloc ?_ _)); refine blk_put (cs := #[.bool t225, .int .i64 t226, .int .i64 0, .int .i64 0]) ?_ 2 _ rfl; (with_reducible repeat (first | refine blk_drewN ?_ _ | refine blk_drew ?_ | refine blk_alloc ?_ _)); refine blk_put (cs := #[.bool t225, .int .i64 0, .int .i64 0, .int .i64 0]) ?_ 1 _ rfl; (with_reducible repeat (first | refine blk_drewN ?_ _ | refine blk_drew ?_ | refine blk_alloc ?_ _)); refine blk_put (cs := #[.bool false, .int .i64 0, .int .i64 0, .int .i64 0]) ?_ 0 _ rfl; (with_reducible repeat (first | refine blk_drewN ?_ _ | refine blk_drew ?_ | refine blk_alloc ?_ _)); exact BK230.out⟩, ⟨bel_⟩⟩
       case rest =>
        clear HC52
        try clear c1
        try clear c2
        try clear p2
        try clear c4
        try clear c5
        try clear c6
        try clear p6
        try clear c7
        try clear c7b0
        try clear c7b1
        try clear c7b2
        try clear c11
        try clear c12
        try clear c23
        try clear c42
        try clear c44
        try clear c44b0
        try clear c44b1
        try clear c45
        try clear c45b0
        try clear c45b1
        try clear c46
        try clear c49
        try clear c54
        try clear c56
        try clear c57
        try clear c58
        try clear c59
        try clear c59b0
        try clear c59b1
        try clear c60
        try clear c61
        try clear hcz37_0
        try clear hcz37_1
        try clear hcz37_2
        try clear hcz37_3
        try clear hcz43_0
        try clear hcz43_1
        try clear hcz43_2
        try clear hcz43_3
        try clear hcz47_0
        try clear hcz47_1
        try clear hcz47_2
        try clear hcz47_3
        try clear hcz48_0
        try clear hcz48_1
        try clear hcz48_2
        try clear hcz48_3
        try clear hcz58_0
        try clear hcz58_1
        try clear hcz58_2
        try clear hcz58_3
        try clear hcz62_0
        try clear hcz62_1
        try clear hcz62_2
        try clear hcz62_3
        try clear hfz37_0
        try clear hfz37_1
        try clear hfz37_2
        try clear hfz37_3
        try clear hfz43_0
        try clear hfz43_1
        try clear hfz43_2
        try clear hfz43_3
        try clear hfz47_0
        try clear hfz47_1
        try clear hfz47_2
        try clear hfz47_3
        try clear hfz48_0
        try clear hfz48_1
        try clear hfz48_2
        try clear hfz48_3
        try clear hfz58_0
        try clear hfz58_1
        try clear hfz58_2
        try clear hfz58_3
        try clear hfz62_0
        try clear hfz62_1
        try clear hfz62_2
        try clear hfz62_3
        try clear p2
        obtain ⟨kq, x82_51, rfl, HA, HJ51, BK209, BK221, BK230, HB⟩ := hcut
        cases kq with
        | zero => exact absurd HA.out (by simp [parterrelaw18_ResolveTurned.j2])
        | succ kj51 =>
         have H := HA.out
         clear HA
         simp only [parterrelaw18_ResolveTurned.j2] at H
         by_cases c63 : x82_51 = true
         ·subst c63
          rw [if_pos rfl] at H
          obtain rfl := Option.some.inj H
          go_wp2
          go_ret
          exact ⟨rsl_, bel_⟩
         ·replace c63 := Bool.eq_false_iff.mpr c63
          subst c63
          rw [if_neg (show ¬ (false = true) by decide)] at H
          replace H := Option.bind_eq_some_iff.mp H
          obtain ⟨⟨t231, t232, t233⟩, A640, H⟩ := H
          try dsimp only at H
          have A64 := Aside0.mk A640
          clear A640
          replace H := Option.bind_eq_some_iff.mp H
          obtain ⟨⟨t234, t235, t236, t237, t238⟩, A650, H⟩ := H
          try dsimp only at H
          have A65 := Aside0.mk A650
          clear A650
          by_cases c66 : t238 = 0
          ·rw [if_pos c66] at H
           have c66b0 : (t238 == 0) = true := beq_iff_eq.mpr c66
           have c66b1 : (t238 != 0) = false := bne_eq_false_iff_eq.mpr c66
           clear c66
           by_cases c67 : t235 = t226
           ·rw [if_pos c67] at H
            have c67b0 : (t235 == t226) = true := beq_iff_eq.mpr c67
            have c67b1 : (t235 != t226) = false := bne_eq_false_iff_eq.mpr c67
            clear c67
            obtain ⟨ji68, hji68⟩ : ∃ j_ : Int, (mn 10000 (wrap64 (t235 + (wrap64 (1 + (wrap64 (Int.tmod (IntKind.u64.wrap (a2)) 50))))))) = j_ := ⟨_, rfl⟩
            replace H : (if t236 = (ji68) then ((parterrelaw18_lives.f kj51).bind fun t240 => (some t240)) else (some false)) = some r := by first | (rw [hji68] at H; exact H) | (simp only [hji68] at H ⊢; exact H)
            (try rw [hji68] at A64)
            (try rw [hji68] at A65)
            have hji68_ : (if (wrap64 (t235 + (wrap64 (1 + (wrap64 (Int.tmod (IntKind.u64.wrap (a2)) 50)))))) < 10000 then (wrap64 (t235 + (wrap64 (1 + (wrap64 (Int.tmod (IntKind.u64.wrap (a2)) 50)))))) else 10000) = ji68 := hji68
            by_cases c69 : t236 = (ji68)
            ·rw [if_pos c69] at H
             have c69b0 : (t236 == (ji68)) = true := beq_iff_eq.mpr c69
             have c69b1 : (t236 != (ji68)) = false := bne_eq_false_iff_eq.mpr c69
             clear c69
             replace H := Option.bind_eq_some_iff.mp H
             obtain ⟨t240, A700, H⟩ := H
             try dsimp only at H
             have A70 := Aside0.mk A700
             clear A700
             obtain rfl := Option.some.inj H
             go_wp2_with (first | ((with_reducible refine gate_callee (f := 56) rfl ?_); refine goesL_ (some 91) rfl rfl Try.func56 (by kernel_rfl) rfl #[.int .i64 a1] rfl goa_ ?_; (with_reducible refine (parterrelaw18_num.calls a1 t231 t232 t233 _ A64.out).mono ?_); rintro e w71 ⟨rfl, hb⟩; refine ⟨_, rfl, ?_⟩; have n0_ := blb_ BK209 hb; have n1_ := blb_ BK221 hb; have n2_ := blb_ BK230 hb; have n3_ := Aside0.mk (below_step bel_ hb); clear BK209; clear BK221; clear BK230; clear HB; have BK209 := n0_; have BK221 := n1_; have BK230 := n2_; have HB := n3_; clear n0_ n1_ n2_ n3_; clear hb) | ((with_reducible refine gate_callee (f := 58) rfl ?_); refine goesL_ (some 94) rfl rfl Try.func58 (by kernel_rfl) rfl #[.slice A0 l0.length c0, .agg #[.int .i64 t231, .int .i64 t232, .string t233], .agg #[.int .i64 4, .int .i64 (wrap64 (1 + (wrap64 (Int.tmod (IntKind.u64.wrap (a2)) 50)))), .string (⟨#[]⟩ : ByteArray)]] rfl goa_ ?_; (with_reducible refine (resolve_Span.calls kj51 _ _ l0 t231 t232 t233 4 (wrap64 (1 + (wrap64 (Int.tmod (IntKind.u64.wrap (a2)) 50)))) (⟨#[]⟩ : ByteArray) t234 t235 t236 t237 t238 _ ?side1 ?side2 A65.out).mono ?_); (case side1 => repeat (first | exact (Kd.C_below HR0.out HB.out) | (with_reducible refine Kd.C_alloc ?_ _) | (with_reducible refine Kd.C_drewN ?_ _) | (with_reducible refine Kd.C_drew ?_))); (case side2 => exact HC0.out); rintro e w72 ⟨rfl, hb⟩; refine ⟨_, rfl, ?_⟩; have n0_ := blb_ BK209 hb; have n1_ := blb_ BK221 hb; have n2_ := blb_ BK230 hb; have n3_ := Aside0.mk (below_step bel_ hb); clear BK209; clear BK221; clear BK230; clear HB; have BK209 := n0_; have BK221 := n1_; have BK230 := n2_; have HB := n3_; clear n0_ n1_ n2_ n3_; clear hb) | ((with_reducible refine gate_dst (N := 14) rfl ?_); (try (refine gate_guard (by rfl) ?_; dsimp only)); refine box_event ?hg (N := 14) ?hd (cs := #[.bool false, .int .i64 0, .int .i64 0, .int .i64 0]) (t := 72) ?hr ?_; (case hd => rfl); (case hg => rfl); (case hr => first | (go_simp; done) | (go_simp; rfl)); intro gb239 hg w73 hbox hb; have n0_ := blb_ BK209 hb; have n1_ := blb_ BK221 hb; have n2_ := blb_ BK230 hb; have n3_ := Aside0.mk (below_step bel_ hb); have n4_ := Aside0.mk (hbox); have n5_ := Aside0.mk ((bsz_ hg : w.heap.size ≤ gb239)); have n6_ := Aside0.mk ((bsz_ hg : w.heap.size ≤ gb239)); have n7_ := Aside0.mk (bne_ BK209 hg : gb209 ≠ gb239); have n8_ := Aside0.mk (bng_ BK209 hg : gb239 ≠ gb209); have n9_ := Aside0.mk (bne_ BK221 hg : gb221 ≠ gb239); have n10_ := Aside0.mk (bng_ BK221 hg : gb239 ≠ gb221); have n11_ := Aside0.mk (bne_ BK230 hg : gb230 ≠ gb239); have n12_ := Aside0.mk (bng_ BK230 hg : gb239 ≠ gb230); clear BK209; clear BK221; clear BK230; clear HB; have BK209 := n0_; have BK221 := n1_; have BK230 := n2_; have HB := n3_; have BK239 := n4_; have GW239 := n5_; have GE239 := n6_; have NB209_239 := n7_; have NB239_209 := n8_; have NB221_239 := n9_; have NB239_221 := n10_; have NB230_239 := n11_; have NB239_230 := n12_; clear n0_ n1_ n2_ n3_ n4_ n5_ n6_ n7_ n8_ n9_ n10_ n11_ n12_; clear hb hbox hg; have hnb74 := NB239_209.out; have hnc74 := NB209_239.out; have hnb75 := NB239_221.out; have hnc75 := NB221_239.out; have hnb76 := NB239_230.out; have hnc76 := NB230_239.out; have hcz77_0 : w73.cell? ⟨gb239, 0, none⟩ = some (.bool false) := (blk_cell BK239.out 0).trans rfl; have hcz77_1 : w73.cell? ⟨gb239, 1, none⟩ = some (.int .i64 0) := (blk_cell BK239.out 1).trans rfl; have hcz77_2 : w73.cell? ⟨gb239, 2, none⟩ = some (.int .i64 0) := (blk_cell BK239.out 2).trans rfl; have hcz77_3 : w73.cell? ⟨gb239, 3, none⟩ = some (.int .i64 0) := (blk_cell BK239.out 3).trans rfl; have hfz77_0 := blk_frozen BK239.out 0; have hfz77_1 := blk_frozen BK239.out 1; have hfz77_2 := blk_frozen BK239.out 2; have hfz77_3 := blk_frozen BK239.out 3; have hnb78 := NB230_209.out; have hnc78 := NB209_230.out; have hnb79 := NB230_221.out; have hnc79 := NB221_230.out; have hcz80_0 : w73.cell? ⟨gb230, 0, none⟩ = some (.bool t225) := (blk_cell BK230.out 0).trans rfl; have hcz80_1 : w73.cell? ⟨gb230, 1, none⟩ = some (.int .i64 t226) := (blk_cell BK230.out 1).trans rfl; have hcz80_2 : w73.cell? ⟨gb230, 2, none⟩ = some (.int .i64 t227) := (blk_cell BK230.out 2).trans rfl; have hcz80_3 : w73.cell? ⟨gb230, 3, none⟩ = some (.int .i64 t228) := (blk_cell BK230.out 3).trans rfl; have hfz80_0 := blk_frozen BK230.out 0; have hfz80_1 := blk_frozen BK230.out 1; have hfz80_2 := blk_frozen BK230.out 2; have hfz80_3 := blk_frozen BK230.out 3) | (go_at_call 57; (with_reducible refine (parterrelaw18_lives.calls kj51  t240 _ A70.out).mono ?_); rintro e w81 ⟨rfl, hb⟩; have n0_ := Aside0.mk (blk_below (g := gb209) (o := .cells #[.bool t204, .int .i64 t205, .int .i64 t206, .int .i64 t207] 72 (0, 0)) (by (with_reducible repeat (first | refine blk_drewN ?_ _ | refine blk_drew ?_ | refine blk_alloc ?_ _)); refine blk_far ?_ NB209_239.out _; (with_reducible repeat (first | refine blk_drewN ?_ _ | refine blk_drew ?_ | refine blk_alloc ?_ _)); refine blk_far ?_ NB209_239.out _; (with_reducible repeat (first | refine blk_drewN ?_ _ | refine blk_drew ?_ | refine blk_alloc ?_ _)); refine blk_far ?_ NB209_239.out _; (with_reducible repeat (first | refine blk_drewN ?_ _ | refine blk_drew ?_ | refine blk_alloc ?_ _)); refine blk_far ?_ NB209_239.out _; (with_reducible repeat (first | refine blk_drewN ?_ _ | refine blk_drew ?_ | refine blk_alloc ?_ _)); exact BK209.out) hb); have n1_ := Aside0.mk (blk_below (g := gb221) (o := .cells #[.bool t216, .int .i64 t217, .int .i64 t218, .int .i64 t219] 72 (0, 0)) (by (with_reducible repeat (first | refine blk_drewN ?_ _ | refine blk_drew ?_ | refine blk_alloc ?_ _)); refine blk_far ?_ NB221_239.out _; (with_reducible repeat (first | refine blk_drewN ?_ _ | refine blk_drew ?_ | refine blk_alloc ?_ _)); refine blk_far ?_ NB221_239.out _; (with_reducible repeat (first | refine blk_drewN ?_ _ | refine blk_drew ?_ | refine blk_alloc ?_ _)); refine blk_far ?_ NB221_239.out _; (with_reducible repeat (first | refine blk_drewN ?_ _ | refine blk_drew ?_ | refine blk_alloc ?_ _)); refine blk_far ?_ NB221_239.out _; (with_reducible repeat (first | refine blk_drewN ?_ _ | refine blk_drew ?_ | refine blk_alloc ?_ _)); exact BK221.out) hb); have n2_ := Aside0.mk (blk_below (g := gb230) (o := .cells #[.bool t225, .int .i64 t226, .int .i64 t227, .int .i64 t228] 72 (0, 0)) (by (with_reducible repeat (first | refine blk_drewN ?_ _ | refine blk_drew ?_ | refine blk_alloc ?_ _)); refine blk_far ?_ NB230_239.out _; (with_reducible repeat (first | refine blk_drewN ?_ _ | refine blk_drew ?_ | refine blk_alloc ?_ _)); refine blk_far ?_ NB230_239.out _; (with_reducible repeat (first | refine blk_drewN ?_ _ | refine blk_drew ?_ | refine blk_alloc ?_ _)); refine blk_far ?_ NB230_239.out _; (with_reducible repeat (first | refine blk_drewN ?_ _ | refine blk_drew ?_ | refine blk_alloc ?_ _)); refine blk_far ?_ NB230_239.out _; (with_reducible repeat (first | refine blk_drewN ?_ _ | refine blk_drew ?_ | refine blk_alloc ?_ _)); exact BK230.out) hb); have n3_ := Aside0.mk (blk_below (g := gb239) (o := .cells #[.bool t234, .int .i64 t235, .int .i64 t236, .int .i64 t237] 72 (0, 0)) (by (with_reducible repeat (first | refine blk_drewN ?_ _ | refine blk_drew ?_ | refine blk_alloc ?_ _)); refine blk_put (cs := #[.bool t234, .int .i64 t235, .int .i64 t236, .int .i64 0]) ?_ 3 _ rfl; (with_reducible repeat (first | refine blk_drewN ?_ _ | refine blk_drew ?_ | refine blk_alloc ?_ _)); refine blk_put (cs := #[.bool t234, .int .i64 t235, .int .i64 0, .int .i64 0]) ?_ 2 _ rfl; (with_reducible repeat (first | refine blk_drewN ?_ _ | refine blk_drew ?_ | refine blk_alloc ?_ _)); refine blk_put (cs := #[.bool t234, .int .i64 0, .int .i64 0, .int .i64 0]) ?_ 1 _ rfl; (with_reducible repeat (first | refine blk_drewN ?_ _ | refine blk_drew ?_ | refine blk_alloc ?_ _)); refine blk_put (cs := #[.bool false, .int .i64 0, .int .i64 0, .int .i64 0]) ?_ 0 _ rfl; (with_reducible repeat (first | refine blk_drewN ?_ _ | refine blk_drew ?_ | refine blk_alloc ?_ _)); exact BK239.out) hb); have n4_ := Aside0.mk (below_step bel_ hb); clear BK209; clear BK221; clear BK230; clear BK239; clear HB; have BK209 := n0_; have BK221 := n1_; have BK230 := n2_; have BK239 := n3_; have HB := n4_; clear n0_ n1_ n2_ n3_ n4_; clear hb))
             go_ret
             exact ⟨by first | rfl | (simp [errW_none, errW_some] <;> rfl) | (simp only [← hji68]; first | rfl | (simp [errW_none, errW_some] <;> rfl)) | (simp [*, errW_none, errW_some] <;> rfl), bel_⟩
            ·rw [if_neg c69] at H
             have c69b0 : (t236 == (ji68)) = false := beq_eq_false_iff_ne.mpr c69
             have c69b1 : (t236 != (ji68)) = true := bne_iff_ne.mpr c69
             obtain rfl := Option.some.inj H
             go_wp2_with (first | ((with_reducible refine gate_callee (f := 56) rfl ?_); refine goesL_ (some 91) rfl rfl Try.func56 (by kernel_rfl) rfl #[.int .i64 a1] rfl goa_ ?_; (with_reducible refine (parterrelaw18_num.calls a1 t231 t232 t233 _ A64.out).mono ?_); rintro e w82 ⟨rfl, hb⟩; refine ⟨_, rfl, ?_⟩; have n0_ := blb_ BK209 hb; have n1_ := blb_ BK221 hb; have n2_ := blb_ BK230 hb; have n3_ := Aside0.mk (below_step bel_ hb); clear BK209; clear BK221; clear BK230; clear HB; have BK209 := n0_; have BK221 := n1_; have BK230 := n2_; have HB := n3_; clear n0_ n1_ n2_ n3_; clear hb) | ((with_reducible refine gate_callee (f := 58) rfl ?_); refine goesL_ (some 94) rfl rfl Try.func58 (by kernel_rfl) rfl #[.slice A0 l0.length c0, .agg #[.int .i64 t231, .int .i64 t232, .string t233], .agg #[.int .i64 4, .int .i64 (wrap64 (1 + (wrap64 (Int.tmod (IntKind.u64.wrap (a2)) 50)))), .string (⟨#[]⟩ : ByteArray)]] rfl goa_ ?_; (with_reducible refine (resolve_Span.calls kj51 _ _ l0 t231 t232 t233 4 (wrap64 (1 + (wrap64 (Int.tmod (IntKind.u64.wrap (a2)) 50)))) (⟨#[]⟩ : ByteArray) t234 t235 t236 t237 t238 _ ?side1 ?side2 A65.out).mono ?_); (case side1 => repeat (first | exact (Kd.C_below HR0.out HB.out) | (with_reducible refine Kd.C_alloc ?_ _) | (with_reducible refine Kd.C_drewN ?_ _) | (with_reducible refine Kd.C_drew ?_))); (case side2 => exact HC0.out); rintro e w83 ⟨rfl, hb⟩; refine ⟨_, rfl, ?_⟩; have n0_ := blb_ BK209 hb; have n1_ := blb_ BK221 hb; have n2_ := blb_ BK230 hb; have n3_ := Aside0.mk (below_step bel_ hb); clear BK209; clear BK221; clear BK230; clear HB; have BK209 := n0_; have BK221 := n1_; have BK230 := n2_; have HB := n3_; clear n0_ n1_ n2_ n3_; clear hb) | ((with_reducible refine gate_dst (N := 14) rfl ?_); (try (refine gate_guard (by rfl) ?_; dsimp only)); refine box_event ?hg (N := 14) ?hd (cs := #[.bool false, .int .i64 0, .int .i64 0, .int .i64 0]) (t := 72) ?hr ?_; (case hd => rfl); (case hg => rfl); (case hr => first | (go_simp; done) | (go_simp; rfl)); intro gb239 hg w84 hbox hb; have n0_ := blb_ BK209 hb; have n1_ := blb_ BK221 hb; have n2_ := blb_ BK230 hb; have n3_ := Aside0.mk (below_step bel_ hb); have n4_ := Aside0.mk (hbox); have n5_ := Aside0.mk ((bsz_ hg : w.heap.size ≤ gb239)); have n6_ := Aside0.mk ((bsz_ hg : w.heap.size ≤ gb239)); have n7_ := Aside0.mk (bne_ BK209 hg : gb209 ≠ gb239); have n8_ := Aside0.mk (bng_ BK209 hg : gb239 ≠ gb209); have n9_ := Aside0.mk (bne_ BK221 hg : gb221 ≠ gb239); have n10_ := Aside0.mk (bng_ BK221 hg : gb239 ≠ gb221); have n11_ := Aside0.mk (bne_ BK230 hg : gb230 ≠ gb239); have n12_ := Aside0.mk (bng_ BK230 hg : gb239 ≠ gb230); clear BK209; clear BK221; clear BK230; clear HB; have BK209 := n0_; have BK221 := n1_; have BK230 := n2_; have HB := n3_; have BK239 := n4_; have GW239 := n5_; have GE239 := n6_; have NB209_239 := n7_; have NB239_209 := n8_; have NB221_239 := n9_; have NB239_221 := n10_; have NB230_239 := n11_; have NB239_230 := n12_; clear n0_ n1_ n2_ n3_ n4_ n5_ n6_ n7_ n8_ n9_ n10_ n11_ n12_; clear hb hbox hg; have hnb85 := NB239_209.out; have hnc85 := NB209_239.out; have hnb86 := NB239_221.out; have hnc86 := NB221_239.out; have hnb87 := NB239_230.out; have hnc87 := NB230_239.out; have hcz88_0 : w84.cell? ⟨gb239, 0, none⟩ = some (.bool false) := (blk_cell BK239.out 0).trans rfl; have hcz88_1 : w84.cell? ⟨gb239, 1, none⟩ = some (.int .i64 0) := (blk_cell BK239.out 1).trans rfl; have hcz88_2 : w84.cell? ⟨gb239, 2, none⟩ = some (.int .i64 0) := (blk_cell BK239.out 2).trans rfl; have hcz88_3 : w84.cell? ⟨gb239, 3, none⟩ = some (.int .i64 0) := (blk_cell BK239.out 3).trans rfl; have hfz88_0 := blk_frozen BK239.out 0; have hfz88_1 := blk_frozen BK239.out 1; have hfz88_2 := blk_frozen BK239.out 2; have hfz88_3 := blk_frozen BK239.out 3; have hnb89 := NB230_209.out; have hnc89 := NB209_230.out; have hnb90 := NB230_221.out; have hnc90 := NB221_230.out; have hcz91_0 : w84.cell? ⟨gb230, 0, none⟩ = some (.bool t225) := (blk_cell BK230.out 0).trans rfl; have hcz91_1 : w84.cell? ⟨gb230, 1, none⟩ = some (.int .i64 t226) := (blk_cell BK230.out 1).trans rfl; have hcz91_2 : w84.cell? ⟨gb230, 2, none⟩ = some (.int .i64 t227) := (blk_cell BK230.out 2).trans rfl; have hcz91_3 : w84.cell? ⟨gb230, 3, none⟩ = some (.int .i64 t228) := (blk_cell BK230.out 3).trans rfl; have hfz91_0 := blk_frozen BK230.out 0; have hfz91_1 := blk_frozen BK230.out 1; have hfz91_2 := blk_frozen BK230.out 2; have hfz91_3 := blk_frozen BK230.out 3))
             go_ret
             exact ⟨by first | rfl | (simp [errW_none, errW_some] <;> rfl) | (simp only [← hji68]; first | rfl | (simp [errW_none, errW_some] <;> rfl)) | (simp [*, errW_none, errW_some] <;> rfl), bel_⟩
           ·rw [if_neg c67] at H
            have c67b0 : (t235 == t226) = false := beq_eq_false_iff_ne.mpr c67
            have c67b1 : (t235 != t226) = true := bne_iff_ne.mpr c67
            obtain rfl := Option.some.inj H
            go_wp2_with (first | ((with_reducible refine gate_callee (f := 56) rfl ?_); refine goesL_ (some 91) rfl rfl Try.func56 (by kernel_rfl) rfl #[.int .i64 a1] rfl goa_ ?_; (with_reducible refine (parterrelaw18_num.calls a1 t231 t232 t233 _ A64.out).mono ?_); rintro e w92 ⟨rfl, hb⟩; refine ⟨_, rfl, ?_⟩; have n0_ := blb_ BK209 hb; have n1_ := blb_ BK221 hb; have n2_ := blb_ BK230 hb; have n3_ := Aside0.mk (below_step bel_ hb); clear BK209; clear BK221; clear BK230; clear HB; have BK209 := n0_; have BK221 := n1_; have BK230 := n2_; have HB := n3_; clear n0_ n1_ n2_ n3_; clear hb) | ((with_reducible refine gate_callee (f := 58) rfl ?_); refine goesL_ (some 94) rfl rfl Try.func58 (by kernel_rfl) rfl #[.slice A0 l0.length c0, .agg #[.int .i64 t231, .int .i64 t232, .string t233], .agg #[.int .i64 4, .int .i64 (wrap64 (1 + (wrap64 (Int.tmod (IntKind.u64.wrap (a2)) 50)))), .string (⟨#[]⟩ : ByteArray)]] rfl goa_ ?_; (with_reducible refine (resolve_Span.calls kj51 _ _ l0 t231 t232 t233 4 (wrap64 (1 + (wrap64 (Int.tmod (IntKind.u64.wrap (a2)) 50)))) (⟨#[]⟩ : ByteArray) t234 t235 t236 t237 t238 _ ?side1 ?side2 A65.out).mono ?_); (case side1 => repeat (first | exact (Kd.C_below HR0.out HB.out) | (with_reducible refine Kd.C_alloc ?_ _) | (with_reducible refine Kd.C_drewN ?_ _) | (with_reducible refine Kd.C_drew ?_))); (case side2 => exact HC0.out); rintro e w93 ⟨rfl, hb⟩; refine ⟨_, rfl, ?_⟩; have n0_ := blb_ BK209 hb; have n1_ := blb_ BK221 hb; have n2_ := blb_ BK230 hb; have n3_ := Aside0.mk (below_step bel_ hb); clear BK209; clear BK221; clear BK230; clear HB; have BK209 := n0_; have BK221 := n1_; have BK230 := n2_; have HB := n3_; clear n0_ n1_ n2_ n3_; clear hb) | ((with_reducible refine gate_dst (N := 14) rfl ?_); (try (refine gate_guard (by rfl) ?_; dsimp only)); refine box_event ?hg (N := 14) ?hd (cs := #[.bool false, .int .i64 0, .int .i64 0, .int .i64 0]) (t := 72) ?hr ?_; (case hd => rfl); (case hg => rfl); (case hr => first | (go_simp; done) | (go_simp; rfl)); intro gb239 hg w94 hbox hb; have n0_ := blb_ BK209 hb; have n1_ := blb_ BK221 hb; have n2_ := blb_ BK230 hb; have n3_ := Aside0.mk (below_step bel_ hb); have n4_ := Aside0.mk (hbox); have n5_ := Aside0.mk ((bsz_ hg : w.heap.size ≤ gb239)); have n6_ := Aside0.mk ((bsz_ hg : w.heap.size ≤ gb239)); have n7_ := Aside0.mk (bne_ BK209 hg : gb209 ≠ gb239); have n8_ := Aside0.mk (bng_ BK209 hg : gb239 ≠ gb209); have n9_ := Aside0.mk (bne_ BK221 hg : gb221 ≠ gb239); have n10_ := Aside0.mk (bng_ BK221 hg : gb239 ≠ gb221); have n11_ := Aside0.mk (bne_ BK230 hg : gb230 ≠ gb239); have n12_ := Aside0.mk (bng_ BK230 hg : gb239 ≠ gb230); clear BK209; clear BK221; clear BK230; clear HB; have BK209 := n0_; have BK221 := n1_; have BK230 := n2_; have HB := n3_; have BK239 := n4_; have GW239 := n5_; have GE239 := n6_; have NB209_239 := n7_; have NB239_209 := n8_; have NB221_239 := n9_; have NB239_221 := n10_; have NB230_239 := n11_; have NB239_230 := n12_; clear n0_ n1_ n2_ n3_ n4_ n5_ n6_ n7_ n8_ n9_ n10_ n11_ n12_; clear hb hbox hg; have hnb95 := NB239_209.out; have hnc95 := NB209_239.out; have hnb96 := NB239_221.out; have hnc96 := NB221_239.out; have hnb97 := NB239_230.out; have hnc97 := NB230_239.out; have hcz98_0 : w94.cell? ⟨gb239, 0, none⟩ = some (.bool false) := (blk_cell BK239.out 0).trans rfl; have hcz98_1 : w94.cell? ⟨gb239, 1, none⟩ = some (.int .i64 0) := (blk_cell BK239.out 1).trans rfl; have hcz98_2 : w94.cell? ⟨gb239, 2, none⟩ = some (.int .i64 0) := (blk_cell BK239.out 2).trans rfl; have hcz98_3 : w94.cell? ⟨gb239, 3, none⟩ = some (.int .i64 0) := (blk_cell BK239.out 3).trans rfl; have hfz98_0 := blk_frozen BK239.out 0; have hfz98_1 := blk_frozen BK239.out 1; have hfz98_2 := blk_frozen BK239.out 2; have hfz98_3 := blk_frozen BK239.out 3; have hnb99 := NB230_209.out; have hnc99 := NB209_230.out; have hnb100 := NB230_221.out; have hnc100 := NB221_230.out; have hcz101_0 : w94.cell? ⟨gb230, 0, none⟩ = some (.bool t225) := (blk_cell BK230.out 0).trans rfl; have hcz101_1 : w94.cell? ⟨gb230, 1, none⟩ = some (.int .i64 t226) := (blk_cell BK230.out 1).trans rfl; have hcz101_2 : w94.cell? ⟨gb230, 2, none⟩ = some (.int .i64 t227) := (blk_cell BK230.out 2).trans rfl; have hcz101_3 : w94.cell? ⟨gb230, 3, none⟩ = some (.int .i64 t228) := (blk_cell BK230.out 3).trans rfl; have hfz101_0 := blk_frozen BK230.out 0; have hfz101_1 := blk_frozen BK230.out 1; have hfz101_2 := blk_frozen BK230.out 2; have hfz101_3 := blk_frozen BK230.out 3))
            go_ret
            exact ⟨rsl_, bel_⟩
          ·rw [if_neg c66] at H
           have c66b0 : (t238 == 0) = false := beq_eq_false_iff_ne.mpr c66
           have c66b1 : (t238 != 0) = true := bne_iff_ne.mpr c66
           obtain rfl := Option.some.inj H
           go_wp2_with (first | ((with_reducible refine gate_callee (f := 56) rfl ?_); refine goesL_ (some 91) rfl rfl Try.func56 (by kernel_rfl) rfl #[.int .i64 a1] rfl goa_ ?_; (with_reducible refine (parterrelaw18_num.calls a1 t231 t232 t233 _ A64.out).mono ?_); rintro e w102 ⟨rfl, hb⟩; refine ⟨_, rfl, ?_⟩; have n0_ := blb_ BK209 hb; have n1_ := blb_ BK221 hb; have n2_ := blb_ BK230 hb; have n3_ := Aside0.mk (below_step bel_ hb); clear BK209; clear BK221; clear BK230; clear HB; have BK209 := n0_; have BK221 := n1_; have BK230 := n2_; have HB := n3_; clear n0_ n1_ n2_ n3_; clear hb) | ((with_reducible refine gate_callee (f := 58) rfl ?_); refine goesL_ (some 94) rfl rfl Try.func58 (by kernel_rfl) rfl #[.slice A0 l0.length c0, .agg #[.int .i64 t231, .int .i64 t232, .string t233], .agg #[.int .i64 4, .int .i64 (wrap64 (1 + (wrap64 (Int.tmod (IntKind.u64.wrap (a2)) 50)))), .string (⟨#[]⟩ : ByteArray)]] rfl goa_ ?_; (with_reducible refine (resolve_Span.calls kj51 _ _ l0 t231 t232 t233 4 (wrap64 (1 + (wrap64 (Int.tmod (IntKind.u64.wrap (a2)) 50)))) (⟨#[]⟩ : ByteArray) t234 t235 t236 t237 t238 _ ?side1 ?side2 A65.out).mono ?_); (case side1 => repeat (first | exact (Kd.C_below HR0.out HB.out) | (with_reducible refine Kd.C_alloc ?_ _) | (with_reducible refine Kd.C_drewN ?_ _) | (with_reducible refine Kd.C_drew ?_))); (case side2 => exact HC0.out); rintro e w103 ⟨rfl, hb⟩; refine ⟨_, rfl, ?_⟩; have n0_ := blb_ BK209 hb; have n1_ := blb_ BK221 hb; have n2_ := blb_ BK230 hb; have n3_ := Aside0.mk (below_step bel_ hb); clear BK209; clear BK221; clear BK230; clear HB; have BK209 := n0_; have BK221 := n1_; have BK230 := n2_; have HB := n3_; clear n0_ n1_ n2_ n3_; clear hb) | ((with_reducible refine gate_dst (N := 14) rfl ?_); (try (refine gate_guard (by rfl) ?_; dsimp only)); refine box_event ?hg (N := 14) ?hd (cs := #[.bool false, .int .i64 0, .int .i64 0, .int .i64 0]) (t := 72) ?hr ?_; (case hd => rfl); (case hg => rfl); (case hr => first | (go_simp; done) | (go_simp; rfl)); intro gb239 hg w104 hbox hb; have n0_ := blb_ BK209 hb; have n1_ := blb_ BK221 hb; have n2_ := blb_ BK230 hb; have n3_ := Aside0.mk (below_step bel_ hb); have n4_ := Aside0.mk (hbox); have n5_ := Aside0.mk ((bsz_ hg : w.heap.size ≤ gb239)); have n6_ := Aside0.mk ((bsz_ hg : w.heap.size ≤ gb239)); have n7_ := Aside0.mk (bne_ BK209 hg : gb209 ≠ gb239); have n8_ := Aside0.mk (bng_ BK209 hg : gb239 ≠ gb209); have n9_ := Aside0.mk (bne_ BK221 hg : gb221 ≠ gb239); have n10_ := Aside0.mk (bng_ BK221 hg : gb239 ≠ gb221); have n11_ := Aside0.mk (bne_ BK230 hg : gb230 ≠ gb239); have n12_ := Aside0.mk (bng_ BK230 hg : gb239 ≠ gb230); clear BK209; clear BK221; clear BK230; clear HB; have BK209 := n0_; have BK221 := n1_; have BK230 := n2_; have HB := n3_; have BK239 := n4_; have GW239 := n5_; have GE239 := n6_; have NB209_239 := n7_; have NB239_209 := n8_; have NB221_239 := n9_; have NB239_221 := n10_; have NB230_239 := n11_; have NB239_230 := n12_; clear n0_ n1_ n2_ n3_ n4_ n5_ n6_ n7_ n8_ n9_ n10_ n11_ n12_; clear hb hbox hg; have hnb105 := NB239_209.out; have hnc105 := NB209_239.out; have hnb106 := NB239_221.out; have hnc106 := NB221_239.out; have hnb107 := NB239_230.out; have hnc107 := NB230_239.out; have hcz108_0 : w104.cell? ⟨gb239, 0, none⟩ = some (.bool false) := (blk_cell BK239.out 0).trans rfl; have hcz108_1 : w104.cell? ⟨gb239, 1, none⟩ = some (.int .i64 0) := (blk_cell BK239.out 1).trans rfl; have hcz108_2 : w104.cell? ⟨gb239, 2, none⟩ = some (.int .i64 0) := (blk_cell BK239.out 2).trans rfl; have hcz108_3 : w104.cell? ⟨gb239, 3, none⟩ = some (.int .i64 0) := (blk_cell BK239.out 3).trans rfl; have hfz108_0 := blk_frozen BK239.out 0; have hfz108_1 := blk_frozen BK239.out 1; have hfz108_2 := blk_frozen BK239.out 2; have hfz108_3 := blk_frozen BK239.out 3))
           go_ret
           exact ⟨rsl_, bel_⟩

/-- THE ONE PURE STATEMENT of parterrelaw18_ResolveTurned. -/
def parterrelaw18_ResolveTurned.Pure : Prop := ∀ (l0 : List (List ByteArray)) (a1 : Int) (a2 : Int), gSl 24 (gSl 16 gStr) l0 → gInt .i64 a1 → gInt .i64 a2 → ∃ k, parterrelaw18_ResolveTurned.f k l0 a1 a2 = some true

end Go.Proofs.Ytdjfdhnmbimkoaa.PRs
