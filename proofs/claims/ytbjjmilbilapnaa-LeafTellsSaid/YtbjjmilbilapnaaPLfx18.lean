-- Written by a program of this session (wip/p2) out of the translation; Lean checks it.
import Derived.Test.YtbjjmilbilapnaaPLfx0
import Derived.Test.YtbjjmilbilapnaaPLfx1
import Derived.Test.YtbjjmilbilapnaaPLfx3
import Derived.Test.YtbjjmilbilapnaaPLfx6
import Derived.Test.YtbjjmilbilapnaaPLfx7
import Derived.Test.YtbjjmilbilapnaaPLfx8
import Derived.Test.YtbjjmilbilapnaaPLfx9
import Derived.Test.YtbjjmilbilapnaaPLfx14
import Derived.Test.YtbjjmilbilapnaaPLfx16
import Derived.Test.YtbjjmilbilapnaaPLfx17
namespace Go.Proofs.Ytbjjmilbilapnaa.PLf
open Go.RowKit Go.Proofs.YtbjjmilbilapnaaW.PrintWords Go.Proofs.YtbjjmilbilapnaaW.PrintLast Go.Proofs.YtbjjmilbilapnaaW.PrintMore
attribute [local go_sem] max2_int min2_int max_two min_two max_three min_three max_four min_four   -- for this text's walks alone
set_option linter.unusedVariables false
set_option linter.unusedSimpArgs false
open Go.Proofs.Ytbjjmilbilapnaa.Opn Go.Proofs.Ytbjjmilbilapnaa.Giv

attribute [local go_sem high] eqA53
/-! ### parterrelaw14_LeafTells: function 7 -/
mutual
def parterrelaw14_LeafTells.j0 : Nat → List (List (S59)) → Int → Bool → Option (Bool)
  | 0, _, _, _ => none
  | k + 1, x0, x1, x33 => if x33 = true then (some false) else ((leaf_Max.f k x0).bind fun bt202 => ((parterreref14_Max.f k x0).bind fun bt204 => (if bt202.1 = bt204.1 then (parterrelaw14_LeafTells.j1 k x0 x1 (bt202.2 != bt204.2)) else (parterrelaw14_LeafTells.j1 k x0 x1 true))))
def parterrelaw14_LeafTells.j1 : Nat → List (List (S59)) → Int → Bool → Option (Bool)
  | 0, _, _, _ => none
  | k + 1, x0, x1, x51 => if x51 = true then (some false) else ((leaf_Height.f k x0 x1).bind fun bt206 => ((parterreref14_Height.f k x0 x1).bind fun bt208 => (if bt206.1 = bt208.1 then (parterrelaw14_LeafTells.j2 k x0 x1 (bt206.2 != bt208.2)) else (parterrelaw14_LeafTells.j2 k x0 x1 true))))
def parterrelaw14_LeafTells.j2 : Nat → List (List (S59)) → Int → Bool → Option (Bool)
  | 0, _, _, _ => none
  | k + 1, x0, x1, x71 => if x71 = true then (some false) else ((leaf_Lines.f k x0 x1).bind fun bt210 => ((parterreref14_Lines.f k x0 x1).bind fun bt214 => (if (bt210.1.length : Int) = (bt214.1.length : Int) then (parterrelaw14_LeafTells.j3 k bt210.1 bt214.1 (bt210.2 != bt214.2)) else (parterrelaw14_LeafTells.j3 k bt210.1 bt214.1 true))))
def parterrelaw14_LeafTells.j3 : Nat → List (S54) → List (S53) → Bool → Option (Bool)
  | 0, _, _, _ => none
  | k + 1, x9, x10, x93 => if x93 = true then (some false) else (parterrelaw14_LeafTells.l0 k x9 x10 (x9.length : Int) 0)
def parterrelaw14_LeafTells.l0 : Nat → List (S54) → List (S53) → Int → Int → Option (Bool)
  | 0, _, _, _, _ => none
  | k + 1, x9, x10, x95, x96 => if x96 < x95 then (if 0 ≤ x96 then (if x96 < (x9.length : Int) then (if x96 < (x10.length : Int) then (if (!(((rd_T54 x9 x96).f0) == ((rd_T53 x10 x96).f0)) || (!(((rd_T54 x9 x96).f1) == ((rd_T53 x10 x96).f1)) || (!(((rd_T54 x9 x96).f2) == ((rd_T53 x10 x96).f2)) || (!(((rd_T54 x9 x96).f3) == ((rd_T53 x10 x96).f3)))))) = true then (some false) else (parterrelaw14_LeafTells.l0 k x9 x10 x95 (wrap64 (x96 + 1)))) else (none)) else (none)) else (none)) else ((parterrelaw14_lives.f k).bind fun t220 => (some t220))
end
def parterrelaw14_LeafTells.f (k : Nat) (l0 : List (List (S59))) (a1 : Int) : Option (Bool) := (parterrelaw09_Light.f k l0).bind fun t196 => (if t196 = true then ((leaf_Min.f k l0).bind fun bt198 => ((parterreref14_Min.f k l0).bind fun bt200 => (if bt198.1 = bt200.1 then (parterrelaw14_LeafTells.j0 k l0 a1 (bt198.2 != bt200.2)) else (parterrelaw14_LeafTells.j0 k l0 a1 true)))) else ((parterrelaw14_lives.f k).bind fun t197 => (some t197)))
theorem parterrelaw14_LeafTells.mono_l : ∀ k, (∀ y0 y1 y2, LeO (parterrelaw14_LeafTells.j0 k y0 y1 y2) (parterrelaw14_LeafTells.j0 (k + 1) y0 y1 y2)) ∧ (∀ y0 y1 y2, LeO (parterrelaw14_LeafTells.j1 k y0 y1 y2) (parterrelaw14_LeafTells.j1 (k + 1) y0 y1 y2)) ∧ (∀ y0 y1 y2, LeO (parterrelaw14_LeafTells.j2 k y0 y1 y2) (parterrelaw14_LeafTells.j2 (k + 1) y0 y1 y2)) ∧ (∀ y0 y1 y2, LeO (parterrelaw14_LeafTells.j3 k y0 y1 y2) (parterrelaw14_LeafTells.j3 (k + 1) y0 y1 y2)) ∧ (∀ y0 y1 y2 y3, LeO (parterrelaw14_LeafTells.l0 k y0 y1 y2 y3) (parterrelaw14_LeafTells.l0 (k + 1) y0 y1 y2 y3))
  | 0 => ⟨fun _ _ _ r h => by simp [parterrelaw14_LeafTells.j0] at h, fun _ _ _ r h => by simp [parterrelaw14_LeafTells.j1] at h, fun _ _ _ r h => by simp [parterrelaw14_LeafTells.j2] at h, fun _ _ _ r h => by simp [parterrelaw14_LeafTells.j3] at h, fun _ _ _ _ r h => by simp [parterrelaw14_LeafTells.l0] at h⟩
  | k + 1 => by
    obtain ⟨ih0, ih1, ih2, ih3, ih4⟩ := parterrelaw14_LeafTells.mono_l k
    refine ⟨?_, ?_, ?_, ?_, ?_⟩
    · intro y0 y1 y2
      unfold parterrelaw14_LeafTells.j0
      repeat' first
      | (with_reducible exact ih0 _ _ _)
      | (with_reducible exact ih1 _ _ _)
      | (with_reducible exact ih2 _ _ _)
      | (with_reducible exact ih3 _ _ _)
      | (with_reducible exact ih4 _ _ _ _)
      | (with_reducible exact leaf_Height.mono _ _ _)
      | (with_reducible exact leaf_Lines.mono _ _ _)
      | (with_reducible exact leaf_Max.mono _ _)
      | (with_reducible exact leaf_Min.mono _ _)
      | (with_reducible exact parterrelaw09_Light.mono _ _)
      | (with_reducible exact parterrelaw14_lives.mono _)
      | (with_reducible exact parterreref14_Height.mono _ _ _)
      | (with_reducible exact parterreref14_Lines.mono _ _ _)
      | (with_reducible exact parterreref14_Max.mono _ _)
      | (with_reducible exact parterreref14_Min.mono _ _)
      | (with_reducible exact LeO.refl _)
      | (with_reducible exact LeO.none _)
      | (with_reducible refine LeO.ite ?_ ?_)
      | (with_reducible refine LeO.bind ?_ (fun _ => ?_))
      | exact ih0 _ _ _
      | exact ih1 _ _ _
      | exact ih2 _ _ _
      | exact ih3 _ _ _
      | exact ih4 _ _ _ _
      | exact leaf_Height.mono _ _ _
      | exact leaf_Lines.mono _ _ _
      | exact leaf_Max.mono _ _
      | exact leaf_Min.mono _ _
      | exact parterrelaw09_Light.mono _ _
      | exact parterrelaw14_lives.mono _
      | exact parterreref14_Height.mono _ _ _
      | exact parterreref14_Lines.mono _ _ _
      | exact parterreref14_Max.mono _ _
      | exact parterreref14_Min.mono _ _
      | exact LeO.none _
      | refine LeO.ite ?_ ?_
      | refine LeO.bind ?_ (fun _ => ?_)
    · intro y0 y1 y2
      unfold parterrelaw14_LeafTells.j1
      repeat' first
      | (with_reducible exact ih0 _ _ _)
      | (with_reducible exact ih1 _ _ _)
      | (with_reducible exact ih2 _ _ _)
      | (with_reducible exact ih3 _ _ _)
      | (with_reducible exact ih4 _ _ _ _)
      | (with_reducible exact leaf_Height.mono _ _ _)
      | (with_reducible exact leaf_Lines.mono _ _ _)
      | (with_reducible exact leaf_Max.mono _ _)
      | (with_reducible exact leaf_Min.mono _ _)
      | (with_reducible exact parterrelaw09_Light.mono _ _)
      | (with_reducible exact parterrelaw14_lives.mono _)
      | (with_reducible exact parterreref14_Height.mono _ _ _)
      | (with_reducible exact parterreref14_Lines.mono _ _ _)
      | (with_reducible exact parterreref14_Max.mono _ _)
      | (with_reducible exact parterreref14_Min.mono _ _)
      | (with_reducible exact LeO.refl _)
      | (with_reducible exact LeO.none _)
      | (with_reducible refine LeO.ite ?_ ?_)
      | (with_reducible refine LeO.bind ?_ (fun _ => ?_))
      | exact ih0 _ _ _
      | exact ih1 _ _ _
      | exact ih2 _ _ _
      | exact ih3 _ _ _
      | exact ih4 _ _ _ _
      | exact leaf_Height.mono _ _ _
      | exact leaf_Lines.mono _ _ _
      | exact leaf_Max.mono _ _
      | exact leaf_Min.mono _ _
      | exact parterrelaw09_Light.mono _ _
      | exact parterrelaw14_lives.mono _
      | exact parterreref14_Height.mono _ _ _
      | exact parterreref14_Lines.mono _ _ _
      | exact parterreref14_Max.mono _ _
      | exact parterreref14_Min.mono _ _
      | exact LeO.none _
      | refine LeO.ite ?_ ?_
      | refine LeO.bind ?_ (fun _ => ?_)
    · intro y0 y1 y2
      unfold parterrelaw14_LeafTells.j2
      repeat' first
      | (with_reducible exact ih0 _ _ _)
      | (with_reducible exact ih1 _ _ _)
      | (with_reducible exact ih2 _ _ _)
      | (with_reducible exact ih3 _ _ _)
      | (with_reducible exact ih4 _ _ _ _)
      | (with_reducible exact leaf_Height.mono _ _ _)
      | (with_reducible exact leaf_Lines.mono _ _ _)
      | (with_reducible exact leaf_Max.mono _ _)
      | (with_reducible exact leaf_Min.mono _ _)
      | (with_reducible exact parterrelaw09_Light.mono _ _)
      | (with_reducible exact parterrelaw14_lives.mono _)
      | (with_reducible exact parterreref14_Height.mono _ _ _)
      | (with_reducible exact parterreref14_Lines.mono _ _ _)
      | (with_reducible exact parterreref14_Max.mono _ _)
      | (with_reducible exact parterreref14_Min.mono _ _)
      | (with_reducible exact LeO.refl _)
      | (with_reducible exact LeO.none _)
      | (with_reducible refine LeO.ite ?_ ?_)
      | (with_reducible refine LeO.bind ?_ (fun _ => ?_))
      | exact ih0 _ _ _
      | exact ih1 _ _ _
      | exact ih2 _ _ _
      | exact ih3 _ _ _
      | exact ih4 _ _ _ _
      | exact leaf_Height.mono _ _ _
      | exact leaf_Lines.mono _ _ _
      | exact leaf_Max.mono _ _
      | exact leaf_Min.mono _ _
      | exact parterrelaw09_Light.mono _ _
      | exact parterrelaw14_lives.mono _
      | exact parterreref14_Height.mono _ _ _
      | exact parterreref14_Lines.mono _ _ _
      | exact parterreref14_Max.mono _ _
      | exact parterreref14_Min.mono _ _
      | exact LeO.none _
      | refine LeO.ite ?_ ?_
      | refine LeO.bind ?_ (fun _ => ?_)
    · intro y0 y1 y2
      unfold parterrelaw14_LeafTells.j3
      repeat' first
      | (with_reducible exact ih0 _ _ _)
      | (with_reducible exact ih1 _ _ _)
      | (with_reducible exact ih2 _ _ _)
      | (with_reducible exact ih3 _ _ _)
      | (with_reducible exact ih4 _ _ _ _)
      | (with_reducible exact leaf_Height.mono _ _ _)
      | (with_reducible exact leaf_Lines.mono _ _ _)
      | (with_reducible exact leaf_Max.mono _ _)
      | (with_reducible exact leaf_Min.mono _ _)
      | (with_reducible exact parterrelaw09_Light.mono _ _)
      | (with_reducible exact parterrelaw14_lives.mono _)
      | (with_reducible exact parterreref14_Height.mono _ _ _)
      | (with_reducible exact parterreref14_Lines.mono _ _ _)
      | (with_reducible exact parterreref14_Max.mono _ _)
      | (with_reducible exact parterreref14_Min.mono _ _)
      | (with_reducible exact LeO.refl _)
      | (with_reducible exact LeO.none _)
      | (with_reducible refine LeO.ite ?_ ?_)
      | (with_reducible refine LeO.bind ?_ (fun _ => ?_))
      | exact ih0 _ _ _
      | exact ih1 _ _ _
      | exact ih2 _ _ _
      | exact ih3 _ _ _
      | exact ih4 _ _ _ _
      | exact leaf_Height.mono _ _ _
      | exact leaf_Lines.mono _ _ _
      | exact leaf_Max.mono _ _
      | exact leaf_Min.mono _ _
      | exact parterrelaw09_Light.mono _ _
      | exact parterrelaw14_lives.mono _
      | exact parterreref14_Height.mono _ _ _
      | exact parterreref14_Lines.mono _ _ _
      | exact parterreref14_Max.mono _ _
      | exact parterreref14_Min.mono _ _
      | exact LeO.none _
      | refine LeO.ite ?_ ?_
      | refine LeO.bind ?_ (fun _ => ?_)
    · intro y0 y1 y2 y3
      unfold parterrelaw14_LeafTells.l0
      repeat' first
      | (with_reducible exact ih0 _ _ _)
      | (with_reducible exact ih1 _ _ _)
      | (with_reducible exact ih2 _ _ _)
      | (with_reducible exact ih3 _ _ _)
      | (with_reducible exact ih4 _ _ _ _)
      | (with_reducible exact leaf_Height.mono _ _ _)
      | (with_reducible exact leaf_Lines.mono _ _ _)
      | (with_reducible exact leaf_Max.mono _ _)
      | (with_reducible exact leaf_Min.mono _ _)
      | (with_reducible exact parterrelaw09_Light.mono _ _)
      | (with_reducible exact parterrelaw14_lives.mono _)
      | (with_reducible exact parterreref14_Height.mono _ _ _)
      | (with_reducible exact parterreref14_Lines.mono _ _ _)
      | (with_reducible exact parterreref14_Max.mono _ _)
      | (with_reducible exact parterreref14_Min.mono _ _)
      | (with_reducible exact LeO.refl _)
      | (with_reducible exact LeO.none _)
      | (with_reducible refine LeO.ite ?_ ?_)
      | (with_reducible refine LeO.bind ?_ (fun _ => ?_))
      | exact ih0 _ _ _
      | exact ih1 _ _ _
      | exact ih2 _ _ _
      | exact ih3 _ _ _
      | exact ih4 _ _ _ _
      | exact leaf_Height.mono _ _ _
      | exact leaf_Lines.mono _ _ _
      | exact leaf_Max.mono _ _
      | exact leaf_Min.mono _ _
      | exact parterrelaw09_Light.mono _ _
      | exact parterrelaw14_lives.mono _
      | exact parterreref14_Height.mono _ _ _
      | exact parterreref14_Lines.mono _ _ _
      | exact parterreref14_Max.mono _ _
      | exact parterreref14_Min.mono _ _
      | exact LeO.none _
      | refine LeO.ite ?_ ?_
      | refine LeO.bind ?_ (fun _ => ?_)
theorem parterrelaw14_LeafTells.mono : ∀ a0 a1 k, LeO (parterrelaw14_LeafTells.f k a0 a1) (parterrelaw14_LeafTells.f (k + 1) a0 a1) := by
  intro a0 a1 k
  obtain ⟨ih0, ih1, ih2, ih3, ih4⟩ := parterrelaw14_LeafTells.mono_l k
  unfold parterrelaw14_LeafTells.f
  repeat' first
      | (with_reducible exact ih0 _ _ _)
      | (with_reducible exact ih1 _ _ _)
      | (with_reducible exact ih2 _ _ _)
      | (with_reducible exact ih3 _ _ _)
      | (with_reducible exact ih4 _ _ _ _)
      | (with_reducible exact leaf_Height.mono _ _ _)
      | (with_reducible exact leaf_Lines.mono _ _ _)
      | (with_reducible exact leaf_Max.mono _ _)
      | (with_reducible exact leaf_Min.mono _ _)
      | (with_reducible exact parterrelaw09_Light.mono _ _)
      | (with_reducible exact parterrelaw14_lives.mono _)
      | (with_reducible exact parterreref14_Height.mono _ _ _)
      | (with_reducible exact parterreref14_Lines.mono _ _ _)
      | (with_reducible exact parterreref14_Max.mono _ _)
      | (with_reducible exact parterreref14_Min.mono _ _)
      | (with_reducible exact LeO.refl _)
      | (with_reducible exact LeO.none _)
      | (with_reducible refine LeO.ite ?_ ?_)
      | (with_reducible refine LeO.bind ?_ (fun _ => ?_))
      | exact ih0 _ _ _
      | exact ih1 _ _ _
      | exact ih2 _ _ _
      | exact ih3 _ _ _
      | exact ih4 _ _ _ _
      | exact leaf_Height.mono _ _ _
      | exact leaf_Lines.mono _ _ _
      | exact leaf_Max.mono _ _
      | exact leaf_Min.mono _ _
      | exact parterrelaw09_Light.mono _ _
      | exact parterrelaw14_lives.mono _
      | exact parterreref14_Height.mono _ _ _
      | exact parterreref14_Lines.mono _ _ _
      | exact parterreref14_Max.mono _ _
      | exact parterreref14_Min.mono _ _
      | exact LeO.none _
      | refine LeO.ite ?_ ?_
      | refine LeO.bind ?_ (fun _ => ?_)
set_option maxHeartbeats 8000000 in
set_option maxRecDepth 100000 in
theorem parterrelaw14_LeafTells.calls (k : Nat) (A0 : Option Addr) (c0 : Nat) (l0 : List (List (S59))) (a1 : Int) (r : Bool) (w : World) (hr0 : Kd.C (Kd.slice 59 k59) w A0 l0.length l0) (hc0 : l0.length ≤ c0) (h : parterrelaw14_LeafTells.f k l0 a1 = some r) :
    Calls Try.prog 7 #[.slice A0 l0.length c0, .int .i64 a1] w fun e w' => e = .returned (.bool r) ∧ Below w.heap.size w w' := by
  have hu54 := Try.underlying54
  have hu53 := Try.underlying53
  have HR0 := Aside0.mk hr0
  have HC0 := Aside0.mk hc0
  clear hr0 hc0
  have HB := Aside0.mk (Below.refl w.heap.size w)
  have H : ((parterrelaw09_Light.f k l0).bind fun t196 => (if t196 = true then ((leaf_Min.f k l0).bind fun bt198 => ((parterreref14_Min.f k l0).bind fun bt200 => (if bt198.1 = bt200.1 then (parterrelaw14_LeafTells.j0 k l0 a1 (bt198.2 != bt200.2)) else (parterrelaw14_LeafTells.j0 k l0 a1 true)))) else ((parterrelaw14_lives.f k).bind fun t197 => (some t197)))) = some r := h
  clear h
  replace H := Option.bind_eq_some_iff.mp H
  obtain ⟨t196, A30, H⟩ := H
  replace H : (if t196 = true then ((leaf_Min.f k l0).bind fun bt198 => ((parterreref14_Min.f k l0).bind fun bt200 => (if bt198.1 = bt200.1 then (parterrelaw14_LeafTells.j0 k l0 a1 (bt198.2 != bt200.2)) else (parterrelaw14_LeafTells.j0 k l0 a1 true)))) else ((parterrelaw14_lives.f k).bind fun t197 => (some t197))) = some r := H
  have A3 := Aside0.mk A30
  clear A30
  by_cases c4 : t196 = true
  · subst c4
    have H1 : ((leaf_Min.f k l0).bind fun bt198 => ((parterreref14_Min.f k l0).bind fun bt200 => (if bt198.1 = bt200.1 then (parterrelaw14_LeafTells.j0 k l0 a1 (bt198.2 != bt200.2)) else (parterrelaw14_LeafTells.j0 k l0 a1 true)))) = some r := by rw [if_pos rfl] at H; exact H
    clear H
    have H := H1
    clear H1
    replace H := Option.bind_eq_some_iff.mp H
    obtain ⟨⟨t198, t199⟩, A50, H⟩ := H
    replace H : ((parterreref14_Min.f k l0).bind fun bt200 => (if t198 = bt200.1 then (parterrelaw14_LeafTells.j0 k l0 a1 (t199 != bt200.2)) else (parterrelaw14_LeafTells.j0 k l0 a1 true))) = some r := H
    have A5 := Aside0.mk A50
    clear A50
    replace H := Option.bind_eq_some_iff.mp H
    obtain ⟨⟨t200, t201⟩, A60, H⟩ := H
    replace H : (if t198 = t200 then (parterrelaw14_LeafTells.j0 k l0 a1 (t199 != t201)) else (parterrelaw14_LeafTells.j0 k l0 a1 true)) = some r := H
    have A6 := Aside0.mk A60
    clear A60
    have HC7 := Aside0.mk H
    clear H
    go_enter Try.func7, Try.ntmps7
    go_upto_region 5 with (first | (go_at_call 30; (with_reducible refine (parterrelaw09_Light.calls k _ _ l0 true _ ?side1 ?side2 A3.out).mono ?_); (case side1 => repeat (first | exact HR0.out | (with_reducible refine Kd.C_alloc ?_ _) | (with_reducible refine Kd.C_drewN ?_ _) | (with_reducible refine Kd.C_drew ?_))); (case side2 => exact HC0.out); rintro e w8 ⟨rfl, hb⟩; have n0_ := Aside0.mk (below_step (by repeat (first | (with_reducible first | exact HB.out | apply below_alloc | apply pw_below_drewN | apply below_drew1) | exact HB.out)) hb); clear HB; have HB := n0_; clear n0_; (try clear hb); (try clear hb2); (try clear hk); (try clear hi)) | (go_at_call 32; (with_reducible refine (leaf_Min.calls k _ _ l0 t198 t199 _ ?side1 ?side2 A5.out).mono ?_); (case side1 => repeat (first | exact (Kd.C_below HR0.out HB.out) | (with_reducible refine Kd.C_alloc ?_ _) | (with_reducible refine Kd.C_drewN ?_ _) | (with_reducible refine Kd.C_drew ?_))); (case side2 => exact HC0.out); rintro e w9 ⟨rfl, hb⟩; have n0_ := Aside0.mk (below_step (by repeat (first | (with_reducible first | exact HB.out | apply below_alloc | apply pw_below_drewN | apply below_drew1) | exact HB.out)) hb); clear HB; have HB := n0_; clear n0_; (try clear hb); (try clear hb2); (try clear hk); (try clear hi)) | (go_at_call 33; (with_reducible refine (parterreref14_Min.calls k _ _ l0 t200 t201 _ ?side1 ?side2 A6.out).mono ?_); (case side1 => repeat (first | exact (Kd.C_below HR0.out HB.out) | (with_reducible refine Kd.C_alloc ?_ _) | (with_reducible refine Kd.C_drewN ?_ _) | (with_reducible refine Kd.C_drew ?_))); (case side2 => exact HC0.out); rintro e w10 ⟨rfl, hb⟩; have n0_ := Aside0.mk (below_step (by repeat (first | (with_reducible first | exact HB.out | apply below_alloc | apply pw_below_drewN | apply below_drew1) | exact HB.out)) hb); clear HB; have HB := n0_; clear n0_; (try clear hb); (try clear hb2); (try clear hk); (try clear hi)))
    repeat (go_quiet (first | (go_at_call 30; (with_reducible refine (parterrelaw09_Light.calls k _ _ l0 true _ ?side1 ?side2 A3.out).mono ?_); (case side1 => repeat (first | exact HR0.out | (with_reducible refine Kd.C_alloc ?_ _) | (with_reducible refine Kd.C_drewN ?_ _) | (with_reducible refine Kd.C_drew ?_))); (case side2 => exact HC0.out); rintro e w8 ⟨rfl, hb⟩; have n0_ := Aside0.mk (below_step (by repeat (first | (with_reducible first | exact HB.out | apply below_alloc | apply pw_below_drewN | apply below_drew1) | exact HB.out)) hb); clear HB; have HB := n0_; clear n0_; (try clear hb); (try clear hb2); (try clear hk); (try clear hi)) | (go_at_call 32; (with_reducible refine (leaf_Min.calls k _ _ l0 t198 t199 _ ?side1 ?side2 A5.out).mono ?_); (case side1 => repeat (first | exact (Kd.C_below HR0.out HB.out) | (with_reducible refine Kd.C_alloc ?_ _) | (with_reducible refine Kd.C_drewN ?_ _) | (with_reducible refine Kd.C_drew ?_))); (case side2 => exact HC0.out); rintro e w9 ⟨rfl, hb⟩; have n0_ := Aside0.mk (below_step (by repeat (first | (with_reducible first | exact HB.out | apply below_alloc | apply pw_below_drewN | apply below_drew1) | exact HB.out)) hb); clear HB; have HB := n0_; clear n0_; (try clear hb); (try clear hb2); (try clear hk); (try clear hi)) | (go_at_call 33; (with_reducible refine (parterreref14_Min.calls k _ _ l0 t200 t201 _ ?side1 ?side2 A6.out).mono ?_); (case side1 => repeat (first | exact (Kd.C_below HR0.out HB.out) | (with_reducible refine Kd.C_alloc ?_ _) | (with_reducible refine Kd.C_drewN ?_ _) | (with_reducible refine Kd.C_drew ?_))); (case side2 => exact HC0.out); rintro e w10 ⟨rfl, hb⟩; have n0_ := Aside0.mk (below_step (by repeat (first | (with_reducible first | exact HB.out | apply below_alloc | apply pw_below_drewN | apply below_drew1) | exact HB.out)) hb); clear HB; have HB := n0_; clear n0_; (try clear hb); (try clear hb2); (try clear hk); (try clear hi))); go_upto_region 5 with (first | (go_at_call 30; (with_reducible refine (parterrelaw09_Light.calls k _ _ l0 true _ ?side1 ?side2 A3.out).mono ?_); (case side1 => repeat (first | exact HR0.out | (with_reducible refine Kd.C_alloc ?_ _) | (with_reducible refine Kd.C_drewN ?_ _) | (with_reducible refine Kd.C_drew ?_))); (case side2 => exact HC0.out); rintro e w8 ⟨rfl, hb⟩; have n0_ := Aside0.mk (below_step (by repeat (first | (with_reducible first | exact HB.out | apply below_alloc | apply pw_below_drewN | apply below_drew1) | exact HB.out)) hb); clear HB; have HB := n0_; clear n0_; (try clear hb); (try clear hb2); (try clear hk); (try clear hi)) | (go_at_call 32; (with_reducible refine (leaf_Min.calls k _ _ l0 t198 t199 _ ?side1 ?side2 A5.out).mono ?_); (case side1 => repeat (first | exact (Kd.C_below HR0.out HB.out) | (with_reducible refine Kd.C_alloc ?_ _) | (with_reducible refine Kd.C_drewN ?_ _) | (with_reducible refine Kd.C_drew ?_))); (case side2 => exact HC0.out); rintro e w9 ⟨rfl, hb⟩; have n0_ := Aside0.mk (below_step (by repeat (first | (with_reducible first | exact HB.out | apply below_alloc | apply pw_below_drewN | apply below_drew1) | exact HB.out)) hb); clear HB; have HB := n0_; clear n0_; (try clear hb); (try clear hb2); (try clear hk); (try clear hi)) | (go_at_call 33; (with_reducible refine (parterreref14_Min.calls k _ _ l0 t200 t201 _ ?side1 ?side2 A6.out).mono ?_); (case side1 => repeat (first | exact (Kd.C_below HR0.out HB.out) | (with_reducible refine Kd.C_alloc ?_ _) | (with_reducible refine Kd.C_drewN ?_ _) | (with_reducible refine Kd.C_drew ?_))); (case side2 => exact HC0.out); rintro e w10 ⟨rfl, hb⟩; have n0_ := Aside0.mk (below_step (by repeat (first | (with_reducible first | exact HB.out | apply below_alloc | apply pw_below_drewN | apply below_drew1) | exact HB.out)) hb); clear HB; have HB := n0_; clear n0_; (try clear hb); (try clear hb2); (try clear hk); (try clear hi))))
    (try simp only [Act.put, List.setIfInBounds_toArray, List.set_cons_zero, List.set_cons_succ])
    go_cut [33] (fun v33 wc => ∃ (kq : Nat) (x33_6 : Bool), v33 = .bool x33_6 ∧ Aside0 (parterrelaw14_LeafTells.j0 kq l0 a1 x33_6 = some r) ∧ Aside0 (kq ≤ k) ∧ Aside0 (Below w.heap.size w wc))
    case first =>
      have H := HC7.out
      clear HC7
      by_cases c11 : t198 = t200
      · rw [if_pos c11] at H
        have c11b0 : (t198 == t200) = true := beq_iff_eq.mpr c11
        have c11b1 : (t198 != t200) = false := bne_eq_false_iff_eq.mpr c11
        clear c11
        (first | rw [c11b0] | (simp only [i64_w, i32_w]; rw [c11b0]) | skip)
        have H' := Aside0.mk H
        clear H
        go_wp2
        repeat (go_quiet (fail); try go_wp2)
        go_meet
        case rel => exact ⟨_, ((t199 != t201)), (by first | rfl | (simp; done) | (simp [*]; done)), H', ⟨by first | omega | exact Nat.le_refl _⟩, ⟨by repeat (first | (with_reducible first | exact HB.out | apply below_alloc | apply pw_below_drewN | apply below_drew1) | exact HB.out)⟩⟩
      · rw [if_neg c11] at H
        have c11b0 : (t198 == t200) = false := beq_eq_false_iff_ne.mpr c11
        have c11b1 : (t198 != t200) = true := bne_iff_ne.mpr c11
        (first | rw [c11b0] | (simp only [i64_w, i32_w]; rw [c11b0]) | skip)
        have H' := Aside0.mk H
        clear H
        go_wp2
        repeat (go_quiet (fail); try go_wp2)
        go_meet
        case rel => exact ⟨_, (true), (by first | rfl | (simp; done) | (simp [*]; done)), H', ⟨by first | omega | exact Nat.le_refl _⟩, ⟨by repeat (first | (with_reducible first | exact HB.out | apply below_alloc | apply pw_below_drewN | apply below_drew1) | exact HB.out)⟩⟩
    case rest =>
      clear HC7
      try clear c1
      try clear p2
      try clear c4
      try clear c7
      try clear c11
      try clear c11b0
      try clear c11b1
      obtain ⟨kq, x33_6, rfl, HA, HJ6, HB⟩ := hcut
      cases kq with
      | zero => exact absurd HA.out (by simp [parterrelaw14_LeafTells.j0])
      | succ kj6 =>
        have H := HA.out
        clear HA
        simp only [parterrelaw14_LeafTells.j0] at H
        by_cases c12 : x33_6 = true
        · subst c12
          have H1 : (some false) = some r := by rw [if_pos rfl] at H; exact H
          clear H
          have H := H1
          clear H1
          obtain rfl := Option.some.inj H
          go_wp2
          repeat (go_quiet (fail); try go_wp2)
          go_ret
          exact ⟨by first | rfl | (simp [errW_none, errW_some] <;> rfl) | (simp [*, errW_none, errW_some] <;> rfl), by repeat (first | (with_reducible first | exact HB.out | apply below_alloc | apply pw_below_drewN | apply below_drew1) | exact HB.out)⟩
        · replace c12 := Bool.eq_false_iff.mpr c12
          subst c12
          have H1 : ((leaf_Max.f kj6 l0).bind fun bt202 => ((parterreref14_Max.f kj6 l0).bind fun bt204 => (if bt202.1 = bt204.1 then (parterrelaw14_LeafTells.j1 kj6 l0 a1 (bt202.2 != bt204.2)) else (parterrelaw14_LeafTells.j1 kj6 l0 a1 true)))) = some r := by rw [if_neg (show ¬ (false = true) by decide)] at H; exact H
          clear H
          have H := H1
          clear H1
          replace H := Option.bind_eq_some_iff.mp H
          obtain ⟨⟨t202, t203⟩, A130, H⟩ := H
          replace H : ((parterreref14_Max.f kj6 l0).bind fun bt204 => (if t202 = bt204.1 then (parterrelaw14_LeafTells.j1 kj6 l0 a1 (t203 != bt204.2)) else (parterrelaw14_LeafTells.j1 kj6 l0 a1 true))) = some r := H
          have A13 := Aside0.mk A130
          clear A130
          replace H := Option.bind_eq_some_iff.mp H
          obtain ⟨⟨t204, t205⟩, A140, H⟩ := H
          replace H : (if t202 = t204 then (parterrelaw14_LeafTells.j1 kj6 l0 a1 (t203 != t205)) else (parterrelaw14_LeafTells.j1 kj6 l0 a1 true)) = some r := H
          have A14 := Aside0.mk A140
          clear A140
          have HC15 := Aside0.mk H
          clear H
          go_upto_region 9 with (first | (go_at_call 34; (with_reducible refine (leaf_Max.calls kj6 _ _ l0 t202 t203 _ ?side1 ?side2 A13.out).mono ?_); (case side1 => repeat (first | exact (Kd.C_below HR0.out HB.out) | (with_reducible refine Kd.C_alloc ?_ _) | (with_reducible refine Kd.C_drewN ?_ _) | (with_reducible refine Kd.C_drew ?_))); (case side2 => exact HC0.out); rintro e w16 ⟨rfl, hb⟩; have n0_ := Aside0.mk (below_step (by repeat (first | (with_reducible first | exact HB.out | apply below_alloc | apply pw_below_drewN | apply below_drew1) | exact HB.out)) hb); clear HB; have HB := n0_; clear n0_; (try clear hb); (try clear hb2); (try clear hk); (try clear hi)) | (go_at_call 35; (with_reducible refine (parterreref14_Max.calls kj6 _ _ l0 t204 t205 _ ?side1 ?side2 A14.out).mono ?_); (case side1 => repeat (first | exact (Kd.C_below HR0.out HB.out) | (with_reducible refine Kd.C_alloc ?_ _) | (with_reducible refine Kd.C_drewN ?_ _) | (with_reducible refine Kd.C_drew ?_))); (case side2 => exact HC0.out); rintro e w17 ⟨rfl, hb⟩; have n0_ := Aside0.mk (below_step (by repeat (first | (with_reducible first | exact HB.out | apply below_alloc | apply pw_below_drewN | apply below_drew1) | exact HB.out)) hb); clear HB; have HB := n0_; clear n0_; (try clear hb); (try clear hb2); (try clear hk); (try clear hi)))
          repeat (go_quiet (first | (go_at_call 34; (with_reducible refine (leaf_Max.calls kj6 _ _ l0 t202 t203 _ ?side1 ?side2 A13.out).mono ?_); (case side1 => repeat (first | exact (Kd.C_below HR0.out HB.out) | (with_reducible refine Kd.C_alloc ?_ _) | (with_reducible refine Kd.C_drewN ?_ _) | (with_reducible refine Kd.C_drew ?_))); (case side2 => exact HC0.out); rintro e w16 ⟨rfl, hb⟩; have n0_ := Aside0.mk (below_step (by repeat (first | (with_reducible first | exact HB.out | apply below_alloc | apply pw_below_drewN | apply below_drew1) | exact HB.out)) hb); clear HB; have HB := n0_; clear n0_; (try clear hb); (try clear hb2); (try clear hk); (try clear hi)) | (go_at_call 35; (with_reducible refine (parterreref14_Max.calls kj6 _ _ l0 t204 t205 _ ?side1 ?side2 A14.out).mono ?_); (case side1 => repeat (first | exact (Kd.C_below HR0.out HB.out) | (with_reducible refine Kd.C_alloc ?_ _) | (with_reducible refine Kd.C_drewN ?_ _) | (with_reducible refine Kd.C_drew ?_))); (case side2 => exact HC0.out); rintro e w17 ⟨rfl, hb⟩; have n0_ := Aside0.mk (below_step (by repeat (first | (with_reducible first | exact HB.out | apply below_alloc | apply pw_below_drewN | apply below_drew1) | exact HB.out)) hb); clear HB; have HB := n0_; clear n0_; (try clear hb); (try clear hb2); (try clear hk); (try clear hi))); go_upto_region 9 with (first | (go_at_call 34; (with_reducible refine (leaf_Max.calls kj6 _ _ l0 t202 t203 _ ?side1 ?side2 A13.out).mono ?_); (case side1 => repeat (first | exact (Kd.C_below HR0.out HB.out) | (with_reducible refine Kd.C_alloc ?_ _) | (with_reducible refine Kd.C_drewN ?_ _) | (with_reducible refine Kd.C_drew ?_))); (case side2 => exact HC0.out); rintro e w16 ⟨rfl, hb⟩; have n0_ := Aside0.mk (below_step (by repeat (first | (with_reducible first | exact HB.out | apply below_alloc | apply pw_below_drewN | apply below_drew1) | exact HB.out)) hb); clear HB; have HB := n0_; clear n0_; (try clear hb); (try clear hb2); (try clear hk); (try clear hi)) | (go_at_call 35; (with_reducible refine (parterreref14_Max.calls kj6 _ _ l0 t204 t205 _ ?side1 ?side2 A14.out).mono ?_); (case side1 => repeat (first | exact (Kd.C_below HR0.out HB.out) | (with_reducible refine Kd.C_alloc ?_ _) | (with_reducible refine Kd.C_drewN ?_ _) | (with_reducible refine Kd.C_drew ?_))); (case side2 => exact HC0.out); rintro e w17 ⟨rfl, hb⟩; have n0_ := Aside0.mk (below_step (by repeat (first | (with_reducible first | exact HB.out | apply below_alloc | apply pw_below_drewN | apply below_drew1) | exact HB.out)) hb); clear HB; have HB := n0_; clear n0_; (try clear hb); (try clear hb2); (try clear hk); (try clear hi))))
          (try simp only [Act.put, List.setIfInBounds_toArray, List.set_cons_zero, List.set_cons_succ])
          go_cut [51] (fun v51 wc => ∃ (kq : Nat) (x51_14 : Bool), v51 = .bool x51_14 ∧ Aside0 (parterrelaw14_LeafTells.j1 kq l0 a1 x51_14 = some r) ∧ Aside0 (kq ≤ kj6) ∧ Aside0 (Below w.heap.size w wc))
          case first =>
            have H := HC15.out
            clear HC15
            by_cases c18 : t202 = t204
            · rw [if_pos c18] at H
              have c18b0 : (t202 == t204) = true := beq_iff_eq.mpr c18
              have c18b1 : (t202 != t204) = false := bne_eq_false_iff_eq.mpr c18
              clear c18
              (first | rw [c18b0] | (simp only [i64_w, i32_w]; rw [c18b0]) | skip)
              have H' := Aside0.mk H
              clear H
              go_wp2
              repeat (go_quiet (fail); try go_wp2)
              go_meet
              case rel => exact ⟨_, ((t203 != t205)), (by first | rfl | (simp; done) | (simp [*]; done)), H', ⟨by have := HJ6.out; first | omega | exact Nat.le_refl _⟩, ⟨by repeat (first | (with_reducible first | exact HB.out | apply below_alloc | apply pw_below_drewN | apply below_drew1) | exact HB.out)⟩⟩
            · rw [if_neg c18] at H
              have c18b0 : (t202 == t204) = false := beq_eq_false_iff_ne.mpr c18
              have c18b1 : (t202 != t204) = true := bne_iff_ne.mpr c18
              (first | rw [c18b0] | (simp only [i64_w, i32_w]; rw [c18b0]) | skip)
              have H' := Aside0.mk H
              clear H
              go_wp2
              repeat (go_quiet (fail); try go_wp2)
              go_meet
              case rel => exact ⟨_, (true), (by first | rfl | (simp; done) | (simp [*]; done)), H', ⟨by have := HJ6.out; first | omega | exact Nat.le_refl _⟩, ⟨by repeat (first | (with_reducible first | exact HB.out | apply below_alloc | apply pw_below_drewN | apply below_drew1) | exact HB.out)⟩⟩
          case rest =>
            clear HC15
            try clear c1
            try clear p2
            try clear c4
            try clear c7
            try clear c11
            try clear c11b0
            try clear c11b1
            try clear c12
            try clear c18
            try clear c18b0
            try clear c18b1
            try clear p2
            obtain ⟨kq, x51_14, rfl, HA, HJ14, HB⟩ := hcut
            cases kq with
            | zero => exact absurd HA.out (by simp [parterrelaw14_LeafTells.j1])
            | succ kj14 =>
              have H := HA.out
              clear HA
              simp only [parterrelaw14_LeafTells.j1] at H
              by_cases c19 : x51_14 = true
              · subst c19
                have H1 : (some false) = some r := by rw [if_pos rfl] at H; exact H
                clear H
                have H := H1
                clear H1
                obtain rfl := Option.some.inj H
                go_wp2
                repeat (go_quiet (fail); try go_wp2)
                go_ret
                exact ⟨by first | rfl | (simp [errW_none, errW_some] <;> rfl) | (simp [*, errW_none, errW_some] <;> rfl), by repeat (first | (with_reducible first | exact HB.out | apply below_alloc | apply pw_below_drewN | apply below_drew1) | exact HB.out)⟩
              · replace c19 := Bool.eq_false_iff.mpr c19
                subst c19
                have H1 : ((leaf_Height.f kj14 l0 a1).bind fun bt206 => ((parterreref14_Height.f kj14 l0 a1).bind fun bt208 => (if bt206.1 = bt208.1 then (parterrelaw14_LeafTells.j2 kj14 l0 a1 (bt206.2 != bt208.2)) else (parterrelaw14_LeafTells.j2 kj14 l0 a1 true)))) = some r := by rw [if_neg (show ¬ (false = true) by decide)] at H; exact H
                clear H
                have H := H1
                clear H1
                replace H := Option.bind_eq_some_iff.mp H
                obtain ⟨⟨t206, t207⟩, A200, H⟩ := H
                replace H : ((parterreref14_Height.f kj14 l0 a1).bind fun bt208 => (if t206 = bt208.1 then (parterrelaw14_LeafTells.j2 kj14 l0 a1 (t207 != bt208.2)) else (parterrelaw14_LeafTells.j2 kj14 l0 a1 true))) = some r := H
                have A20 := Aside0.mk A200
                clear A200
                replace H := Option.bind_eq_some_iff.mp H
                obtain ⟨⟨t208, t209⟩, A210, H⟩ := H
                replace H : (if t206 = t208 then (parterrelaw14_LeafTells.j2 kj14 l0 a1 (t207 != t209)) else (parterrelaw14_LeafTells.j2 kj14 l0 a1 true)) = some r := H
                have A21 := Aside0.mk A210
                clear A210
                have HC22 := Aside0.mk H
                clear H
                go_upto_region 13 with (first | (go_at_call 36; (with_reducible refine (leaf_Height.calls kj14 _ _ l0 a1 t206 t207 _ ?side1 ?side2 A20.out).mono ?_); (case side1 => repeat (first | exact (Kd.C_below HR0.out HB.out) | (with_reducible refine Kd.C_alloc ?_ _) | (with_reducible refine Kd.C_drewN ?_ _) | (with_reducible refine Kd.C_drew ?_))); (case side2 => exact HC0.out); rintro e w23 ⟨rfl, hb⟩; have n0_ := Aside0.mk (below_step (by repeat (first | (with_reducible first | exact HB.out | apply below_alloc | apply pw_below_drewN | apply below_drew1) | exact HB.out)) hb); clear HB; have HB := n0_; clear n0_; (try clear hb); (try clear hb2); (try clear hk); (try clear hi)) | (go_at_call 37; (with_reducible refine (parterreref14_Height.calls kj14 _ _ l0 a1 t208 t209 _ ?side1 ?side2 A21.out).mono ?_); (case side1 => repeat (first | exact (Kd.C_below HR0.out HB.out) | (with_reducible refine Kd.C_alloc ?_ _) | (with_reducible refine Kd.C_drewN ?_ _) | (with_reducible refine Kd.C_drew ?_))); (case side2 => exact HC0.out); rintro e w24 ⟨rfl, hb⟩; have n0_ := Aside0.mk (below_step (by repeat (first | (with_reducible first | exact HB.out | apply below_alloc | apply pw_below_drewN | apply below_drew1) | exact HB.out)) hb); clear HB; have HB := n0_; clear n0_; (try clear hb); (try clear hb2); (try clear hk); (try clear hi)))
                repeat (go_quiet (first | (go_at_call 36; (with_reducible refine (leaf_Height.calls kj14 _ _ l0 a1 t206 t207 _ ?side1 ?side2 A20.out).mono ?_); (case side1 => repeat (first | exact (Kd.C_below HR0.out HB.out) | (with_reducible refine Kd.C_alloc ?_ _) | (with_reducible refine Kd.C_drewN ?_ _) | (with_reducible refine Kd.C_drew ?_))); (case side2 => exact HC0.out); rintro e w23 ⟨rfl, hb⟩; have n0_ := Aside0.mk (below_step (by repeat (first | (with_reducible first | exact HB.out | apply below_alloc | apply pw_below_drewN | apply below_drew1) | exact HB.out)) hb); clear HB; have HB := n0_; clear n0_; (try clear hb); (try clear hb2); (try clear hk); (try clear hi)) | (go_at_call 37; (with_reducible refine (parterreref14_Height.calls kj14 _ _ l0 a1 t208 t209 _ ?side1 ?side2 A21.out).mono ?_); (case side1 => repeat (first | exact (Kd.C_below HR0.out HB.out) | (with_reducible refine Kd.C_alloc ?_ _) | (with_reducible refine Kd.C_drewN ?_ _) | (with_reducible refine Kd.C_drew ?_))); (case side2 => exact HC0.out); rintro e w24 ⟨rfl, hb⟩; have n0_ := Aside0.mk (below_step (by repeat (first | (with_reducible first | exact HB.out | apply below_alloc | apply pw_below_drewN | apply below_drew1) | exact HB.out)) hb); clear HB; have HB := n0_; clear n0_; (try clear hb); (try clear hb2); (try clear hk); (try clear hi))); go_upto_region 13 with (first | (go_at_call 36; (with_reducible refine (leaf_Height.calls kj14 _ _ l0 a1 t206 t207 _ ?side1 ?side2 A20.out).mono ?_); (case side1 => repeat (first | exact (Kd.C_below HR0.out HB.out) | (with_reducible refine Kd.C_alloc ?_ _) | (with_reducible refine Kd.C_drewN ?_ _) | (with_reducible refine Kd.C_drew ?_))); (case side2 => exact HC0.out); rintro e w23 ⟨rfl, hb⟩; have n0_ := Aside0.mk (below_step (by repeat (first | (with_reducible first | exact HB.out | apply below_alloc | apply pw_below_drewN | apply below_drew1) | exact HB.out)) hb); clear HB; have HB := n0_; clear n0_; (try clear hb); (try clear hb2); (try clear hk); (try clear hi)) | (go_at_call 37; (with_reducible refine (parterreref14_Height.calls kj14 _ _ l0 a1 t208 t209 _ ?side1 ?side2 A21.out).mono ?_); (case side1 => repeat (first | exact (Kd.C_below HR0.out HB.out) | (with_reducible refine Kd.C_alloc ?_ _) | (with_reducible refine Kd.C_drewN ?_ _) | (with_reducible refine Kd.C_drew ?_))); (case side2 => exact HC0.out); rintro e w24 ⟨rfl, hb⟩; have n0_ := Aside0.mk (below_step (by repeat (first | (with_reducible first | exact HB.out | apply below_alloc | apply pw_below_drewN | apply below_drew1) | exact HB.out)) hb); clear HB; have HB := n0_; clear n0_; (try clear hb); (try clear hb2); (try clear hk); (try clear hi))))
                (try simp only [Act.put, List.setIfInBounds_toArray, List.set_cons_zero, List.set_cons_succ])
                go_cut [71] (fun v71 wc => ∃ (kq : Nat) (x71_21 : Bool), v71 = .bool x71_21 ∧ Aside0 (parterrelaw14_LeafTells.j2 kq l0 a1 x71_21 = some r) ∧ Aside0 (kq ≤ kj14) ∧ Aside0 (Below w.heap.size w wc))
                case first =>
                  have H := HC22.out
                  clear HC22
                  by_cases c25 : t206 = t208
                  · rw [if_pos c25] at H
                    have c25b0 : (t206 == t208) = true := beq_iff_eq.mpr c25
                    have c25b1 : (t206 != t208) = false := bne_eq_false_iff_eq.mpr c25
                    clear c25
                    (first | rw [c25b0] | (simp only [i64_w, i32_w]; rw [c25b0]) | skip)
                    have H' := Aside0.mk H
                    clear H
                    go_wp2
                    repeat (go_quiet (fail); try go_wp2)
                    go_meet
                    case rel => exact ⟨_, ((t207 != t209)), (by first | rfl | (simp; done) | (simp [*]; done)), H', ⟨by have := HJ6.out; have := HJ14.out; first | omega | exact Nat.le_refl _⟩, ⟨by repeat (first | (with_reducible first | exact HB.out | apply below_alloc | apply pw_below_drewN | apply below_drew1) | exact HB.out)⟩⟩
                  · rw [if_neg c25] at H
                    have c25b0 : (t206 == t208) = false := beq_eq_false_iff_ne.mpr c25
                    have c25b1 : (t206 != t208) = true := bne_iff_ne.mpr c25
                    (first | rw [c25b0] | (simp only [i64_w, i32_w]; rw [c25b0]) | skip)
                    have H' := Aside0.mk H
                    clear H
                    go_wp2
                    repeat (go_quiet (fail); try go_wp2)
                    go_meet
                    case rel => exact ⟨_, (true), (by first | rfl | (simp; done) | (simp [*]; done)), H', ⟨by have := HJ6.out; have := HJ14.out; first | omega | exact Nat.le_refl _⟩, ⟨by repeat (first | (with_reducible first | exact HB.out | apply below_alloc | apply pw_below_drewN | apply below_drew1) | exact HB.out)⟩⟩
                case rest =>
                  clear HC22
                  try clear c1
                  try clear c2
                  try clear p2
                  try clear c4
                  try clear c7
                  try clear c11
                  try clear c11b0
                  try clear c11b1
                  try clear c12
                  try clear c18
                  try clear c18b0
                  try clear c18b1
                  try clear c19
                  try clear c25
                  try clear c25b0
                  try clear c25b1
                  try clear p2
                  obtain ⟨kq, x71_21, rfl, HA, HJ21, HB⟩ := hcut
                  cases kq with
                  | zero => exact absurd HA.out (by simp [parterrelaw14_LeafTells.j2])
                  | succ kj21 =>
                    have H := HA.out
                    clear HA
                    simp only [parterrelaw14_LeafTells.j2] at H
                    by_cases c26 : x71_21 = true
                    · subst c26
                      have H1 : (some false) = some r := by rw [if_pos rfl] at H; exact H
                      clear H
                      have H := H1
                      clear H1
                      obtain rfl := Option.some.inj H
                      go_wp2
                      repeat (go_quiet (fail); try go_wp2)
                      go_ret
                      exact ⟨by first | rfl | (simp [errW_none, errW_some] <;> rfl) | (simp [*, errW_none, errW_some] <;> rfl), by repeat (first | (with_reducible first | exact HB.out | apply below_alloc | apply pw_below_drewN | apply below_drew1) | exact HB.out)⟩
                    · replace c26 := Bool.eq_false_iff.mpr c26
                      subst c26
                      have H1 : ((leaf_Lines.f kj21 l0 a1).bind fun bt210 => ((parterreref14_Lines.f kj21 l0 a1).bind fun bt214 => (if (bt210.1.length : Int) = (bt214.1.length : Int) then (parterrelaw14_LeafTells.j3 kj21 bt210.1 bt214.1 (bt210.2 != bt214.2)) else (parterrelaw14_LeafTells.j3 kj21 bt210.1 bt214.1 true)))) = some r := by rw [if_neg (show ¬ (false = true) by decide)] at H; exact H
                      clear H
                      have H := H1
                      clear H1
                      replace H := Option.bind_eq_some_iff.mp H
                      obtain ⟨⟨t210, t211⟩, A270, H⟩ := H
                      replace H : ((parterreref14_Lines.f kj21 l0 a1).bind fun bt214 => (if (t210.length : Int) = (bt214.1.length : Int) then (parterrelaw14_LeafTells.j3 kj21 t210 bt214.1 (t211 != bt214.2)) else (parterrelaw14_LeafTells.j3 kj21 t210 bt214.1 true))) = some r := H
                      have A27 := Aside0.mk A270
                      clear A270
                      replace H := Option.bind_eq_some_iff.mp H
                      obtain ⟨⟨t214, t215⟩, A280, H⟩ := H
                      replace H : (if (t210.length : Int) = (t214.length : Int) then (parterrelaw14_LeafTells.j3 kj21 t210 t214 (t211 != t215)) else (parterrelaw14_LeafTells.j3 kj21 t210 t214 true)) = some r := H
                      have A28 := Aside0.mk A280
                      clear A280
                      have HC29 := Aside0.mk H
                      clear H
                      go_upto_region 17 with (first | (go_at_call 38; (with_reducible refine (leaf_Lines.calls kj21 _ _ l0 a1 t210 t211 _ ?side1 ?side2 A27.out).mono ?_); (case side1 => repeat (first | exact (Kd.C_below HR0.out HB.out) | (with_reducible refine Kd.C_alloc ?_ _) | (with_reducible refine Kd.C_drewN ?_ _) | (with_reducible refine Kd.C_drew ?_))); (case side2 => exact HC0.out); rintro e w30 ⟨v212, rfl, ho0, hb⟩; have n0_ := Aside0.mk (Kd.R_lower ho0 (below_size (by repeat (first | (with_reducible first | exact HB.out | apply below_alloc | apply pw_below_drewN | apply below_drew1) | exact HB.out)))); have n1_ := Aside0.mk (below_step (by repeat (first | (with_reducible first | exact HB.out | apply below_alloc | apply pw_below_drewN | apply below_drew1) | exact HB.out)) hb); clear HB; have HO213 := n0_; have HB := n1_; clear n0_ n1_; (try clear hb); (try clear hb2); (try clear hk); (try clear hi); (try clear ho0)) | (go_at_call 39; (with_reducible refine (parterreref14_Lines.calls kj21 _ _ l0 a1 t214 t215 _ ?side1 ?side2 A28.out).mono ?_); (case side1 => repeat (first | exact (Kd.C_below HR0.out HB.out) | (with_reducible refine Kd.C_alloc ?_ _) | (with_reducible refine Kd.C_drewN ?_ _) | (with_reducible refine Kd.C_drew ?_))); (case side2 => exact HC0.out); rintro e w31 ⟨v216, rfl, ho0, hb⟩; have n0_ := Aside0.mk (Kd.R_below (by (with_reducible repeat (first | apply Kd.R_alloc | apply Kd.R_drewN | apply Kd.R_drew)); exact HO213.out) hb); have n1_ := Aside0.mk (Kd.R_lower ho0 (below_size (by repeat (first | (with_reducible first | exact HB.out | apply below_alloc | apply pw_below_drewN | apply below_drew1) | exact HB.out)))); have n2_ := Aside0.mk (below_step (by repeat (first | (with_reducible first | exact HB.out | apply below_alloc | apply pw_below_drewN | apply below_drew1) | exact HB.out)) hb); clear HO213; clear HB; have HO213 := n0_; have HO217 := n1_; have HB := n2_; clear n0_ n1_ n2_; (try clear hb); (try clear hb2); (try clear hk); (try clear hi); (try clear ho0)))
                      repeat (go_quiet (first | (go_at_call 38; (with_reducible refine (leaf_Lines.calls kj21 _ _ l0 a1 t210 t211 _ ?side1 ?side2 A27.out).mono ?_); (case side1 => repeat (first | exact (Kd.C_below HR0.out HB.out) | (with_reducible refine Kd.C_alloc ?_ _) | (with_reducible refine Kd.C_drewN ?_ _) | (with_reducible refine Kd.C_drew ?_))); (case side2 => exact HC0.out); rintro e w30 ⟨v212, rfl, ho0, hb⟩; have n0_ := Aside0.mk (Kd.R_lower ho0 (below_size (by repeat (first | (with_reducible first | exact HB.out | apply below_alloc | apply pw_below_drewN | apply below_drew1) | exact HB.out)))); have n1_ := Aside0.mk (below_step (by repeat (first | (with_reducible first | exact HB.out | apply below_alloc | apply pw_below_drewN | apply below_drew1) | exact HB.out)) hb); clear HB; have HO213 := n0_; have HB := n1_; clear n0_ n1_; (try clear hb); (try clear hb2); (try clear hk); (try clear hi); (try clear ho0)) | (go_at_call 39; (with_reducible refine (parterreref14_Lines.calls kj21 _ _ l0 a1 t214 t215 _ ?side1 ?side2 A28.out).mono ?_); (case side1 => repeat (first | exact (Kd.C_below HR0.out HB.out) | (with_reducible refine Kd.C_alloc ?_ _) | (with_reducible refine Kd.C_drewN ?_ _) | (with_reducible refine Kd.C_drew ?_))); (case side2 => exact HC0.out); rintro e w31 ⟨v216, rfl, ho0, hb⟩; have n0_ := Aside0.mk (Kd.R_below (by (with_reducible repeat (first | apply Kd.R_alloc | apply Kd.R_drewN | apply Kd.R_drew)); exact HO213.out) hb); have n1_ := Aside0.mk (Kd.R_lower ho0 (below_size (by repeat (first | (with_reducible first | exact HB.out | apply below_alloc | apply pw_below_drewN | apply below_drew1) | exact HB.out)))); have n2_ := Aside0.mk (below_step (by repeat (first | (with_reducible first | exact HB.out | apply below_alloc | apply pw_below_drewN | apply below_drew1) | exact HB.out)) hb); clear HO213; clear HB; have HO213 := n0_; have HO217 := n1_; have HB := n2_; clear n0_ n1_ n2_; (try clear hb); (try clear hb2); (try clear hk); (try clear hi); (try clear ho0))); go_upto_region 17 with (first | (go_at_call 38; (with_reducible refine (leaf_Lines.calls kj21 _ _ l0 a1 t210 t211 _ ?side1 ?side2 A27.out).mono ?_); (case side1 => repeat (first | exact (Kd.C_below HR0.out HB.out) | (with_reducible refine Kd.C_alloc ?_ _) | (with_reducible refine Kd.C_drewN ?_ _) | (with_reducible refine Kd.C_drew ?_))); (case side2 => exact HC0.out); rintro e w30 ⟨v212, rfl, ho0, hb⟩; have n0_ := Aside0.mk (Kd.R_lower ho0 (below_size (by repeat (first | (with_reducible first | exact HB.out | apply below_alloc | apply pw_below_drewN | apply below_drew1) | exact HB.out)))); have n1_ := Aside0.mk (below_step (by repeat (first | (with_reducible first | exact HB.out | apply below_alloc | apply pw_below_drewN | apply below_drew1) | exact HB.out)) hb); clear HB; have HO213 := n0_; have HB := n1_; clear n0_ n1_; (try clear hb); (try clear hb2); (try clear hk); (try clear hi); (try clear ho0)) | (go_at_call 39; (with_reducible refine (parterreref14_Lines.calls kj21 _ _ l0 a1 t214 t215 _ ?side1 ?side2 A28.out).mono ?_); (case side1 => repeat (first | exact (Kd.C_below HR0.out HB.out) | (with_reducible refine Kd.C_alloc ?_ _) | (with_reducible refine Kd.C_drewN ?_ _) | (with_reducible refine Kd.C_drew ?_))); (case side2 => exact HC0.out); rintro e w31 ⟨v216, rfl, ho0, hb⟩; have n0_ := Aside0.mk (Kd.R_below (by (with_reducible repeat (first | apply Kd.R_alloc | apply Kd.R_drewN | apply Kd.R_drew)); exact HO213.out) hb); have n1_ := Aside0.mk (Kd.R_lower ho0 (below_size (by repeat (first | (with_reducible first | exact HB.out | apply below_alloc | apply pw_below_drewN | apply below_drew1) | exact HB.out)))); have n2_ := Aside0.mk (below_step (by repeat (first | (with_reducible first | exact HB.out | apply below_alloc | apply pw_below_drewN | apply below_drew1) | exact HB.out)) hb); clear HO213; clear HB; have HO213 := n0_; have HO217 := n1_; have HB := n2_; clear n0_ n1_ n2_; (try clear hb); (try clear hb2); (try clear hk); (try clear hi); (try clear ho0))))
                      (try simp only [Act.put, List.setIfInBounds_toArray, List.set_cons_zero, List.set_cons_succ])
                      go_cut [93] (fun v93 wc => ∃ (kq : Nat) (x93_28 : Bool), v93 = .bool x93_28 ∧ Aside0 (parterrelaw14_LeafTells.j3 kq t210 t214 x93_28 = some r) ∧ Aside0 (kq ≤ kj21) ∧ Aside0 (Kd.R k54 54 wc w.heap.size (fun _ => True) v212 t210) ∧ Aside0 (Kd.R k53 53 wc w.heap.size (fun _ => True) v216 t214) ∧ Aside0 (Below w.heap.size w wc))
                      case first =>
                        have H := HC29.out
                        clear HC29
                        by_cases c32 : (t210.length : Int) = (t214.length : Int)
                        · rw [if_pos c32] at H
                          have c32b0 : ((t210.length : Int) == (t214.length : Int)) = true := beq_iff_eq.mpr c32
                          have c32b1 : ((t210.length : Int) != (t214.length : Int)) = false := bne_eq_false_iff_eq.mpr c32
                          have c32b2 : (t210.length == t214.length) = true := by first | simpa using c32 | (simp at c32 ⊢; omega)
                          clear c32
                          (first | rw [c32b0] | (simp only [i64_w, i32_w]; rw [c32b0]) | skip)
                          have H' := Aside0.mk H
                          clear H
                          obtain ⟨Ao33, co33, eo33⟩ := Kd.R_slice HO213.out
                          subst eo33
                          obtain ⟨Ao34, co34, eo34⟩ := Kd.R_slice HO217.out
                          subst eo34
                          go_wp2
                          repeat (go_quiet (fail); try go_wp2)
                          go_meet
                          case rel => exact ⟨_, ((t211 != t215)), (by first | rfl | (simp; done) | (simp [*]; done)), H', ⟨by have := HJ6.out; have := HJ14.out; have := HJ21.out; first | omega | exact Nat.le_refl _⟩, ⟨by (with_reducible repeat (first | apply Kd.R_alloc | apply Kd.R_drewN | apply Kd.R_drew)); exact HO213.out⟩, ⟨by (with_reducible repeat (first | apply Kd.R_alloc | apply Kd.R_drewN | apply Kd.R_drew)); exact HO217.out⟩, ⟨by repeat (first | (with_reducible first | exact HB.out | apply below_alloc | apply pw_below_drewN | apply below_drew1) | exact HB.out)⟩⟩
                        · rw [if_neg c32] at H
                          have c32b0 : ((t210.length : Int) == (t214.length : Int)) = false := beq_eq_false_iff_ne.mpr c32
                          have c32b1 : ((t210.length : Int) != (t214.length : Int)) = true := bne_iff_ne.mpr c32
                          have c32b2 : (t210.length == t214.length) = false := by first | simpa using c32 | (simp at c32 ⊢; omega)
                          (first | rw [c32b0] | (simp only [i64_w, i32_w]; rw [c32b0]) | skip)
                          have H' := Aside0.mk H
                          clear H
                          obtain ⟨Ao35, co35, eo35⟩ := Kd.R_slice HO213.out
                          subst eo35
                          obtain ⟨Ao36, co36, eo36⟩ := Kd.R_slice HO217.out
                          subst eo36
                          go_wp2
                          repeat (go_quiet (fail); try go_wp2)
                          go_meet
                          case rel => exact ⟨_, (true), (by first | rfl | (simp; done) | (simp [*]; done)), H', ⟨by have := HJ6.out; have := HJ14.out; have := HJ21.out; first | omega | exact Nat.le_refl _⟩, ⟨by (with_reducible repeat (first | apply Kd.R_alloc | apply Kd.R_drewN | apply Kd.R_drew)); exact HO213.out⟩, ⟨by (with_reducible repeat (first | apply Kd.R_alloc | apply Kd.R_drewN | apply Kd.R_drew)); exact HO217.out⟩, ⟨by repeat (first | (with_reducible first | exact HB.out | apply below_alloc | apply pw_below_drewN | apply below_drew1) | exact HB.out)⟩⟩
                      case rest =>
                        clear HC29
                        try clear c1
                        try clear c2
                        try clear p2
                        try clear c3
                        try clear c4
                        try clear c7
                        try clear c11
                        try clear c11b0
                        try clear c11b1
                        try clear c12
                        try clear c18
                        try clear c18b0
                        try clear c18b1
                        try clear c19
                        try clear c25
                        try clear c25b0
                        try clear c25b1
                        try clear c26
                        try clear c32
                        try clear c32b0
                        try clear c32b1
                        try clear c32b2
                        try clear p2
                        obtain ⟨kq, x93_28, rfl, HA, HJ28, HO_9, HO_10, HB⟩ := hcut
                        cases kq with
                        | zero => exact absurd HA.out (by simp [parterrelaw14_LeafTells.j3])
                        | succ kj28 =>
                          have H := HA.out
                          clear HA
                          simp only [parterrelaw14_LeafTells.j3] at H
                          by_cases c37 : x93_28 = true
                          · subst c37
                            have H1 : (some false) = some r := by rw [if_pos rfl] at H; exact H
                            clear H
                            have H := H1
                            clear H1
                            obtain rfl := Option.some.inj H
                            go_wp2
                            repeat (go_quiet (fail); try go_wp2)
                            go_ret
                            exact ⟨by first | rfl | (simp [errW_none, errW_some] <;> rfl) | (simp [*, errW_none, errW_some] <;> rfl), by repeat (first | (with_reducible first | exact HB.out | apply below_alloc | apply pw_below_drewN | apply below_drew1) | exact HB.out)⟩
                          · replace c37 := Bool.eq_false_iff.mpr c37
                            subst c37
                            have H1 : (parterrelaw14_LeafTells.l0 kj28 t210 t214 (t210.length : Int) 0) = some r := by rw [if_neg (show ¬ (false = true) by decide)] at H; exact H
                            clear H
                            have H := H1
                            clear H1
                            have H' := Aside0.mk H
                            clear H
                            obtain ⟨Ao38, co38, eo38⟩ := Kd.R_slice HO_9.out
                            subst eo38
                            go_wp2
                            repeat (go_quiet (fail); try go_wp2)
                            go_loopg [96] kj28 (fun kq v96 w' => ∃ (x96_5 : Int), v96 = .int .i64 x96_5 ∧ Aside0 (parterrelaw14_LeafTells.l0 kq t210 t214 (t210.length : Int) x96_5 = some r) ∧ Aside0 (kq ≤ kj28) ∧ Aside0 (Kd.R k54 54 w' w.heap.size (fun _ => True) (.slice Ao38 t210.length co38) t210) ∧ Aside0 (Kd.R k53 53 w' w.heap.size (fun _ => True) v216 t214) ∧ Aside0 (Below w.heap.size w w'))
                            case atStart => exact ⟨(0), (by first | rfl | (simp; done) | (simp [*]; done)), H', ⟨Nat.le_refl _⟩, ⟨by (with_reducible repeat (first | apply Kd.R_alloc | apply Kd.R_drewN | apply Kd.R_drew)); exact HO_9.out⟩, ⟨by (with_reducible repeat (first | apply Kd.R_alloc | apply Kd.R_drewN | apply Kd.R_drew)); exact HO_10.out⟩, ⟨by repeat (first | (with_reducible first | exact HB.out | apply below_alloc | apply pw_below_drewN | apply below_drew1) | exact HB.out)⟩⟩
                            case round =>
                              clear H'
                              try clear c1
                              try clear c2
                              try clear p2
                              try clear c3
                              try clear c4
                              try clear c7
                              try clear c11
                              try clear c11b0
                              try clear c11b1
                              try clear c12
                              try clear c18
                              try clear c18b0
                              try clear c18b1
                              try clear c19
                              try clear c25
                              try clear c25b0
                              try clear c25b1
                              try clear c26
                              try clear c32
                              try clear c32b0
                              try clear c32b1
                              try clear c32b2
                              try clear c37
                              try clear p2
                              obtain ⟨x96_5, rfl, HA, HK5, HO_9, HO_10, HB⟩ := hrel
                              cases gk with
                              | zero => exact absurd HA.out (by simp [parterrelaw14_LeafTells.l0])
                              | succ k5 =>
                                have H := HA.out
                                clear HA
                                simp only [parterrelaw14_LeafTells.l0] at H
                                by_cases c39 : x96_5 < (t210.length : Int)
                                · rw [if_pos c39] at H
                                  have c39b0 : decide (x96_5 < (t210.length : Int)) = true := decide_eq_true c39
                                  clear c39
                                  by_cases c40 : 0 ≤ x96_5
                                  · rw [if_pos c40] at H
                                    have c40b0 : decide (0 ≤ x96_5) = true := decide_eq_true c40
                                    clear c40
                                    by_cases c41 : x96_5 < (t210.length : Int)
                                    · rw [if_pos c41] at H
                                      have c41b0 : decide (x96_5 < (t210.length : Int)) = true := decide_eq_true c41
                                      clear c41
                                      by_cases c42 : x96_5 < (t214.length : Int)
                                      · rw [if_pos c42] at H
                                        have c42b0 : decide (x96_5 < (t214.length : Int)) = true := decide_eq_true c42
                                        clear c42
                                        by_cases c43 : (!(((rd_T54 t210 x96_5).f0) == ((rd_T53 t214 x96_5).f0)) || (!(((rd_T54 t210 x96_5).f1) == ((rd_T53 t214 x96_5).f1)) || (!(((rd_T54 t210 x96_5).f2) == ((rd_T53 t214 x96_5).f2)) || (!(((rd_T54 t210 x96_5).f3) == ((rd_T53 t214 x96_5).f3)))))) = true
                                        · rw [if_pos c43] at H
                                          have c43b0 : (!(((rd_T54 t210 x96_5).f0) == ((rd_T53 t214 x96_5).f0)) || (!(((rd_T54 t210 x96_5).f1) == ((rd_T53 t214 x96_5).f1)) || (!(((rd_T54 t210 x96_5).f2) == ((rd_T53 t214 x96_5).f2)) || (!(((rd_T54 t210 x96_5).f3) == ((rd_T53 t214 x96_5).f3)))))) = true := c43
                                          clear c43
                                          obtain rfl := Option.some.inj H
                                          have p218 : 0 ≤ (x96_5 : Int) := of_decide_eq_true (by first | (with_reducible assumption) | assumption)
                                          have q218 : x96_5 < (t210.length : Int) := of_decide_eq_true (by first | (with_reducible assumption) | assumption)
                                          obtain ⟨ad218, e218, hx218_0, hx218_1, hx218_2, hx218_3⟩ := at_T54 (Kd.R_reads' HO_9.out).2.2 x96_5 p218 q218
                                          cases e218
                                          replace p218 := eq_true p218
                                          replace q218 := eq_true q218
                                          obtain ⟨Ao44, co44, eo44⟩ := Kd.R_slice HO_10.out
                                          subst eo44
                                          have p219 : 0 ≤ (x96_5 : Int) := of_decide_eq_true (by first | (with_reducible assumption) | assumption)
                                          have q219 : x96_5 < (t214.length : Int) := of_decide_eq_true (by first | (with_reducible assumption) | assumption)
                                          obtain ⟨ad219, e219, hx219_0, hx219_1, hx219_2, hx219_3⟩ := at_T53 (Kd.R_reads' HO_10.out).2.2 x96_5 p219 q219
                                          cases e219
                                          replace p219 := eq_true p219
                                          replace q219 := eq_true q219
                                          go_wp2
                                          repeat (go_quiet (fail); try go_wp2)
                                          go_ret
                                          exact ⟨by first | rfl | (simp [errW_none, errW_some] <;> rfl) | (simp [*, errW_none, errW_some] <;> rfl), by repeat (first | (with_reducible first | exact HB.out | apply below_alloc | apply pw_below_drewN | apply below_drew1) | exact HB.out)⟩
                                        · rw [if_neg c43] at H
                                          have c43b0 : (!(((rd_T54 t210 x96_5).f0) == ((rd_T53 t214 x96_5).f0)) || (!(((rd_T54 t210 x96_5).f1) == ((rd_T53 t214 x96_5).f1)) || (!(((rd_T54 t210 x96_5).f2) == ((rd_T53 t214 x96_5).f2)) || (!(((rd_T54 t210 x96_5).f3) == ((rd_T53 t214 x96_5).f3)))))) = false := by simpa using c43
                                          clear c43
                                          have H' := Aside0.mk H
                                          clear H
                                          have p218 : 0 ≤ (x96_5 : Int) := of_decide_eq_true (by first | (with_reducible assumption) | assumption)
                                          have q218 : x96_5 < (t210.length : Int) := of_decide_eq_true (by first | (with_reducible assumption) | assumption)
                                          obtain ⟨ad218, e218, hx218_0, hx218_1, hx218_2, hx218_3⟩ := at_T54 (Kd.R_reads' HO_9.out).2.2 x96_5 p218 q218
                                          cases e218
                                          replace p218 := eq_true p218
                                          replace q218 := eq_true q218
                                          obtain ⟨Ao45, co45, eo45⟩ := Kd.R_slice HO_10.out
                                          subst eo45
                                          have p219 : 0 ≤ (x96_5 : Int) := of_decide_eq_true (by first | (with_reducible assumption) | assumption)
                                          have q219 : x96_5 < (t214.length : Int) := of_decide_eq_true (by first | (with_reducible assumption) | assumption)
                                          obtain ⟨ad219, e219, hx219_0, hx219_1, hx219_2, hx219_3⟩ := at_T53 (Kd.R_reads' HO_10.out).2.2 x96_5 p219 q219
                                          cases e219
                                          replace p219 := eq_true p219
                                          replace q219 := eq_true q219
                                          go_wp2
                                          repeat (go_quiet (fail); try go_wp2)
                                          go_roundg k5
                                          case measure => have := HJ6.out; have := HJ14.out; have := HJ21.out; have := HJ28.out; have := HK5.out; omega
                                          case rel => exact ⟨(wrap64 (x96_5 + 1)), (by first | rfl | (simp; done) | (simp [*]; done)), H', ⟨by have := HJ6.out; have := HJ14.out; have := HJ21.out; have := HJ28.out; have := HK5.out; omega⟩, ⟨by (with_reducible repeat (first | apply Kd.R_alloc | apply Kd.R_drewN | apply Kd.R_drew)); exact HO_9.out⟩, ⟨by (with_reducible repeat (first | apply Kd.R_alloc | apply Kd.R_drewN | apply Kd.R_drew)); exact HO_10.out⟩, ⟨by repeat (first | (with_reducible first | exact HB.out | apply below_alloc | apply pw_below_drewN | apply below_drew1) | exact HB.out)⟩⟩
                                      · rw [if_neg c42] at H
                                        exact absurd H (by simp)
                                    · rw [if_neg c41] at H
                                      exact absurd H (by simp)
                                  · rw [if_neg c40] at H
                                    exact absurd H (by simp)
                                · rw [if_neg c39] at H
                                  have c39b0 : decide (x96_5 < (t210.length : Int)) = false := decide_eq_false c39
                                  clear c39
                                  replace H := Option.bind_eq_some_iff.mp H
                                  obtain ⟨t220, A460, H⟩ := H
                                  replace H : (some t220) = some r := H
                                  have A46 := Aside0.mk A460
                                  clear A460
                                  obtain rfl := Option.some.inj H
                                  go_wp2_with (first | (go_at_call 31; (with_reducible refine (parterrelaw14_lives.calls k5  t220 _ A46.out).mono ?_); rintro e w47 ⟨rfl, hb⟩; have n0_ := Aside0.mk (Kd.R_below (by (with_reducible repeat (first | apply Kd.R_alloc | apply Kd.R_drewN | apply Kd.R_drew)); exact HO_9.out) hb); have n1_ := Aside0.mk (Kd.R_below (by (with_reducible repeat (first | apply Kd.R_alloc | apply Kd.R_drewN | apply Kd.R_drew)); exact HO_10.out) hb); have n2_ := Aside0.mk (below_step (by repeat (first | (with_reducible first | exact HB.out | apply below_alloc | apply pw_below_drewN | apply below_drew1) | exact HB.out)) hb); clear HO_9; clear HO_10; clear HB; have HO_9 := n0_; have HO_10 := n1_; have HB := n2_; clear n0_ n1_ n2_; (try clear hb); (try clear hb2); (try clear hk); (try clear hi)))
                                  repeat (go_quiet (first | (go_at_call 31; (with_reducible refine (parterrelaw14_lives.calls k5  t220 _ A46.out).mono ?_); rintro e w47 ⟨rfl, hb⟩; have n0_ := Aside0.mk (Kd.R_below (by (with_reducible repeat (first | apply Kd.R_alloc | apply Kd.R_drewN | apply Kd.R_drew)); exact HO_9.out) hb); have n1_ := Aside0.mk (Kd.R_below (by (with_reducible repeat (first | apply Kd.R_alloc | apply Kd.R_drewN | apply Kd.R_drew)); exact HO_10.out) hb); have n2_ := Aside0.mk (below_step (by repeat (first | (with_reducible first | exact HB.out | apply below_alloc | apply pw_below_drewN | apply below_drew1) | exact HB.out)) hb); clear HO_9; clear HO_10; clear HB; have HO_9 := n0_; have HO_10 := n1_; have HB := n2_; clear n0_ n1_ n2_; (try clear hb); (try clear hb2); (try clear hk); (try clear hi))); try go_wp2_with (first | (go_at_call 31; (with_reducible refine (parterrelaw14_lives.calls k5  t220 _ A46.out).mono ?_); rintro e w47 ⟨rfl, hb⟩; have n0_ := Aside0.mk (Kd.R_below (by (with_reducible repeat (first | apply Kd.R_alloc | apply Kd.R_drewN | apply Kd.R_drew)); exact HO_9.out) hb); have n1_ := Aside0.mk (Kd.R_below (by (with_reducible repeat (first | apply Kd.R_alloc | apply Kd.R_drewN | apply Kd.R_drew)); exact HO_10.out) hb); have n2_ := Aside0.mk (below_step (by repeat (first | (with_reducible first | exact HB.out | apply below_alloc | apply pw_below_drewN | apply below_drew1) | exact HB.out)) hb); clear HO_9; clear HO_10; clear HB; have HO_9 := n0_; have HO_10 := n1_; have HB := n2_; clear n0_ n1_ n2_; (try clear hb); (try clear hb2); (try clear hk); (try clear hi))))
                                  go_ret
                                  exact ⟨by first | rfl | (simp [errW_none, errW_some] <;> rfl) | (simp [*, errW_none, errW_some] <;> rfl), by repeat (first | (with_reducible first | exact HB.out | apply below_alloc | apply pw_below_drewN | apply below_drew1) | exact HB.out)⟩
  · replace c4 := Bool.eq_false_iff.mpr c4
    subst c4
    have H1 : ((parterrelaw14_lives.f k).bind fun t197 => (some t197)) = some r := by rw [if_neg (show ¬ (false = true) by decide)] at H; exact H
    clear H
    have H := H1
    clear H1
    replace H := Option.bind_eq_some_iff.mp H
    obtain ⟨t197, A480, H⟩ := H
    replace H : (some t197) = some r := H
    have A48 := Aside0.mk A480
    clear A480
    obtain rfl := Option.some.inj H
    go_enter Try.func7, Try.ntmps7
    go_wp2_with (first | (go_at_call 30; (with_reducible refine (parterrelaw09_Light.calls k _ _ l0 false _ ?side1 ?side2 A3.out).mono ?_); (case side1 => repeat (first | exact HR0.out | (with_reducible refine Kd.C_alloc ?_ _) | (with_reducible refine Kd.C_drewN ?_ _) | (with_reducible refine Kd.C_drew ?_))); (case side2 => exact HC0.out); rintro e w49 ⟨rfl, hb⟩; have n0_ := Aside0.mk (below_step (by repeat (first | (with_reducible first | exact HB.out | apply below_alloc | apply pw_below_drewN | apply below_drew1) | exact HB.out)) hb); clear HB; have HB := n0_; clear n0_; (try clear hb); (try clear hb2); (try clear hk); (try clear hi)) | (go_at_call 31; (with_reducible refine (parterrelaw14_lives.calls k  t197 _ A48.out).mono ?_); rintro e w50 ⟨rfl, hb⟩; have n0_ := Aside0.mk (below_step (by repeat (first | (with_reducible first | exact HB.out | apply below_alloc | apply pw_below_drewN | apply below_drew1) | exact HB.out)) hb); clear HB; have HB := n0_; clear n0_; (try clear hb); (try clear hb2); (try clear hk); (try clear hi)))
    repeat (go_quiet (first | (go_at_call 30; (with_reducible refine (parterrelaw09_Light.calls k _ _ l0 false _ ?side1 ?side2 A3.out).mono ?_); (case side1 => repeat (first | exact HR0.out | (with_reducible refine Kd.C_alloc ?_ _) | (with_reducible refine Kd.C_drewN ?_ _) | (with_reducible refine Kd.C_drew ?_))); (case side2 => exact HC0.out); rintro e w49 ⟨rfl, hb⟩; have n0_ := Aside0.mk (below_step (by repeat (first | (with_reducible first | exact HB.out | apply below_alloc | apply pw_below_drewN | apply below_drew1) | exact HB.out)) hb); clear HB; have HB := n0_; clear n0_; (try clear hb); (try clear hb2); (try clear hk); (try clear hi)) | (go_at_call 31; (with_reducible refine (parterrelaw14_lives.calls k  t197 _ A48.out).mono ?_); rintro e w50 ⟨rfl, hb⟩; have n0_ := Aside0.mk (below_step (by repeat (first | (with_reducible first | exact HB.out | apply below_alloc | apply pw_below_drewN | apply below_drew1) | exact HB.out)) hb); clear HB; have HB := n0_; clear n0_; (try clear hb); (try clear hb2); (try clear hk); (try clear hi))); try go_wp2_with (first | (go_at_call 30; (with_reducible refine (parterrelaw09_Light.calls k _ _ l0 false _ ?side1 ?side2 A3.out).mono ?_); (case side1 => repeat (first | exact HR0.out | (with_reducible refine Kd.C_alloc ?_ _) | (with_reducible refine Kd.C_drewN ?_ _) | (with_reducible refine Kd.C_drew ?_))); (case side2 => exact HC0.out); rintro e w49 ⟨rfl, hb⟩; have n0_ := Aside0.mk (below_step (by repeat (first | (with_reducible first | exact HB.out | apply below_alloc | apply pw_below_drewN | apply below_drew1) | exact HB.out)) hb); clear HB; have HB := n0_; clear n0_; (try clear hb); (try clear hb2); (try clear hk); (try clear hi)) | (go_at_call 31; (with_reducible refine (parterrelaw14_lives.calls k  t197 _ A48.out).mono ?_); rintro e w50 ⟨rfl, hb⟩; have n0_ := Aside0.mk (below_step (by repeat (first | (with_reducible first | exact HB.out | apply below_alloc | apply pw_below_drewN | apply below_drew1) | exact HB.out)) hb); clear HB; have HB := n0_; clear n0_; (try clear hb); (try clear hb2); (try clear hk); (try clear hi))))
    go_ret
    exact ⟨by first | rfl | (simp [errW_none, errW_some] <;> rfl) | (simp [*, errW_none, errW_some] <;> rfl), by repeat (first | (with_reducible first | exact HB.out | apply below_alloc | apply pw_below_drewN | apply below_drew1) | exact HB.out)⟩

def g59 (x : S59) : Prop := (gInt .i64) x.f0 ∧ (gInt .i64) x.f1
theorem o59 : Opens Try.prog 59 k59 g59 := by
  have h := opens_iso (f := fun x : S59 => (x.f0, x.f1)) (fun a => ⟨a.1, a.2⟩) (fun _ => rfl) (opens_struct Try.underlying59 (by kernel_rfl) (opensF_cons rfl (by kernel_rfl) (opens_int Try.underlying3) (opensF_one rfl (by kernel_rfl) (opens_int Try.underlying3))))
  exact h
/-- THE ONE PURE STATEMENT of parterrelaw14_LeafTells. -/
def parterrelaw14_LeafTells.Pure : Prop := ∀ (l0 : List (List (S59))) (a1 : Int), gSl 24 (gSl 16 g59) l0 → gInt .i64 a1 → ∃ k, parterrelaw14_LeafTells.f k l0 a1 = some true

end Go.Proofs.Ytbjjmilbilapnaa.PLf
