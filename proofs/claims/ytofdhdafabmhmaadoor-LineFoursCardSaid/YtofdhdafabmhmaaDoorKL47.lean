/- LineFoursCardSaid, part 8 of 13: contracts of the program's functions, the words that they use, and the plain laws on what they compute. Conditions: none beyond what the statements say. -/
import Derived.Test.YtofdhdafabmhmaaDoorKL40
import Derived.Test.YtofdhdafabmhmaaDoorKL41
import Derived.Test.YtofdhdafabmhmaaDoorKL43
import Derived.Test.YtofdhdafabmhmaaDoorKL44
import Derived.Test.YtofdhdafabmhmaaDoorKL46
import Derived.BigRegion
import Derived.Lib.ConvBytes
set_option linter.unusedVariables false
set_option linter.unusedSimpArgs false
section
namespace Go.Proofs.YtofdhdafabmhmaaDoor.PLf4
open Go.RowKit Go.Proofs.YtofdhdafabmhmaaDoorW.PrintWords Go.Proofs.YtofdhdafabmhmaaDoorW.PrintLast Go.Proofs.YtofdhdafabmhmaaDoorW.PrintMore
attribute [local go_sem] max2_int min2_int max_two min_two max_three min_three max_four min_four
open Go.Proofs.YtofdhdafabmhmaaDoor.Opn Go.Proofs.YtofdhdafabmhmaaDoor.Giv
set_option maxRecDepth 100000

/-! ### number_scaled: function 119 -/
mutual
def number_scaled.j1 : Nat → List Int → Int → Int → Option (Int × Bool)
 | 0, _, _, _ => none
 | k + 1, x0, x1, x2 => if (x0.length : Int) = 0 then (number_scaled.j2 k x0 x1 x2 true) else (number_scaled.j2 k x0 x1 x2 (decide (x1 < (-5))))
def number_scaled.j2 : Nat → List Int → Int → Int → Bool → Option (Int × Bool)
 | 0, _, _, _, _ => none
 | k + 1, x0, x1, x2, x28 => if x28 = true then (some (0, true)) else (if x1 > 13 then (some (0, false)) else (number_scaled.l1 k x0 x1 x2 0 (mx 0 x1) 0))
def number_scaled.l1 : Nat → List Int → Int → Int → Int → Int → Int → Option (Int × Bool)
 | 0, _, _, _, _, _, _ => none
 | k + 1, x0, x1, x2, x8, x40, x41 => if x41 < x40 then (if x41 < (x0.length : Int) then (if 0 ≤ x41 then (number_scaled.l1 k x0 x1 x2 (wrap64 ((wrap64 (x8 * 10)) + (wrap64 (rd x0 x41)))) x40 (wrap64 (x41 + 1))) else (none)) else (number_scaled.l1 k x0 x1 x2 (wrap64 (x8 * 10)) x40 (wrap64 (x41 + 1)))) else (number_scaled.l2 k x0 x1 x2 x8 ([] : List Int) (mx 0 (wrap64 (-x1))) 0)
def number_scaled.l2 : Nat → List Int → Int → Int → Int → List Int → Int → Int → Option (Int × Bool)
 | 0, _, _, _, _, _, _, _ => none
 | k + 1, x0, x1, x2, x8, x10, x60, x61 => if x61 < x60 then (if x10.length < 140737488355328 then (number_scaled.l2 k x0 x1 x2 x8 (x10 ++ [0]) x60 (wrap64 (x61 + 1))) else (none)) else (if 0 ≤ (mn (x0.length : Int) (mx 0 x1)) then (if (mn (x0.length : Int) (mx 0 x1)) ≤ (x0.length : Int) then ((some (x0.drop ((mn (x0.length : Int) (mx 0 x1)) : Int).toNat : List Int)).bind fun y205 => (if x10.length + y205.length < 140737488355328 then ((some (x10 ++ y205 : List Int)).bind fun y210 => (number_scaled.l3 k x2 x8 y210 0 (wrap64 ((y210.length : Int) - 1)))) else (none))) else (none)) else (none))
def number_scaled.l3 : Nat → Int → Int → List Int → Int → Int → Option (Int × Bool)
 | 0, _, _, _, _, _ => none
 | k + 1, x2, x8, x10, x11, x12 => if x12 ≥ 0 then (if 0 ≤ x12 then (if x12 < (x10.length : Int) then (number_scaled.l3 k x2 x8 (x10.set (x12 : Int).toNat ((Int.tmod (wrap64 ((wrap64 ((wrap64 (rd x10 x12)) * x2)) + x11)) 10) % 256)) (wrap64 (Int.tdiv (wrap64 ((wrap64 ((wrap64 (rd x10 x12)) * x2)) + x11)) 10)) (wrap64 (x12 - 1))) else (none)) else (none)) else (if (x10.length : Int) > 0 then (if 0 < (x10.length : Int) then (if (rd x10 0) ≥ 5 then (some (wrap64 ((wrap64 ((wrap64 (x8 * x2)) + x11)) + 1), decide ((wrap64 ((wrap64 ((wrap64 (x8 * x2)) + x11)) + 1)) ≤ 68719476736))) else (some (wrap64 ((wrap64 (x8 * x2)) + x11), decide ((wrap64 ((wrap64 (x8 * x2)) + x11)) ≤ 68719476736)))) else (none)) else (some (wrap64 ((wrap64 (x8 * x2)) + x11), decide ((wrap64 ((wrap64 (x8 * x2)) + x11)) ≤ 68719476736))))
def number_scaled.l0 : Nat → List Int → Int → Int → Option (Int × Bool)
 | 0, _, _, _ => none
 | k + 1, x0, x1, x2 => if (x0.length : Int) > 0 then (if 0 < (x0.length : Int) then (if (rd x0 0) = 0 then (if 1 ≤ (x0.length : Int) then (number_scaled.l0 k (x0.drop 1) (wrap64 (x1 - 1)) x2) else (none)) else (number_scaled.j1 k x0 x1 x2)) else (none)) else (number_scaled.j1 k x0 x1 x2)
end
def number_scaled.f (k : Nat) (l0 : List Int) (a1 : Int) (a2 : Int) : Option (Int × Bool) := number_scaled.l0 k l0 a1 a2
theorem number_scaled.mono_l : ∀ k, (∀ y0 y1 y2, LeO (number_scaled.j1 k y0 y1 y2) (number_scaled.j1 (k + 1) y0 y1 y2)) ∧ (∀ y0 y1 y2 y3, LeO (number_scaled.j2 k y0 y1 y2 y3) (number_scaled.j2 (k + 1) y0 y1 y2 y3)) ∧ (∀ y0 y1 y2 y3 y4 y5, LeO (number_scaled.l1 k y0 y1 y2 y3 y4 y5) (number_scaled.l1 (k + 1) y0 y1 y2 y3 y4 y5)) ∧ (∀ y0 y1 y2 y3 y4 y5 y6, LeO (number_scaled.l2 k y0 y1 y2 y3 y4 y5 y6) (number_scaled.l2 (k + 1) y0 y1 y2 y3 y4 y5 y6)) ∧ (∀ y0 y1 y2 y3 y4, LeO (number_scaled.l3 k y0 y1 y2 y3 y4) (number_scaled.l3 (k + 1) y0 y1 y2 y3 y4)) ∧ (∀ y0 y1 y2, LeO (number_scaled.l0 k y0 y1 y2) (number_scaled.l0 (k + 1) y0 y1 y2))
 | 0 => ⟨fun _ _ _ r h => by simp [number_scaled.j1] at h, fun _ _ _ _ r h => by simp [number_scaled.j2] at h, fun _ _ _ _ _ _ r h => by simp [number_scaled.l1] at h, fun _ _ _ _ _ _ _ r h => by simp [number_scaled.l2] at h, fun _ _ _ _ _ r h => by simp [number_scaled.l3] at h, fun _ _ _ r h => by simp [number_scaled.l0] at h⟩
 | k + 1 => by
  obtain ⟨ih0, ih1, ih2, ih3, ih4, ih5⟩ := number_scaled.mono_l k; refine ⟨?_, ?_, ?_, ?_, ?_, ?_⟩
  ·intro y0 y1 y2; unfold number_scaled.j1; repeat' first
   | (with_reducible exact ih0 _ _ _)
   | (with_reducible exact ih1 _ _ _ _)
   | (with_reducible exact ih2 _ _ _ _ _ _)
   | (with_reducible exact ih3 _ _ _ _ _ _ _)
   | (with_reducible exact ih4 _ _ _ _ _)
   | (with_reducible exact ih5 _ _ _)
   | (with_reducible first | exact LeO.refl _ | exact LeO.none _ | refine LeO.ite ?_ ?_ | refine LeO.bind ?_ (fun _ => ?_))
  ·intro y0 y1 y2 y3; unfold number_scaled.j2; repeat' first
   | (with_reducible exact ih0 _ _ _)
   | (with_reducible exact ih1 _ _ _ _)
   | (with_reducible exact ih2 _ _ _ _ _ _)
   | (with_reducible exact ih3 _ _ _ _ _ _ _)
   | (with_reducible exact ih4 _ _ _ _ _)
   | (with_reducible exact ih5 _ _ _)
   | (with_reducible first | exact LeO.refl _ | exact LeO.none _ | refine LeO.ite ?_ ?_ | refine LeO.bind ?_ (fun _ => ?_))
  ·intro y0 y1 y2 y3 y4 y5; unfold number_scaled.l1; repeat' first
   | (with_reducible exact ih0 _ _ _)
   | (with_reducible exact ih1 _ _ _ _)
   | (with_reducible exact ih2 _ _ _ _ _ _)
   | (with_reducible exact ih3 _ _ _ _ _ _ _)
   | (with_reducible exact ih4 _ _ _ _ _)
   | (with_reducible exact ih5 _ _ _)
   | (with_reducible first | exact LeO.refl _ | exact LeO.none _ | refine LeO.ite ?_ ?_ | refine LeO.bind ?_ (fun _ => ?_))
  ·intro y0 y1 y2 y3 y4 y5 y6; unfold number_scaled.l2; repeat' first
   | (with_reducible exact ih0 _ _ _)
   | (with_reducible exact ih1 _ _ _ _)
   | (with_reducible exact ih2 _ _ _ _ _ _)
   | (with_reducible exact ih3 _ _ _ _ _ _ _)
   | (with_reducible exact ih4 _ _ _ _ _)
   | (with_reducible exact ih5 _ _ _)
   | (with_reducible first | exact LeO.refl _ | exact LeO.none _ | refine LeO.ite ?_ ?_ | refine LeO.bind ?_ (fun _ => ?_))
  ·intro y0 y1 y2 y3 y4; unfold number_scaled.l3; repeat' first
   | (with_reducible exact ih0 _ _ _)
   | (with_reducible exact ih1 _ _ _ _)
   | (with_reducible exact ih2 _ _ _ _ _ _)
   | (with_reducible exact ih3 _ _ _ _ _ _ _)
   | (with_reducible exact ih4 _ _ _ _ _)
   | (with_reducible exact ih5 _ _ _)
   | (with_reducible first | exact LeO.refl _ | exact LeO.none _ | refine LeO.ite ?_ ?_ | refine LeO.bind ?_ (fun _ => ?_))
  intro y0 y1 y2; unfold number_scaled.l0; repeat' first
  | (with_reducible exact ih0 _ _ _)
  | (with_reducible exact ih1 _ _ _ _)
  | (with_reducible exact ih2 _ _ _ _ _ _)
  | (with_reducible exact ih3 _ _ _ _ _ _ _)
  | (with_reducible exact ih4 _ _ _ _ _)
  | (with_reducible exact ih5 _ _ _)
  | (with_reducible first | exact LeO.refl _ | exact LeO.none _ | refine LeO.ite ?_ ?_ | refine LeO.bind ?_ (fun _ => ?_))
theorem number_scaled.mono : ∀ a0 a1 a2 k, LeO (number_scaled.f k a0 a1 a2) (number_scaled.f (k + 1) a0 a1 a2) := by
 intro a0 a1 a2 k; obtain ⟨ih0, ih1, ih2, ih3, ih4, ih5⟩ := number_scaled.mono_l k; unfold number_scaled.f; repeat' first
   | (with_reducible exact ih0 _ _ _)
   | (with_reducible exact ih1 _ _ _ _)
   | (with_reducible exact ih2 _ _ _ _ _ _)
   | (with_reducible exact ih3 _ _ _ _ _ _ _)
   | (with_reducible exact ih4 _ _ _ _ _)
   | (with_reducible exact ih5 _ _ _)
   | (with_reducible first | exact LeO.refl _ | exact LeO.none _ | refine LeO.ite ?_ ?_ | refine LeO.bind ?_ (fun _ => ?_))
set_option maxHeartbeats 8000000 in
theorem number_scaled.calls (k : Nat) (P0_ : Nat → Prop) (A0 : Option Addr) (c0 : Nat) (l0 : List Int) (a1 : Int) (a2 : Int) (r1 : Int) (r2 : Bool) (w : World) (hs0 : Kd.V (Kd.int .u8) 5 w w.heap.size (fun k_ => P0_ k_) (.slice A0 l0.length c0) l0) (h : number_scaled.f k l0 a1 a2 = some (r1, r2)) :
  Calls Tryd.prog 119 #[.slice A0 l0.length c0, .int .i64 a1, .int .i64 a2] w fun e w' => e = .returned (.tuple #[.int .i64 r1, .bool r2]) ∧ Below w.heap.size w w' := by
 have HO0 := am_ (show Kd.V (Kd.int .u8) 5 w w.heap.size (fun k_ => (P0_ k_ ∨ w.heap.size ≤ k_)) (.slice A0 l0.length c0) l0 from Kd.V_mono hs0 (fun k_ hk => .inl hk)); have HB := am_ (Below.refl w.heap.size w); have H : (number_scaled.l0 k l0 a1 a2) = some (r1, r2) := h; clear h; have HC4 := am_ H; clear H; go_enter Tryd.func119, Tryd.ntmps119
 go_upto_block 0 with (fail)
 go_cut [0, 1] (fun v0 v1 wc => ∃ (kq : Nat) (x0_3 : List Int) (x1_3 : Int), v1 = .int .i64 x1_3 ∧ Aside0 (number_scaled.j1 kq x0_3 x1_3 a2 = some (r1, r2)) ∧ Aside0 (kq ≤ k) ∧ Aside0 (Kd.V (Kd.int .u8) 5 wc w.heap.size (fun k_ => (P0_ k_ ∨ w.heap.size ≤ k_)) v0 x0_3) ∧ Aside0 (Below w.heap.size w wc))
 case first =>
  have H := HC4.out; clear HC4; have H' := am_ H; clear H; go_wp2; go_loopg [0, 1] k (fun kq v0 v1 w' => ∃ (x0_1 : List Int) (x1_1 : Int), v1 = .int .i64 x1_1 ∧ Aside0 (number_scaled.l0 kq x0_1 x1_1 a2 = some (r1, r2)) ∧ Aside0 (kq ≤ k) ∧ Aside0 (Kd.V (Kd.int .u8) 5 w' w.heap.size (fun k_ => (P0_ k_ ∨ w.heap.size ≤ k_)) v0 x0_1) ∧ Aside0 (Below w.heap.size w w'))
  case atStart => exact ⟨(l0), (a1), rfs_, H', ⟨Nat.le_refl _⟩, ⟨by (with_reducible repeat (first | apply Kd.V_alloc | apply Kd.V_drewN | apply Kd.V_drew)); exact HO0.out⟩, ⟨bel_⟩⟩
  case round =>
   clear H'; obtain ⟨x0_1, x1_1, rfl, HA, HK1, HO_0, HB⟩ := hrel
   cases gk with
   | zero => exact absurd HA.out (by simp [number_scaled.l0])
   | succ k1 =>
    have H := HA.out; clear HA; simp only [number_scaled.l0] at H; by_cases c5 : (x0_1.length : Int) > 0
    ·rw [if_pos c5] at H; have c5b0 : decide (0 < (x0_1.length : Int)) = true := dt_ c5; have c5b1 : decide (0 < x0_1.length) = true := dt_ (by omega); clear c5; (first | rw [c5b0] | (simp only [i64_w, i32_w]; rw [c5b0]) | skip)
     by_cases c6 : 0 < (x0_1.length : Int)
     ·rw [if_pos c6] at H; have c6b0 : decide (0 < (x0_1.length : Int)) = true := dt_ c6; have c6b1 : decide (0 < x0_1.length) = true := dt_ (by omega); clear c6; by_cases c7 : (rd x0_1 0) = 0
      ·rw [if_pos c7] at H; have c7b0 : ((rd x0_1 0) == 0) = true := beq_iff_eq.mpr c7; have c7b1 : ((rd x0_1 0) != 0) = false := bne_eq_false_iff_eq.mpr c7; clear c7; by_cases c8 : 1 ≤ (x0_1.length : Int)
       ·rw [if_pos c8] at H; have c8b0 := eq_true c8; have c8b1 : decide (1 ≤ (x0_1.length : Int)) = true := dt_ c8; clear c8; obtain ⟨y196, hy196⟩ : ∃ y_ : List Int, y_ = (x0_1.drop 1) := ⟨_, rfl⟩
        replace H : (number_scaled.l0 k1 y196 (wrap64 (x1_1 - 1)) a2) = some (r1, r2) := by first | (rw [hy196]; with_reducible exact H) | (have H2_ := (Option.bind_some _ _).symm.trans H; rw [hy196]; with_reducible exact H2_) | (have H2_ := (Option.bind_some _ _).symm.trans H; with_reducible exact H2_) | with_reducible exact H | (rw [hy196]; exact H) | exact H
        have Ny196 := am_ hy196; clear hy196; have H' := am_ H; clear H; obtain ⟨Ao9, co9, eo9⟩ := Kd.V_slice HO_0.out; subst eo9; have p195 : 0 ≤ (0 : Int) := (by omega)
        have q195 : 0 < (x0_1.length : Int) := od_ (by first | (with_reducible assumption) | assumption); obtain ⟨ad195, e195, hx195_0⟩ := Kd.at_int (Kd.V_reads' HO_0.out).2.2 0 p195 q195; cases e195
        have qi195 : (0 < x0_1.length) = True := eq_true (by omega); (try rw [show ((0 : Int)).toNat = 0 from rfl] at hx195_0)
        (try rw [Addr.add_zero'] at hx195_0)
        replace p195 := eq_true p195; replace q195 := eq_true q195; have q10 : (1 : Int) ≤ ((x0_1.length : Int) : Int) := od_ (by first | (with_reducible assumption) | assumption); obtain ⟨i010, hi010, _, hsz10, _⟩ := info_parts info5; have hroom10 : x0_1.length ≤ co9 := (Kd.V_reads' HO_0.out).2.1; have hC10 : Kd.F (Kd.int .u8) _ _ (some ad195) x0_1.length x0_1 := (Kd.V_at (base := w.heap.size) HO_0.out).2.2; have hcut10 := cut_from (P := Tryd.prog) 63 5 .i64 Tryd.underlying63 hi010 1 hsz10 (some ad195) x0_1.length co9 1 (by omega) q10; have hr10 := Kd.F_cut (m := (1 : Int).toNat) (c := co9) hC10 (by omega) hroom10; obtain ⟨A10, hA10⟩ : ∃ A1, A1 = (if co9 = (1 : Int).toNat then (some ad195) else ((some ad195) : Option Addr).map (·.add ((1 : Int).toNat * 1))) := ⟨_, rfl⟩
        obtain ⟨c10, hc10⟩ : ∃ c1, c1 = co9 - (1 : Int).toNat := ⟨_, rfl⟩
        have hy10 : y196.length = x0_1.length - (1 : Int).toNat := (by rw [Ny196.out, List.length_drop] <;> omega)
        rw [show (x0_1).drop (1 : Int).toNat = y196 from Ny196.out.symm] at hr10; replace hr10 : Kd.F (Kd.int .u8) _ _ A10 y196.length y196 := (by rw [hA10]; exact hr10)
        rw [← hy10, ← hA10, ← hc10] at hcut10; have HO200 := am_ (show Kd.V (Kd.int .u8) 5 _ w.heap.size _ (.slice A10 y196.length c10) y196 from Kd.V_mk (by rw [hy10, hc10]; exact Nat.sub_le_sub_right hroom10 _) hr10); have HC200 := am_ (show y196.length ≤ c10 from by rw [hy10, hc10]; exact Nat.sub_le_sub_right hroom10 _); clear hr10 hC10 hroom10 hi010 hsz10 hc10; have KY10 := am_ hy10; have KA10 := am_ hA10; clear hy10 hA10; replace q10 := eq_true q10; go_wp2; go_roundg k1
        case measure => have := HK1.out; omega
        case rel => exact ⟨(y196), (wrap64 (x1_1 - 1)), rfs_, H', ⟨by have := HK1.out; omega⟩, ⟨by (with_reducible repeat (first | apply Kd.V_alloc | apply Kd.V_drewN | apply Kd.V_drew)); exact HO200.out⟩, ⟨bel_⟩⟩
       rw [if_neg c8] at H; exact absurd H (by simp)
      rw [if_neg c7] at H; have c7b0 : ((rd x0_1 0) == 0) = false := beq_eq_false_iff_ne.mpr c7; have c7b1 : ((rd x0_1 0) != 0) = true := bne_iff_ne.mpr c7; have H' := am_ H; clear H; obtain ⟨Ao11, co11, eo11⟩ := Kd.V_slice HO_0.out; subst eo11; have p195 : 0 ≤ (0 : Int) := (by omega)
      have q195 : 0 < (x0_1.length : Int) := od_ (by first | (with_reducible assumption) | assumption); obtain ⟨ad195, e195, hx195_0⟩ := Kd.at_int (Kd.V_reads' HO_0.out).2.2 0 p195 q195; cases e195
      have qi195 : (0 < x0_1.length) = True := eq_true (by omega); (try rw [show ((0 : Int)).toNat = 0 from rfl] at hx195_0)
      (try rw [Addr.add_zero'] at hx195_0)
      replace p195 := eq_true p195; replace q195 := eq_true q195; go_wp2; go_meet
      case rel => exact ⟨_, (x0_1), (x1_1), rfs_, H', ⟨by have := HK1.out; first | omega | exact Nat.le_refl _⟩, ⟨by (with_reducible repeat (first | apply Kd.V_alloc | apply Kd.V_drewN | apply Kd.V_drew)); exact HO_0.out⟩, ⟨bel_⟩⟩
     rw [if_neg c6] at H; exact absurd H (by simp)
    rw [if_neg c5] at H; have c5b0 : decide (0 < (x0_1.length : Int)) = false := df_ c5; have c5b1 : decide (0 < x0_1.length) = false := df_ (by omega); clear c5; (first | rw [c5b0] | (simp only [i64_w, i32_w]; rw [c5b0]) | skip)
    have H' := am_ H; clear H; obtain ⟨Ao12, co12, eo12⟩ := Kd.V_slice HO_0.out; subst eo12; go_wp2; go_meet
    case rel => exact ⟨_, (x0_1), (x1_1), rfs_, H', ⟨by have := HK1.out; first | omega | exact Nat.le_refl _⟩, ⟨by (with_reducible repeat (first | apply Kd.V_alloc | apply Kd.V_drewN | apply Kd.V_drew)); exact HO_0.out⟩, ⟨bel_⟩⟩
 clear HC4; obtain ⟨kq, x0_3, x1_3, rfl, HA, HJ3, HO_0, HB⟩ := hcut
 cases kq with
 | zero => exact absurd HA.out (by simp [number_scaled.j1])
 | succ kj3 =>
  have H := HA.out; clear HA; simp only [number_scaled.j1] at H; have HC13 := am_ H; clear H; go_upto_region 4 with (fail)
  go_cut [28] (fun v28 wc => ∃ (kq : Nat) (x28_12 : Bool), v28 = .bool x28_12 ∧ Aside0 (number_scaled.j2 kq x0_3 x1_3 a2 x28_12 = some (r1, r2)) ∧ Aside0 (kq ≤ kj3) ∧ Aside0 (Kd.V (Kd.int .u8) 5 wc w.heap.size (fun k_ => (P0_ k_ ∨ w.heap.size ≤ k_)) u0 x0_3) ∧ Aside0 (Below w.heap.size w wc))
  case first =>
   have H := HC13.out; clear HC13; by_cases c14 : (x0_3.length : Int) = 0
   ·rw [if_pos c14] at H; have c14b0 : ((x0_3.length : Int) == 0) = true := beq_iff_eq.mpr c14; have c14b1 : ((x0_3.length : Int) != 0) = false := bne_eq_false_iff_eq.mpr c14; clear c14; (first | rw [c14b0] | (simp only [i64_w, i32_w]; rw [c14b0]) | skip)
    have H' := am_ H; clear H; obtain ⟨Ao15, co15, eo15⟩ := Kd.V_slice HO_0.out; subst eo15; go_wp2; go_meet
    case rel => exact ⟨_, (true), rfs_, H', ⟨by have := HJ3.out; first | omega | exact Nat.le_refl _⟩, ⟨by (with_reducible repeat (first | apply Kd.V_alloc | apply Kd.V_drewN | apply Kd.V_drew)); exact HO_0.out⟩, ⟨bel_⟩⟩
   rw [if_neg c14] at H; have c14b0 : ((x0_3.length : Int) == 0) = false := beq_eq_false_iff_ne.mpr c14; have c14b1 : ((x0_3.length : Int) != 0) = true := bne_iff_ne.mpr c14; have c14b2 : ¬ (x0_3 = []) := fun h_ => c14 (by rw [h_]; rfl)
   (first | rw [c14b0] | (simp only [i64_w, i32_w]; rw [c14b0]) | skip)
   have H' := am_ H; clear H; obtain ⟨Ao16, co16, eo16⟩ := Kd.V_slice HO_0.out; subst eo16; go_wp2; go_meet
   case rel => exact ⟨_, (decide (x1_3 < (-5))), rfs_, H', ⟨by have := HJ3.out; first | omega | exact Nat.le_refl _⟩, ⟨by (with_reducible repeat (first | apply Kd.V_alloc | apply Kd.V_drewN | apply Kd.V_drew)); exact HO_0.out⟩, ⟨bel_⟩⟩
  clear HC13; obtain ⟨kq, x28_12, rfl, HA, HJ12, HO_0, HB⟩ := hcut
  cases kq with
  | zero => exact absurd HA.out (by simp [number_scaled.j2])
  | succ kj12 =>
   have H := HA.out; clear HA; simp only [number_scaled.j2] at H; by_cases c17 : x28_12 = true
   ·subst c17; rw [if_pos rfl] at H; simp only [Option.some.injEq, Prod.mk.injEq] at H; obtain ⟨rfl, rfl⟩ := H; go_wp2; go_ret2
    exact ⟨rsl_, bel_⟩
   replace c17 := Bool.eq_false_iff.mpr c17; subst c17; rw [if_neg (show ¬ (false = true) by decide)] at H; by_cases c18 : x1_3 > 13
   ·rw [if_pos c18] at H; have c18b0 : decide (13 < x1_3) = true := dt_ c18; clear c18; simp only [Option.some.injEq, Prod.mk.injEq] at H; obtain ⟨rfl, rfl⟩ := H; go_wp2; go_ret2
    exact ⟨rsl_, bel_⟩
   rw [if_neg c18] at H; have c18b0 : decide (13 < x1_3) = false := df_ c18; clear c18; obtain ⟨ji19, hji19⟩ : ∃ j_ : Int, (mx 0 x1_3) = j_ := ⟨_, rfl⟩
   replace H : (number_scaled.l1 kj12 x0_3 x1_3 a2 0 ji19 0) = some (r1, r2) := by first | (rw [hji19] at H; exact H) | (simp only [hji19] at H ⊢; exact H)
   have hji19_ : (if 0 < x1_3 then x1_3 else 0) = ji19 := hji19; have H' := am_ H; clear H; go_wp2; go_loopg [8, 41] kj12 (fun kq v8 v41 w' => ∃ (x8_3 : Int) (x41_3 : Int), v8 = .int .i64 x8_3 ∧ v41 = .int .i64 x41_3 ∧ Aside0 (number_scaled.l1 kq x0_3 x1_3 a2 x8_3 ji19 x41_3 = some (r1, r2)) ∧ Aside0 (kq ≤ kj12) ∧ Aside0 (Kd.V (Kd.int .u8) 5 w' w.heap.size (fun k_ => (P0_ k_ ∨ w.heap.size ≤ k_)) u0 x0_3) ∧ Aside0 (Below w.heap.size w w'))
   case atStart => exact ⟨(0), (0), rfs_, rfs_, H', ⟨Nat.le_refl _⟩, ⟨by (with_reducible repeat (first | apply Kd.V_alloc | apply Kd.V_drewN | apply Kd.V_drew)); exact HO_0.out⟩, ⟨bel_⟩⟩
   case round =>
    clear H'; try clear c17
    try clear c18b0
    obtain ⟨x8_3, x41_3, rfl, rfl, HA, HK3, HO_0, HB⟩ := hrel
    cases gk with
    | zero => exact absurd HA.out (by simp [number_scaled.l1])
    | succ k3 =>
     have H := HA.out; clear HA; simp only [number_scaled.l1] at H; by_cases c20 : x41_3 < ji19
     ·rw [if_pos c20] at H; have c20b0 : decide (x41_3 < ji19) = true := dt_ c20; clear c20; by_cases c21 : x41_3 < (x0_3.length : Int)
      ·rw [if_pos c21] at H; have c21b0 : decide (x41_3 < (x0_3.length : Int)) = true := dt_ c21; clear c21; by_cases c22 : 0 ≤ x41_3
       ·rw [if_pos c22] at H; have c22b0 : decide (0 ≤ x41_3) = true := dt_ c22; clear c22; have H' := am_ H; clear H; obtain ⟨Ao23, co23, eo23⟩ := Kd.V_slice HO_0.out; subst eo23; have p201 : 0 ≤ (x41_3 : Int) := od_ (by first | (with_reducible assumption) | assumption); have q201 : x41_3 < (x0_3.length : Int) := od_ (by first | (with_reducible assumption) | assumption); obtain ⟨ad201, e201, hx201_0⟩ := Kd.at_int (Kd.V_reads' HO_0.out).2.2 x41_3 p201 q201; cases e201
        replace p201 := eq_true p201; replace q201 := eq_true q201; go_wp2; go_roundg k3
        case measure => have := HJ3.out; have := HJ12.out; have := HK3.out; omega
        case rel => exact ⟨(wrap64 ((wrap64 (x8_3 * 10)) + (wrap64 (rd x0_3 x41_3)))), (wrap64 (x41_3 + 1)), rfs_, rfs_, H', ⟨by have := HJ3.out; have := HJ12.out; have := HK3.out; omega⟩, ⟨by (with_reducible repeat (first | apply Kd.V_alloc | apply Kd.V_drewN | apply Kd.V_drew)); exact HO_0.out⟩, ⟨bel_⟩⟩
       rw [if_neg c22] at H; exact absurd H (by simp)
      rw [if_neg c21] at H; have c21b0 : decide (x41_3 < (x0_3.length : Int)) = false := df_ c21; clear c21; have H' := am_ H; clear H; obtain ⟨Ao24, co24, eo24⟩ := Kd.V_slice HO_0.out; subst eo24; go_wp2; go_roundg k3
      case measure => have := HJ3.out; have := HJ12.out; have := HK3.out; omega
      case rel => exact ⟨(wrap64 (x8_3 * 10)), (wrap64 (x41_3 + 1)), rfs_, rfs_, H', ⟨by have := HJ3.out; have := HJ12.out; have := HK3.out; omega⟩, ⟨by (with_reducible repeat (first | apply Kd.V_alloc | apply Kd.V_drewN | apply Kd.V_drew)); exact HO_0.out⟩, ⟨bel_⟩⟩
     rw [if_neg c20] at H; have c20b0 : decide (x41_3 < ji19) = false := df_ c20; clear c20; obtain ⟨ji25, hji25⟩ : ∃ j_ : Int, (mx 0 (wrap64 (-x1_3))) = j_ := ⟨_, rfl⟩
     replace H : (number_scaled.l2 k3 x0_3 x1_3 a2 x8_3 ([] : List Int) ji25 0) = some (r1, r2) := by first | (rw [hji25] at H; exact H) | (simp only [hji25] at H ⊢; exact H)
     have hji25_ : (if 0 < (wrap64 (-x1_3)) then (wrap64 (-x1_3)) else 0) = ji25 := hji25; have H' := am_ H; clear H; go_wp2; go_loopg [10, 61] k3 (fun kq v10 v61 w' => ∃ (x10_4 : List Int) (x61_4 : Int), v61 = .int .i64 x61_4 ∧ Aside0 (number_scaled.l2 kq x0_3 x1_3 a2 x8_3 x10_4 ji25 x61_4 = some (r1, r2)) ∧ Aside0 (kq ≤ k3) ∧ Aside0 (Kd.V (Kd.int .u8) 5 w' w.heap.size (fun k_ => (P0_ k_ ∨ w.heap.size ≤ k_) ∧ some k_ ≠ (v10 : Value).ownBlock) u0 x0_3) ∧ Aside0 (Kd.R (Kd.int .u8) 5 w' w.heap.size (fun k_ => (w.heap.size ≤ k_)) v10 x10_4) ∧ Aside0 (Below w.heap.size w w'))
     case atStart => exact ⟨(([] : List Int)), (0), rfs_, H', ⟨Nat.le_refl _⟩, ⟨by (with_reducible repeat (first | apply Kd.V_alloc | apply Kd.V_drewN | apply Kd.V_drew)); exact Kd.V_mono HO_0.out (fun _ hk => ⟨hk, (by simp [Value.ownBlock])⟩)⟩, ⟨by first | exact Kd.R_nil _ _ _ _ _ | exact Kd.N_nil _ _ _ _ _ | exact Kd.V_nil _ _ _ _ _ | exact Kd.Q_nil _ _ _ _ _ | exact Kd.S_nil _ _ _ _ _⟩, ⟨bel_⟩⟩
     case round =>
      clear H'; try clear c20b0
      obtain ⟨x10_4, x61_4, rfl, HA, HK4, HO_0, HO_10, HB⟩ := hrel
      cases gk with
      | zero => exact absurd HA.out (by simp [number_scaled.l2])
      | succ k4 =>
       have H := HA.out; clear HA; simp only [number_scaled.l2] at H; by_cases c26 : x61_4 < ji25
       ·rw [if_pos c26] at H; have c26b0 : decide (x61_4 < ji25) = true := dt_ c26; clear c26; by_cases c27 : x10_4.length < 140737488355328
        ·rw [if_pos c27] at H; have LMc27 := am_ c27; clear c27; obtain ⟨y202, hy202⟩ : ∃ y_ : List Int, y_ = (x10_4 ++ [0]) := ⟨_, rfl⟩
         replace H : (number_scaled.l2 k4 x0_3 x1_3 a2 x8_3 y202 ji25 (wrap64 (x61_4 + 1))) = some (r1, r2) := by first | (rw [hy202]; with_reducible exact H) | (have H2_ := (Option.bind_some _ _).symm.trans H; rw [hy202]; with_reducible exact H2_) | (have H2_ := (Option.bind_some _ _).symm.trans H; with_reducible exact H2_) | with_reducible exact H | (rw [hy202]; exact H) | exact H
         have Ny202 := am_ hy202; clear hy202; have H' := am_ H; clear H; go_wp2_with (first | ((with_reducible refine gate_builtin (b := .append) (xs := #[.tmp 63, .tmp 64]) rfl ?_); at_builtin; refine Kd.R_append (Kd.int .u8) (w0 := w) w.heap.size rfl (.tmp 63) (.tmp 64) 63 5 (.int .u8 0) 1 rfl Tryd.underlying63 info5 rfl (by decide) (by omega) u10 x10_4 0 [.int .u8 0] (fun k_ => (w.heap.size ≤ k_)) (fun _ => False) rfl rfl ?aP (fun _ hk => hk.elim) ?aF ?aO ?aB ?aS ?aL ?_; (case aP => exact rfl); (case aB => exact bel_); (case aF => exact (fun k_ hk => (Nat.le_trans (below_size bel_) hk))); (case aO => exact (row_ HO_10)); (case aS => exact (below_size bel_)); (case aL => have := LMc27.out; omega); intro v203 w28 ho hb hg hat; rw [← Ny202.out] at ho; have n0_ := am_ (Kd.V_afterv (ok := (fun k_ => (P0_ k_ ∨ w.heap.size ≤ k_))) (by (with_reducible repeat (first | apply Kd.V_alloc | apply Kd.V_drewN | apply Kd.V_drew)); exact HO_0.out) hg hat); have n1_ := am_ (hb); have n2_ := am_ (ho); clear HO_0; clear HB; clear HO_10; have HO_0 := n0_; have HB := n1_; have HO204 := n2_; clear n0_ n1_ n2_; clear ho hb hg hat))
         go_roundg k4
         case measure => have := HJ3.out; have := HJ12.out; have := HK3.out; have := HK4.out; omega
         case rel => exact ⟨(y202), (wrap64 (x61_4 + 1)), rfs_, H', ⟨by have := HJ3.out; have := HJ12.out; have := HK3.out; have := HK4.out; omega⟩, ⟨by (with_reducible repeat (first | apply Kd.V_alloc | apply Kd.V_drewN | apply Kd.V_drew)); exact HO_0.out⟩, ⟨by (with_reducible repeat (first | apply Kd.R_alloc | apply Kd.R_drewN | apply Kd.R_drew)); exact HO204.out⟩, ⟨bel_⟩⟩
        rw [if_neg c27] at H; exact absurd H (by simp)
       rw [if_neg c26] at H; have c26b0 : decide (x61_4 < ji25) = false := df_ c26; clear c26; obtain ⟨ji29, hji29⟩ : ∃ j_ : Int, (mx 0 x1_3) = j_ := ⟨_, rfl⟩
       replace H : (if 0 ≤ (mn (x0_3.length : Int) (ji29)) then (if (mn (x0_3.length : Int) (ji29)) ≤ (x0_3.length : Int) then ((some (x0_3.drop ((mn (x0_3.length : Int) (ji29)) : Int).toNat : List Int)).bind fun y205 => (if x10_4.length + y205.length < 140737488355328 then ((some (x10_4 ++ y205 : List Int)).bind fun y210 => (number_scaled.l3 k4 a2 x8_3 y210 0 (wrap64 ((y210.length : Int) - 1)))) else (none))) else (none)) else (none)) = some (r1, r2) := by first | (rw [hji29] at H; exact H) | (simp only [hji29] at H ⊢; exact H)
       have hji29_ : (if 0 < x1_3 then x1_3 else 0) = ji29 := hji29; have ji19_ji29_ : ji19 = ji29 := hji19_.symm.trans hji29_; obtain ⟨ji30, hji30⟩ : ∃ j_ : Int, (mn (x0_3.length : Int) (ji29)) = j_ := ⟨_, rfl⟩
       replace H : (if 0 ≤ (ji30) then (if (ji30) ≤ (x0_3.length : Int) then ((some (x0_3.drop ((ji30) : Int).toNat : List Int)).bind fun y205 => (if x10_4.length + y205.length < 140737488355328 then ((some (x10_4 ++ y205 : List Int)).bind fun y210 => (number_scaled.l3 k4 a2 x8_3 y210 0 (wrap64 ((y210.length : Int) - 1)))) else (none))) else (none)) else (none)) = some (r1, r2) := by first | (rw [hji30] at H; exact H) | (simp only [hji30] at H ⊢; exact H)
       have hji30_ : (if (ji29) < (x0_3.length : Int) then (ji29) else (x0_3.length : Int)) = ji30 := hji30; by_cases c31 : 0 ≤ (ji30)
       ·rw [if_pos c31] at H; have c31b0 := eq_true c31; have c31b1 : decide (0 ≤ (ji30)) = true := dt_ c31; clear c31; by_cases c32 : (ji30) ≤ (x0_3.length : Int)
        ·rw [if_pos c32] at H; have c32b0 := eq_true c32; have c32b1 : decide ((ji30) ≤ (x0_3.length : Int)) = true := dt_ c32; clear c32; obtain ⟨y205, hy205⟩ : ∃ y_ : List Int, y_ = (x0_3.drop ((ji30) : Int).toNat) := ⟨_, rfl⟩
         replace H : (if x10_4.length + y205.length < 140737488355328 then ((some (x10_4 ++ y205 : List Int)).bind fun y210 => (number_scaled.l3 k4 a2 x8_3 y210 0 (wrap64 ((y210.length : Int) - 1)))) else (none)) = some (r1, r2) := by first | (rw [hy205]; with_reducible exact H) | (have H2_ := (Option.bind_some _ _).symm.trans H; rw [hy205]; with_reducible exact H2_) | (have H2_ := (Option.bind_some _ _).symm.trans H; with_reducible exact H2_) | with_reducible exact H | (rw [hy205]; exact H) | exact H
         have Ny205 := am_ hy205; clear hy205; by_cases c33 : x10_4.length + y205.length < 140737488355328
         ·rw [if_pos c33] at H; have LMc33 := am_ c33; clear c33; obtain ⟨y210, hy210⟩ : ∃ y_ : List Int, y_ = (x10_4 ++ y205) := ⟨_, rfl⟩
          replace H : (number_scaled.l3 k4 a2 x8_3 y210 0 (wrap64 ((y210.length : Int) - 1))) = some (r1, r2) := by first | (rw [hy210]; with_reducible exact H) | (have H2_ := (Option.bind_some _ _).symm.trans H; rw [hy210]; with_reducible exact H2_) | (have H2_ := (Option.bind_some _ _).symm.trans H; with_reducible exact H2_) | with_reducible exact H | (rw [hy210]; exact H) | exact H
          have Ny210 := am_ hy210; clear hy210; have H' := am_ H; clear H; obtain ⟨Ao34, co34, eo34⟩ := Kd.V_slice HO_0.out; subst eo34; have q35 : ((ji30) : Int) ≤ ((x0_3.length : Int) : Int) := od_ (by first | (with_reducible assumption) | assumption); obtain ⟨i035, hi035, _, hsz35, _⟩ := info_parts info5; have hroom35 : x0_3.length ≤ co34 := (Kd.V_reads' HO_0.out).2.1; have hC35 : Kd.F (Kd.int .u8) _ _ Ao34 x0_3.length x0_3 := (Kd.V_at (base := w.heap.size) HO_0.out).2.2; have q035 : (0 : Int) ≤ ((ji30) : Int) := od_ (by first | (with_reducible assumption) | assumption); have hcut35 := cut_from (P := Tryd.prog) 63 5 .i64 Tryd.underlying63 hi035 1 hsz35 Ao34 x0_3.length co34 (ji30) q035 q35; have hr35 := Kd.F_cut (m := ((ji30) : Int).toNat) (c := co34) hC35 (by omega) hroom35; obtain ⟨A35, hA35⟩ : ∃ A1, A1 = (if co34 = ((ji30) : Int).toNat then Ao34 else (Ao34 : Option Addr).map (·.add (((ji30) : Int).toNat * 1))) := ⟨_, rfl⟩
          obtain ⟨c35, hc35⟩ : ∃ c1, c1 = co34 - ((ji30) : Int).toNat := ⟨_, rfl⟩
          have hy35 : y205.length = x0_3.length - ((ji30) : Int).toNat := (by rw [Ny205.out, List.length_drop] <;> omega)
          rw [show (x0_3).drop ((ji30) : Int).toNat = y205 from Ny205.out.symm] at hr35; replace hr35 : Kd.F (Kd.int .u8) _ _ A35 y205.length y205 := (by rw [hA35]; exact hr35)
          rw [← hy35, ← hA35, ← hc35] at hcut35; have HO209 := am_ (show Kd.V (Kd.int .u8) 5 _ w.heap.size _ (.slice A35 y205.length c35) y205 from Kd.V_mk (by rw [hy35, hc35]; exact Nat.sub_le_sub_right hroom35 _) hr35); have HC209 := am_ (show y205.length ≤ c35 from by rw [hy35, hc35]; exact Nat.sub_le_sub_right hroom35 _); clear hr35 hC35 hroom35 hi035 hsz35 hc35; have KY35 := am_ hy35; have KA35 := am_ hA35; clear hy35 hA35; replace q35 := eq_true q35; go_wp2_with (first | ((with_reducible refine gate_builtin (b := .append) (xs := #[.tmp 67, .tmp 74]) rfl ?_); at_builtin; refine Kd.R_append_rows (Kd.int .u8) (w0 := w) w.heap.size rfl (.tmp 67) (.tmp 74) 63 5 (.int .u8 0) 1 rfl Tryd.underlying63 info5 rfl (by decide) (by omega) u10 x10_4 y205 _ _ _ (fun k_ => (w.heap.size ≤ k_)) (fun _ => False) rfl rfl ?aO ?aR (fun _ _ h => h) (fun _ h => h.elim) ?aF ?aB ?aS ?aL ?_; (case aR => repeat (first | exact (Kd.V_reads' HO209.out).2.2 | (with_reducible refine Kd.C_alloc ?_ _) | (with_reducible refine Kd.C_drewN ?_ _) | (with_reducible refine Kd.C_drew ?_))); (case aB => exact bel_); (case aF => exact (fun k_ hk => (Nat.le_trans (below_size bel_) hk))); (case aO => exact (row_ HO_10)); (case aS => exact (below_size bel_)); (case aL => have := LMc33.out; omega); intro v211 w36 ho hb hg hat; rw [← Ny210.out] at ho; have n0_ := am_ (Kd.V_afterv (ok := (fun k_ => (P0_ k_ ∨ w.heap.size ≤ k_))) (by (with_reducible repeat (first | apply Kd.V_alloc | apply Kd.V_drewN | apply Kd.V_drew)); exact HO_0.out) hg hat); have n1_ := am_ (Kd.V_afterv (ok := (fun k_ => (P0_ k_ ∨ w.heap.size ≤ k_))) (by (with_reducible repeat (first | apply Kd.V_alloc | apply Kd.V_drewN | apply Kd.V_drew)); exact HO209.out) hg hat); have n2_ := am_ (hb); have n3_ := am_ (ho); clear HO_0; clear HO209; clear HB; clear HO_10; have HO_0 := n0_; have HO209 := n1_; have HB := n2_; have HO212 := n3_; clear n0_ n1_ n2_ n3_; clear ho hb hg hat; obtain ⟨Ao37, co37, eo37⟩ := Kd.R_slice HO212.out; subst eo37))
          go_loopg [11, 12] k4 (fun kq v11 v12 w' => ∃ (x10_5 : List Int) (x11_5 : Int) (x12_5 : Int), v11 = .int .i64 x11_5 ∧ v12 = .int .i64 x12_5 ∧ Aside0 (number_scaled.l3 kq a2 x8_3 x10_5 x11_5 x12_5 = some (r1, r2)) ∧ Aside0 (kq ≤ k4) ∧ Aside0 (Kd.R (Kd.int .u8) 5 w' w.heap.size (fun k_ => (w.heap.size ≤ k_)) (.slice Ao37 y210.length co37) x10_5) ∧ Aside0 (Below w.heap.size w w'))
          case atStart => exact ⟨(y210), (0), (wrap64 ((y210.length : Int) - 1)), rfs_, rfs_, H', ⟨Nat.le_refl _⟩, ⟨by (with_reducible repeat (first | apply Kd.R_alloc | apply Kd.R_drewN | apply Kd.R_drew)); exact HO212.out⟩, ⟨bel_⟩⟩
          case round =>
           clear H'; try clear c1
           try clear c26b0
           try clear c31b0
           try clear c31b1
           try clear c32b0
           try clear c32b1
           try clear c35
           try clear q35
           try clear q035
           obtain ⟨x10_5, x11_5, x12_5, rfl, rfl, HA, HK5, HO_10, HB⟩ := hrel; have hl10_5 := (Kd.R_reads' HO_10.out).1; rw [hl10_5] at HO_10; (try simp only [hl10_5])
           cases gk with
           | zero => exact absurd HA.out (by simp [number_scaled.l3])
           | succ k5 =>
            have H := HA.out; clear HA; simp only [number_scaled.l3] at H; by_cases c38 : x12_5 ≥ 0
            ·rw [if_pos c38] at H; have c38b0 : decide (0 ≤ x12_5) = true := dt_ c38; clear c38; by_cases c39 : 0 ≤ x12_5
             ·rw [if_pos c39] at H; have c39b0 : decide (0 ≤ x12_5) = true := dt_ c39; clear c39; by_cases c40 : x12_5 < (x10_5.length : Int)
              ·rw [if_pos c40] at H; have c40b0 : decide (x12_5 < (x10_5.length : Int)) = true := dt_ c40; have c40b9 := c40b0; try rw [hl10_5] at c40b9
               clear c40; obtain ⟨y214, hy214⟩ : ∃ y_ : List Int, y_ = (x10_5.set (x12_5 : Int).toNat ((Int.tmod (wrap64 ((wrap64 ((wrap64 (rd x10_5 x12_5)) * a2)) + x11_5)) 10) % 256)) := ⟨_, rfl⟩
               replace H : (number_scaled.l3 k5 a2 x8_3 y214 (wrap64 (Int.tdiv (wrap64 ((wrap64 ((wrap64 (rd x10_5 x12_5)) * a2)) + x11_5)) 10)) (wrap64 (x12_5 - 1))) = some (r1, r2) := by first | (rw [hy214]; with_reducible exact H) | (have H2_ := (Option.bind_some _ _).symm.trans H; rw [hy214]; with_reducible exact H2_) | (have H2_ := (Option.bind_some _ _).symm.trans H; with_reducible exact H2_) | with_reducible exact H | (rw [hy214]; exact H) | exact H
               have Ny214 := am_ hy214; clear hy214; have H' := am_ H; clear H; have p213 : 0 ≤ (x12_5 : Int) := od_ (by first | (with_reducible assumption) | assumption); have q213 : x12_5 < (x10_5.length : Int) := od_ (by first | (with_reducible assumption) | assumption); obtain ⟨ad213, e213, hx213_0⟩ := Kd.at_int (Kd.R_reads' HO_10.out).2.2 x12_5 p213 q213; cases e213
               replace p213 := eq_true p213; replace q213 := eq_true q213; have p41 : 0 ≤ (x12_5 : Int) := od_ (by first | (with_reducible assumption) | assumption); have q41 : (x12_5 : Int) < ((x10_5.length : Int) : Int) := od_ (by first | (with_reducible assumption) | assumption); obtain ⟨go41, co41, eo41, gb41, gl41, cl41, HG41⟩ := Kd.R_form HO_10.out (by omega); (first | cases eo41 | (injection eo41 with ea_ en_ ec_; (first | subst ea_ | (injection ea_ with ea_; subst ea_)); subst ec_; clear en_))
               have GB41 := am_ gb41; have GG41 := am_ HG41; clear gb41 gl41 HG41; (first | simp only [add_plain] at hx213_0 | skip)
               obtain ⟨hx41_0, hf41_0⟩ := Kd.R_celln 0 HO_10.out (x12_5 : Int) p41 q41; replace p41 := eq_true p41; replace q41 := eq_true q41; have HP42 := Kd.R_putg HO_10.out (x12_5 : Int) ((Int.tmod (wrap64 ((wrap64 ((wrap64 (rd x10_5 x12_5)) * a2)) + x11_5)) 10) % 256); go_wp2_with (first | ((with_reducible refine gate_store (t := 5) (p := 99) rfl ?_); refine store_event (t := 5) (p := 99) (v := ?vo_w43) (w1 := (wr.setCell ⟨go41, (x12_5 : Int).toNat, none⟩ (.int .u8 ((Int.tmod (wrap64 ((wrap64 ((wrap64 (rd x10_5 x12_5)) * a2)) + x11_5)) 10) % 256)))) ?hg ?ho ?hn ?hr ?_; (case ho => rfl); (case hg => rfl); (case hn => rfl); (case hr => first | (go_simp; done) | (go_simp; rfl)); intro w43 hw; have hg : wr.grownBy w43 (some go41) := (by rw [hw]; exact HP42.2); have hp_ : Kd.R (Kd.int .u8) 5 w43 w.heap.size (fun k_ => (w.heap.size ≤ k_)) (.slice (some ⟨go41, 0, none⟩) x10_5.length co37) y214 := (by rw [hw, Ny214.out]; exact HP42.1); clear HP42; replace HO_10 := am_ (hp_); replace HB := am_ ((by rw [hw]; exact below_set (HB.out) GB41.out : Below w.heap.size w w43)); clear hg hw hp_))
               (try simp only [← hl10_5])
               go_roundg k5
               case measure => have := HJ3.out; have := HJ12.out; have := HK3.out; have := HK4.out; have := HK5.out; omega
               case rel => exact ⟨(y214), (wrap64 (Int.tdiv (wrap64 ((wrap64 ((wrap64 (rd x10_5 x12_5)) * a2)) + x11_5)) 10)), (wrap64 (x12_5 - 1)), rfs_, rfs_, H', ⟨by have := HJ3.out; have := HJ12.out; have := HK3.out; have := HK4.out; have := HK5.out; omega⟩, ⟨by (try simp only [hl10_5]); (with_reducible repeat (first | apply Kd.R_alloc | apply Kd.R_drewN | apply Kd.R_drew)); exact HO_10.out⟩, ⟨bel_⟩⟩
              rw [if_neg c40] at H; exact absurd H (by simp)
             rw [if_neg c39] at H; exact absurd H (by simp)
            rw [if_neg c38] at H; have c38b0 : decide (0 ≤ x12_5) = false := df_ c38; clear c38; by_cases c44 : (x10_5.length : Int) > 0
            ·rw [if_pos c44] at H; have c44b0 : decide (0 < (x10_5.length : Int)) = true := dt_ c44; have c44b9 := c44b0; try rw [hl10_5] at c44b9
             have c44b1 : decide (0 < x10_5.length) = true := dt_ (by omega); clear c44; by_cases c45 : 0 < (x10_5.length : Int)
             ·rw [if_pos c45] at H; have c45b0 : decide (0 < (x10_5.length : Int)) = true := dt_ c45; have c45b9 := c45b0; try rw [hl10_5] at c45b9
              have c45b1 : decide (0 < x10_5.length) = true := dt_ (by omega); clear c45; by_cases c46 : (rd x10_5 0) ≥ 5
              ·rw [if_pos c46] at H; have c46b0 : decide (5 ≤ (rd x10_5 0)) = true := dt_ c46; clear c46; simp only [Option.some.injEq, Prod.mk.injEq] at H; obtain ⟨rfl, rfl⟩ := H; have p215 : 0 ≤ (0 : Int) := (by omega)
               have q215 : 0 < (x10_5.length : Int) := od_ (by first | (with_reducible assumption) | assumption); obtain ⟨ad215, e215, hx215_0⟩ := Kd.at_int (Kd.R_reads' HO_10.out).2.2 0 p215 q215; cases e215
               have qi215 : (0 < x10_5.length) = True := eq_true (by omega); (try rw [show ((0 : Int)).toNat = 0 from rfl] at hx215_0)
               (try rw [Addr.add_zero'] at hx215_0)
               replace p215 := eq_true p215; replace q215 := eq_true q215; go_wp2; go_ret2
               exact ⟨by first | rfl | (simp [errW_none, errW_some] <;> rfl) | (simp only [← hji19, ← hji25, ← hji29, ← hji30]; first | rfl | (simp [errW_none, errW_some] <;> rfl)) | (simp [*, errW_none, errW_some] <;> rfl), bel_⟩
              rw [if_neg c46] at H; have c46b0 : decide (5 ≤ (rd x10_5 0)) = false := df_ c46; clear c46; simp only [Option.some.injEq, Prod.mk.injEq] at H; obtain ⟨rfl, rfl⟩ := H; have p215 : 0 ≤ (0 : Int) := (by omega)
              have q215 : 0 < (x10_5.length : Int) := od_ (by first | (with_reducible assumption) | assumption); obtain ⟨ad215, e215, hx215_0⟩ := Kd.at_int (Kd.R_reads' HO_10.out).2.2 0 p215 q215; cases e215
              have qi215 : (0 < x10_5.length) = True := eq_true (by omega); (try rw [show ((0 : Int)).toNat = 0 from rfl] at hx215_0)
              (try rw [Addr.add_zero'] at hx215_0)
              replace p215 := eq_true p215; replace q215 := eq_true q215; go_wp2; go_ret2
              exact ⟨by first | rfl | (simp [errW_none, errW_some] <;> rfl) | (simp only [← hji19, ← hji25, ← hji29, ← hji30]; first | rfl | (simp [errW_none, errW_some] <;> rfl)) | (simp [*, errW_none, errW_some] <;> rfl), bel_⟩
             rw [if_neg c45] at H; exact absurd H (by simp)
            rw [if_neg c44] at H; have c44b0 : decide (0 < (x10_5.length : Int)) = false := df_ c44; have c44b9 := c44b0; try rw [hl10_5] at c44b9
            have c44b1 : decide (0 < x10_5.length) = false := df_ (by omega); clear c44; simp only [Option.some.injEq, Prod.mk.injEq] at H; obtain ⟨rfl, rfl⟩ := H; go_wp2; go_ret2
            exact ⟨by first | rfl | (simp [errW_none, errW_some] <;> rfl) | (simp only [← hji19, ← hji25, ← hji29, ← hji30]; first | rfl | (simp [errW_none, errW_some] <;> rfl)) | (simp [*, errW_none, errW_some] <;> rfl), bel_⟩
         rw [if_neg c33] at H; exact absurd H (by simp)
        rw [if_neg c32] at H; exact absurd H (by simp)
       rw [if_neg c31] at H; exact absurd H (by simp)


/-! ### number_text_exponent: function 120 -/
def number_text_exponent.l0 : Nat → Int → Int → Int → Bool → ByteArray → ByteArray → ByteArray → Int → Option (Int)
 | 0, _, _, _, _, _, _, _, _ => none
 | k + 1, x3, x7, x8, x217000, x217001, x217002, x217003, x217004 => if x8 < x7 then (if 0 ≤ x8 then (if x8 < (x217003.size : Int) then ((number_digit.f (bt x217003 x8)).bind fun t217 => (if t217 = true then (number_text_exponent.l0 k (mn 1000 (wrap64 ((wrap64 (10 * x3)) + (((bt x217003 x8) - 48) % 256)))) x7 (wrap64 (x8 + 1)) x217000 x217001 x217002 x217003 x217004) else (number_text_exponent.l0 k x3 x7 (wrap64 (x8 + 1)) x217000 x217001 x217002 x217003 x217004))) else (none)) else (none)) else (if x217003.toList = ([] : List UInt8) then (some x3) else (if 0 < (x217003.size : Int) then (if (bt x217003 0) = 45 then (some (wrap64 (-x3))) else (some x3)) else (none)))
def number_text_exponent.f (k : Nat) (a0_0 : Bool) (a0_1 : ByteArray) (a0_2 : ByteArray) (a0_3 : ByteArray) (a0_4 : Int) : Option (Int) := number_text_exponent.l0 k 0 (a0_3.size : Int) 0 a0_0 a0_1 a0_2 a0_3 a0_4
theorem number_text_exponent.mono_l : ∀ k, (∀ y0 y1 y2 y3 y4 y5 y6 y7, LeO (number_text_exponent.l0 k y0 y1 y2 y3 y4 y5 y6 y7) (number_text_exponent.l0 (k + 1) y0 y1 y2 y3 y4 y5 y6 y7))
 | 0 => fun _ _ _ _ _ _ _ _ r h => by simp [number_text_exponent.l0] at h
 | k + 1 => by
  have ih0 := number_text_exponent.mono_l k; intro y0 y1 y2 y3 y4 y5 y6 y7; unfold number_text_exponent.l0; repeat' first
  | (with_reducible exact ih0 _ _ _ _ _ _ _ _)
  | (with_reducible first | exact LeO.refl _ | exact LeO.none _ | refine LeO.ite ?_ ?_ | refine LeO.bind ?_ (fun _ => ?_))
theorem number_text_exponent.mono : ∀ a0 a1 a2 a3 a4 k, LeO (number_text_exponent.f k a0 a1 a2 a3 a4) (number_text_exponent.f (k + 1) a0 a1 a2 a3 a4) := by
 intro a0 a1 a2 a3 a4 k; have ih0 := number_text_exponent.mono_l k; unfold number_text_exponent.f; repeat' first
   | (with_reducible exact ih0 _ _ _ _ _ _ _ _)
   | (with_reducible first | exact LeO.refl _ | exact LeO.none _ | refine LeO.ite ?_ ?_ | refine LeO.bind ?_ (fun _ => ?_))
set_option maxHeartbeats 8000000 in
theorem number_text_exponent.calls (k : Nat) (a0_0 : Bool) (a0_1 : ByteArray) (a0_2 : ByteArray) (a0_3 : ByteArray) (a0_4 : Int) (r : Int) (w : World) (h : number_text_exponent.f k a0_0 a0_1 a0_2 a0_3 a0_4 = some r) :
  Calls Tryd.prog 120 #[.agg #[.bool a0_0, .string a0_1, .string a0_2, .string a0_3, .int .i64 a0_4]] w fun e w' => e = .returned (.int .i64 r) ∧ Below w.heap.size w w' := by
 have hu133 := Tryd.underlying133; have HB := am_ (Below.refl w.heap.size w); have H : (number_text_exponent.l0 k 0 (a0_3.size : Int) 0 a0_0 a0_1 a0_2 a0_3 a0_4) = some r := h; clear h; have H' := am_ H; clear H; go_enter Tryd.func120, Tryd.ntmps120
 go_wp2_with (first | ((with_reducible refine gate_dst (N := 1) rfl ?_); refine box_event ?hg (N := 1) ?hd (cs := #[.bool a0_0, .string a0_1, .string a0_2, .string a0_3, .int .i64 a0_4]) (t := 133) ?hr ?_; (case hd => rfl); (case hg => rfl); (case hr => first | (go_simp; done) | (go_simp; rfl)); intro gb216 hg w2 hbox hb; have BK216 := am_ (hbox); have GW216 := am_ ((bsz_ hg : w.heap.size ≤ gb216)); have GE216 := am_ ((bsz_ hg : w.heap.size ≤ gb216)); replace HB := am_ (below_step bel_ hb); clear hb hbox hg; obtain ⟨hcz3_0, hcz3_1, hcz3_2, hcz3_3, hcz3_4⟩ := c5_ BK216; obtain ⟨hfz3_0, hfz3_1, hfz3_2, hfz3_3, hfz3_4⟩ := f5_ BK216))
 go_loopg [3, 8] k (fun kq v3 v8 w' => ∃ (x3_1 : Int) (x8_1 : Int), v3 = .int .i64 x3_1 ∧ v8 = .int .i64 x8_1 ∧ Aside0 (number_text_exponent.l0 kq x3_1 (a0_3.size : Int) x8_1 a0_0 a0_1 a0_2 a0_3 a0_4 = some r) ∧ Aside0 (kq ≤ k) ∧ Aside0 (w'.heap[gb216]? = some (.cells #[.bool a0_0, .string a0_1, .string a0_2, .string a0_3, .int .i64 a0_4] 133 (0, 0))) ∧ Aside0 (Below w.heap.size w w'))
 case atStart => exact ⟨(0), (0), rfs_, rfs_, H', ⟨Nat.le_refl _⟩, ⟨blk_⟩, ⟨bel_⟩⟩
 case round =>
  clear H'; try clear hcz3_0
  try clear hcz3_1
  try clear hcz3_2
  try clear hcz3_3
  try clear hcz3_4
  try clear hfz3_0
  try clear hfz3_1
  try clear hfz3_2
  try clear hfz3_3
  try clear hfz3_4
  obtain ⟨x3_1, x8_1, rfl, rfl, HA, HK1, BK216, HB⟩ := hrel
  cases gk with
  | zero => exact absurd HA.out (by simp [number_text_exponent.l0])
  | succ k1 =>
   have H := HA.out; clear HA; simp only [number_text_exponent.l0] at H; by_cases c4 : x8_1 < (a0_3.size : Int)
   ·rw [if_pos c4] at H; have c4b0 : decide (x8_1 < (a0_3.size : Int)) = true := dt_ c4; clear c4; by_cases c5 : 0 ≤ x8_1
    ·rw [if_pos c5] at H; have c5b0 : decide (0 ≤ x8_1) = true := dt_ c5; clear c5; by_cases c6 : x8_1 < (a0_3.size : Int)
     ·rw [if_pos c6] at H; have c6b0 : decide (x8_1 < (a0_3.size : Int)) = true := dt_ c6; clear c6; replace H := bs_ H; obtain ⟨t217, A80, H⟩ := H; try dsimp only at H
      have A8 := am_ A80; clear A80; by_cases c9 : t217 = true
      ·subst c9; rw [if_pos rfl] at H; obtain ⟨ji11, hji11⟩ : ∃ j_ : Int, (mn 1000 (wrap64 ((wrap64 (10 * x3_1)) + (((bt a0_3 x8_1) - 48) % 256)))) = j_ := ⟨_, rfl⟩
       replace H : (number_text_exponent.l0 k1 ji11 (a0_3.size : Int) (wrap64 (x8_1 + 1)) a0_0 a0_1 a0_2 a0_3 a0_4) = some r := by first | (rw [hji11] at H; exact H) | (simp only [hji11] at H ⊢; exact H)
       (try rw [hji11] at A8)
       have hji11_ : (if (wrap64 ((wrap64 (10 * x3_1)) + (((bt a0_3 x8_1) - 48) % 256))) < 1000 then (wrap64 ((wrap64 (10 * x3_1)) + (((bt a0_3 x8_1) - 48) % 256))) else 1000) = ji11 := hji11; have H' := am_ H; clear H; obtain ⟨hcz12_0, hcz12_1, hcz12_2, hcz12_3, hcz12_4⟩ := c5_ BK216; obtain ⟨hfz12_0, hfz12_1, hfz12_2, hfz12_3, hfz12_4⟩ := f5_ BK216; have p7 : 0 ≤ (x8_1 : Int) := od_ (by first | (with_reducible assumption) | assumption); have q7 : x8_1 < (a0_3.size : Int) := od_ (by first | (with_reducible assumption) | assumption); have hx7 := bt_at a0_3 x8_1; replace p7 := eq_true p7; replace q7 := eq_true q7; go_wp2_with (first | ((with_reducible refine gate_callee (f := 127) rfl ?_); refine goesL_ (some 15) rfl rfl Tryd.func127 (by kernel_rfl) rfl #[.int .u8 (bt a0_3 x8_1)] rfl goa_ ?_; (with_reducible refine (number_digit.calls (bt a0_3 x8_1) true _ A8.out).mono ?_); rintro e w' ⟨rfl, ⟨nd, rfl⟩⟩; refine ⟨_, rfl, ?_⟩; have p10 : 0 ≤ (x8_1 : Int) := od_ (by first | (with_reducible assumption) | assumption); have q10 : x8_1 < (a0_3.size : Int) := od_ (by first | (with_reducible assumption) | assumption); have hx10 := bt_at a0_3 x8_1; replace p10 := eq_true p10; replace q10 := eq_true q10))
       go_roundg k1
       case measure => have := HK1.out; omega
       case rel => exact ⟨(ji11), (wrap64 (x8_1 + 1)), (by first | rfl | (simp; done) | (simp only [← hji11] <;> (first | rfl | simp)) | (simp [*]; done)), rfs_, H', ⟨by have := HK1.out; omega⟩, ⟨blk_⟩, ⟨bel_⟩⟩
      replace c9 := Bool.eq_false_iff.mpr c9; subst c9; rw [if_neg (show ¬ (false = true) by decide)] at H; have H' := am_ H; clear H; obtain ⟨hcz13_0, hcz13_1, hcz13_2, hcz13_3, hcz13_4⟩ := c5_ BK216; obtain ⟨hfz13_0, hfz13_1, hfz13_2, hfz13_3, hfz13_4⟩ := f5_ BK216; have p7 : 0 ≤ (x8_1 : Int) := od_ (by first | (with_reducible assumption) | assumption); have q7 : x8_1 < (a0_3.size : Int) := od_ (by first | (with_reducible assumption) | assumption); have hx7 := bt_at a0_3 x8_1; replace p7 := eq_true p7; replace q7 := eq_true q7; go_wp2_with (first | ((with_reducible refine gate_callee (f := 127) rfl ?_); refine goesL_ (some 15) rfl rfl Tryd.func127 (by kernel_rfl) rfl #[.int .u8 (bt a0_3 x8_1)] rfl goa_ ?_; (with_reducible refine (number_digit.calls (bt a0_3 x8_1) false _ A8.out).mono ?_); rintro e w' ⟨rfl, ⟨nd, rfl⟩⟩; refine ⟨_, rfl, ?_⟩))
      go_roundg k1
      case measure => have := HK1.out; omega
      case rel => exact ⟨(x3_1), (wrap64 (x8_1 + 1)), rfs_, rfs_, H', ⟨by have := HK1.out; omega⟩, ⟨blk_⟩, ⟨bel_⟩⟩
     rw [if_neg c6] at H; exact absurd H (by simp)
    rw [if_neg c5] at H; exact absurd H (by simp)
   rw [if_neg c4] at H; have c4b0 : decide (x8_1 < (a0_3.size : Int)) = false := df_ c4; clear c4; by_cases c14 : a0_3.toList = ([] : List UInt8)
   ·rw [if_pos c14] at H; have c14b0 : (a0_3.toList == ([] : List UInt8)) = true := beq_iff_eq.mpr c14; have c14b1 : (a0_3.toList != ([] : List UInt8)) = false := bne_eq_false_iff_eq.mpr c14; clear c14; obtain rfl := si_ H; obtain ⟨hcz15_0, hcz15_1, hcz15_2, hcz15_3, hcz15_4⟩ := c5_ BK216; obtain ⟨hfz15_0, hfz15_1, hfz15_2, hfz15_3, hfz15_4⟩ := f5_ BK216; go_wp2; go_ret
    exact ⟨rsl_, bel_⟩
   rw [if_neg c14] at H; have c14b0 : (a0_3.toList == ([] : List UInt8)) = false := beq_eq_false_iff_ne.mpr c14; have c14b1 : (a0_3.toList != ([] : List UInt8)) = true := bne_iff_ne.mpr c14; by_cases c16 : 0 < (a0_3.size : Int)
   ·rw [if_pos c16] at H; have c16b0 : decide (0 < (a0_3.size : Int)) = true := dt_ c16; have c16b1 : decide (0 < a0_3.size) = true := dt_ (by omega); clear c16; by_cases c18 : (bt a0_3 0) = 45
    ·rw [if_pos c18] at H; have c18b0 : ((bt a0_3 0) == 45) = true := beq_iff_eq.mpr c18; have c18b1 : ((bt a0_3 0) != 45) = false := bne_eq_false_iff_eq.mpr c18; clear c18; obtain rfl := si_ H; obtain ⟨hcz19_0, hcz19_1, hcz19_2, hcz19_3, hcz19_4⟩ := c5_ BK216; obtain ⟨hfz19_0, hfz19_1, hfz19_2, hfz19_3, hfz19_4⟩ := f5_ BK216; have p17 : 0 ≤ (0 : Int) := (by omega)
     have q17 : 0 < a0_3.size := (by have : (0 : Int) < (a0_3.size : Int) := od_ (by first | (with_reducible assumption) | assumption); omega)
     have hx17 : ∀ h : 0 < a0_3.size, ((a0_3[0]'h).toNat : Int) = bt a0_3 0 := bt_at a0_3 0; clear p17; have qi17 : (0 < (a0_3.size : Int)) = True := eq_true (od_ (by first | (with_reducible assumption) | assumption)); replace q17 := eq_true q17; go_wp2; go_ret
     exact ⟨rsl_, bel_⟩
    rw [if_neg c18] at H; have c18b0 : ((bt a0_3 0) == 45) = false := beq_eq_false_iff_ne.mpr c18; have c18b1 : ((bt a0_3 0) != 45) = true := bne_iff_ne.mpr c18; obtain rfl := si_ H; obtain ⟨hcz20_0, hcz20_1, hcz20_2, hcz20_3, hcz20_4⟩ := c5_ BK216; obtain ⟨hfz20_0, hfz20_1, hfz20_2, hfz20_3, hfz20_4⟩ := f5_ BK216; have p17 : 0 ≤ (0 : Int) := (by omega)
    have q17 : 0 < a0_3.size := (by have : (0 : Int) < (a0_3.size : Int) := od_ (by first | (with_reducible assumption) | assumption); omega)
    have hx17 : ∀ h : 0 < a0_3.size, ((a0_3[0]'h).toNat : Int) = bt a0_3 0 := bt_at a0_3 0; clear p17; have qi17 : (0 < (a0_3.size : Int)) = True := eq_true (od_ (by first | (with_reducible assumption) | assumption)); replace q17 := eq_true q17; go_wp2; go_ret
    exact ⟨rsl_, bel_⟩
   rw [if_neg c16] at H; exact absurd H (by simp)


/-! ### number_Value: function 97 -/
def number_Value.dig (c : Int) : Int := (c - 48) % 256
def number_Value.at (s : ByteArray) (i j : Nat) : Int := if j < i then number_Value.dig (bt s j) else bt s j
def number_Value.digs (s : ByteArray) : List Int := (List.range s.size).map fun j => number_Value.dig (bt s (j : Nat))
def number_Value.f (k : Nat) (a0 : ByteArray) (a1 : Int) : Option (Int × Int) :=
  (number_isScale.f a1).bind fun b => if b = true then ((number_parts.f a0).bind fun t => if t.2.2.2.2 = 0 ∨ t.2.2.2.2 ≠ (a0.size : Int) ∨ 300 < (a0.size : Int) then some (0, 21) else
    (if t.2.1.size + t.2.2.1.size ≤ 140737488351232 then ((number_text_exponent.f k t.1 t.2.1 t.2.2.1 t.2.2.2.1 t.2.2.2.2).bind fun x => (number_scaled.f k (number_Value.digs (t.2.1 ++ t.2.2.1)) (wrap64 ((t.2.1.size : Int) + x)) a1).bind fun q =>
      if q.2 = true then (if t.1 = true then some (wrap64 (-q.1), 0) else some (q.1, 0)) else some (0, 10)) else none)) else some (0, 2)
theorem number_Value.mono : ∀ a0 a1 k, LeO (number_Value.f k a0 a1) (number_Value.f (k + 1) a0 a1) := by
  intro a0 a1 k; unfold number_Value.f; repeat' first
      | (with_reducible exact number_text_exponent.mono _ _ _ _ _ _)
      | (with_reducible exact number_scaled.mono _ _ _ _)
      | (with_reducible first | exact LeO.refl _ | exact LeO.none _ | refine LeO.ite ?_ ?_ | refine LeO.bind ?_ (fun _ => ?_))

/-- The parts' block, and the digits' block. -/
structure number_Value.Holds (w W : World) (gt gd : Nat) (c : Array Value) (s : ByteArray) (i : Nat) : Prop where
  b : Below w.heap.size w W
  ht : W.heap[gt]? = some (.cells c 133 (0, 0))
  lo : w.heap.size ≤ gt
  lt : gt < gd
  o : ∃ cs lo hi, W.heap[gd]? = some (.cells cs 5 (lo, hi)) ∧ (∀ j, j < s.size → cs[j]? = some (.int .u8 (number_Value.at s i j))) ∧ s.size ≤ lo
theorem number_Value.Holds.cell {w W : World} {gt gd : Nat} {c : Array Value} {s : ByteArray} {i : Nat} (h : number_Value.Holds w W gt gd c s i) {j : Nat} (hj : j < s.size) : W.cell? ⟨gd, j, none⟩ = some (.int .u8 (number_Value.at s i j)) := by
  obtain ⟨cs, lo, hi, h1, h2, h3⟩ := h.o; rw [cell_of_row _ _ _ _ _ _ h1]; exact h2 j hj
theorem number_Value.Holds.froz {w W : World} {gt gd : Nat} {c : Array Value} {s : ByteArray} {i : Nat} (h : number_Value.Holds w W gt gd c s i) {j : Nat} (hj : j < s.size) : W.frozen? ⟨gd, j, none⟩ = false := by
  obtain ⟨cs, lo, hi, h1, h2, h3⟩ := h.o; have : ¬ lo ≤ j := by omega
  simp [World.frozen?, h1, this]
theorem number_Value.Holds.start {w W : World} {gt : Nat} {c : Array Value} (hb : Below w.heap.size w W) (ht : W.heap[gt]? = some (.cells c 133 (0, 0))) (hlo : w.heap.size ≤ gt) (s : ByteArray) : number_Value.Holds w (Lib.bytesWorld W 5 s) gt W.heap.size c s 0 := by
  refine ⟨bytes_below hb hb.size _ s, ?_, hlo, blk_lt ht, _, _, _, Lib.bytesWorld_at_new W _ s, fun j hj => ?_, ?_⟩
  · rw [Lib.bytesWorld_at_old W _ s gt (blk_lt ht)]
    exact ht
  · have h := Lib.bytesWorld_cell W 5 s j hj
    rw [cell_of_row _ _ _ _ _ _ (Lib.bytesWorld_at_new W _ s)] at h; rw [h]; have hb : number_Value.at s 0 j = bt s j := by simp [number_Value.at]
    rw [hb, ← bt_at s (j : Int) (by simpa using hj)]; simp [List.getD_eq_getElem?_getD, hj]
    rfl
  simp [Lib.bytesCells]
theorem number_Value.Holds.drewN {w W : World} {gt gd : Nat} {c : Array Value} {s : ByteArray} {i : Nat} (h : number_Value.Holds w W gt gd c s i) (n : Nat) : number_Value.Holds w (W.drewN n) gt gd c s i := ⟨number_parts.belowN h.b n, h.ht, h.lo, h.lt, h.o⟩
theorem number_Value.Holds.drew {w W : World} {gt gd : Nat} {c : Array Value} {s : ByteArray} {i : Nat} (h : number_Value.Holds w W gt gd c s i) : number_Value.Holds w W.drew gt gd c s i := ⟨below_drew1 h.b, blk_drew h.ht, h.lo, h.lt, h.o⟩
theorem number_Value.Holds.set {w W : World} {gt gd : Nat} {c : Array Value} {s : ByteArray} {i : Nat} (h : number_Value.Holds w W gt gd c s i) (v : Int) (hv : v = number_Value.dig (bt s (i : Nat))) : number_Value.Holds w (W.setCell ⟨gd, i, none⟩ (.int .u8 v)) gt gd c s (i + 1) := by
  obtain ⟨cs, lo, hi, h1, h2, h3⟩ := h.o; refine ⟨below_set h.b (Nat.le_trans h.lo (Nat.le_of_lt h.lt)), blk_far h.ht (show gt ≠ gd from Nat.ne_of_lt h.lt) _, h.lo, h.lt, cs.setIfInBounds i (.int .u8 v), lo, hi, ?_, fun j hj => ?_, h3⟩
  · simp [World.setCell, Array.getElem?_modify, h1]
  unfold number_Value.at; rcases Nat.lt_trichotomy j i with h4 | rfl | h4
  · rw [Array.getElem?_setIfInBounds_ne (by omega), h2 j hj, if_pos (by omega)]
    unfold number_Value.at; rw [if_pos h4]
  · have hs : j < cs.size := (Array.getElem?_eq_some_iff.1 (h2 j hj)).1
    rw [Array.getElem?_setIfInBounds_self_of_lt hs, if_pos (by omega), hv]
  rw [Array.getElem?_setIfInBounds_ne (by omega), h2 j hj, if_neg (by omega)]; unfold number_Value.at; rw [if_neg (by omega)]
theorem number_Value.Holds.call {w W W' : World} {gt gd : Nat} {c : Array Value} {s : ByteArray} {i : Nat} (h : number_Value.Holds w W gt gd c s i) (hb : Below W.heap.size W W') : number_Value.Holds w W' gt gd c s i := by
  obtain ⟨cs, lo, hi, h1, h2, h3⟩ := h.o; exact ⟨below_step h.b hb, blk_below h.ht hb, h.lo, h.lt, cs, lo, hi, blk_below h1 hb, h2, h3⟩
/-- What the digits' block says, wherever it lies as it lay. -/
theorem number_Value.Holds.row {w W : World} {gt gd : Nat} {c : Array Value} {s : ByteArray} (h : number_Value.Holds w W gt gd c s s.size) (hs : s.size ≤ 140737488351232) (cap base : Nat) (hc : s.size ≤ cap) : Kd.V (Kd.int .u8) 5 W base (fun k => k = gd) (.slice (some ⟨gd, 0, none⟩) (number_Value.digs s).length cap) (number_Value.digs s) := by
  have hl : (number_Value.digs s).length = s.size := by simp [number_Value.digs]
  refine Kd.V_mk (by omega) fun W' hW => ⟨rfl, by omega, fun _ => ⟨_, rfl, fun j p hp => ?_⟩⟩
  have hj : j < s.size := by
    have := (List.getElem?_eq_some_iff.1 hp).1
    omega
  have hcell := h.cell hj; have hlt : gd < W.heap.size := World.block_lt_of_cell? W _ hcell; have hcell' : W'.cell? ⟨gd, j, none⟩ = some (.int .u8 (number_Value.at s s.size j)) := by
    rw [← hcell]; simp [World.cell?, hW gd rfl hlt]
  have hp2 : p = number_Value.at s s.size j := by
    unfold number_Value.digs at hp; rw [List.getElem?_map, List.getElem?_range hj] at hp; unfold number_Value.at; rw [if_pos hj]; exact (si_ hp).symm
  refine ⟨[.int .u8 p], rfl, rfl, fun i u hu => ?_⟩
  match i, hu with
  | 0, hu =>
    obtain rfl := si_ hu; have : (j * (Kd.int .u8).sz + 0) = j := by show j * 1 + 0 = j; omega
    rw [this, add_plain, hcell', hp2]
theorem number_Value.next {i n : Nat} (h1 : i < n) (hs : n ≤ 140737488351232) : wrap64 ((i : Int) + 1) = ((i + 1 : Nat) : Int) := by
  unfold wrap64; omega
theorem number_Value.less {i n : Nat} (h1 : i < n) (hw : wrap64 ((i : Int) + 1) = ((i + 1 : Nat) : Int)) : n - (intOf (.int .i64 (wrap64 ((i : Int) + 1)))).toNat < n - (intOf (.int .i64 (i : Int))).toNat := by
  rw [hw]; show n - (((i + 1 : Nat) : Int)).toNat < n - ((i : Int)).toNat
  rw [Int.toNat_natCast, Int.toNat_natCast]; clear hw; omega

def number_Value.T12 : Bool × List (List Nat × List Nat) := (true,
  [([], []), ([], []), ([1], [1]), ([2], [2]), ([], []), ([4], [4]), ([3, 5], [3, 5]), ([], []),
    ([0, 6, 7, 5], [0, 6, 7]), ([8], [8]), ([9], [9]), ([9], [9]), ([10, 8, 0, 1, 2, 3, 4, 5, 6, 7, 8, 9, 10], [10]),
    ([11, 12, 0, 1, 2, 3, 4, 5, 6, 7, 8, 9, 10, 11, 12], [11])])
def number_Value.B12 : List Nat := [0, 0, 2, 6, 0, 16, 62, 0, 255, 511, 1023, 1023, 2047, 8191]
theorem number_Value.tab12 : rtab .any (opsOf Tryd.f97 12) = number_Value.T12 := by kernel_rfl
theorem number_Value.bits12 : waitsOk number_Value.T12.2 number_Value.B12 = true := by kernel_rfl

set_option maxHeartbeats 40000000 in
theorem number_Value.walk (k : Nat) (a0 : ByteArray) (a1 : Int) (t1 : Bool) (t2 t3 t4 : ByteArray) (t5 : Int) (x q1 : Int) (q2 : Bool) (w : World) (hsc : number_isScale.f a1 = some true) (hp : number_parts.f a0 = some (t1, t2, t3, t4, t5))
    (h5 : t5 ≠ 0) (h6 : t5 = (a0.size : Int)) (h7 : (a0.size : Int) ≤ 300) (hz : t2.size + t3.size ≤ 140737488351232) (hx : number_text_exponent.f k t1 t2 t3 t4 t5 = some x)
    (hq : number_scaled.f k (number_Value.digs (t2 ++ t3)) (wrap64 ((t2.size : Int) + x)) a1 = some (q1, q2)) :
    Calls Tryd.prog 97 #[.string a0, .int .i64 a1] w fun e w' => e = .returned (.tuple (if q2 = true then (if t1 = true then #[.int .i64 (wrap64 (-q1)), .int .i64 0] else #[.int .i64 q1, .int .i64 0]) else #[.int .i64 0, .int .i64 10])) ∧ Below w.heap.size w w' := by
  have hu := Tryd.underlying133; have HSC := am_ hsc; have HPT := am_ hp; have HX := am_ hx; have HQ := am_ hq; have HZ := am_ hz; obtain ⟨sd, hsd⟩ : ∃ sd, t2 ++ t3 = sd := ⟨_, rfl⟩
  have HSZ : Aside0 (sd.size ≤ 140737488351232) := ⟨by rw [← hsd, ByteArray.size_append]; exact hz⟩
  have HSD := am_ hsd; have HB := am_ (Below.refl w.heap.size w); have e1 : (t5 == 0) = false := beq_eq_false_iff_ne.2 h5; have e2 : (t5 != (a0.size : Int)) = false := by rw [h6]; simp
  have e3 : decide (300 < (a0.size : Int)) = false := df_ (by omega); have e4 : decide ((a0.size : Int) > 300) = false := df_ (by omega); have e5 : (9223372036854775807 < t2.size + t3.size) = False := eq_false (by omega); have e6 : (t2.size + t3.size ≤ 9223372036854775807) = True := eq_true (by omega); have kb := fun W s => print_bytes (P := Tryd.prog) 9 63 5 Tryd.underlying9 Tryd.underlying63 Tryd.underlying5 s W
  clear hsc hp hx hq hz h5 h6 h7; go_enter Tryd.func97, Tryd.ntmps97
  go_upto_region 6 with (first
    | (go_at_call 118; refine (number_isScale.calls _ _ _ HSC.out).mono ?_; rintro e w1 ⟨rfl, ⟨n1, rfl⟩⟩)
    | (go_at_call 106; refine (number_parts.calls _ _ _ _ _ _ _ HPT.out).mono ?_; rintro e w2 ⟨rfl, hb⟩; have HB2 := am_ hb; clear hb)
    | ((with_reducible refine gate_dst (N := 6) rfl ?_); (try (refine gate_guard (by rfl) ?_; dsimp only)); refine box_event ?hg (N := 6) ?hd (cs := #[.bool false, .string (⟨#[]⟩ : ByteArray), .string (⟨#[]⟩ : ByteArray), .string (⟨#[]⟩ : ByteArray), .int .i64 0]) (t := 133) ?hr ?_; (case hd => rfl); (case hg => rfl); (case hr => first | (go_simp; done) | (go_simp; rfl)); intro gt hg w3 hbox hb; have KB := am_ hb; have KS := am_ hbox; have KG := am_ hg; clear hg hbox hb; have hct0 : w3.cell? ⟨gt, 0, none⟩ = some (.bool false) := (blk_cell KS.out 0).trans rfl; have hct1 : w3.cell? ⟨gt, 1, none⟩ = some (.string (⟨#[]⟩ : ByteArray)) := (blk_cell KS.out 1).trans rfl; have hct2 : w3.cell? ⟨gt, 2, none⟩ = some (.string (⟨#[]⟩ : ByteArray)) := (blk_cell KS.out 2).trans rfl; have hct3 : w3.cell? ⟨gt, 3, none⟩ = some (.string (⟨#[]⟩ : ByteArray)) := (blk_cell KS.out 3).trans rfl; have hct4 : w3.cell? ⟨gt, 4, none⟩ = some (.int .i64 0) := (blk_cell KS.out 4).trans rfl; have hf0 := blk_frozen KS.out 0; have hf1 := blk_frozen KS.out 1; have hf2 := blk_frozen KS.out 2; have hf3 := blk_frozen KS.out 3; have hf4 := blk_frozen KS.out 4))
  go_wp2; go_loopw [39] (fun v39 wr => ∃ (i : Nat), i ≤ sd.size ∧ v39 = .int .i64 i ∧ Aside0 (number_Value.Holds w wr gt w3.heap.size #[.bool t1, .string t2, .string t3, .string t4, .int .i64 t5] sd i)) (fun v39 _ => sd.size - (intOf v39).toNat)
  case atStart =>
    have hb3 : Below w.heap.size w w3 := below_step (below_step (number_parts.belowN (Below.refl _ _) n1) HB2.out) KB.out; have hlo : w.heap.size ≤ gt := by
      rw [KG.out]; exact (below_step (number_parts.belowN (Below.refl _ _) n1) HB2.out).size
    have e : ∀ (W : World) (p : Addr) (u : Value), (W.setCell p u).heap.size = W.heap.size := fun W p u => by simp [World.setCell]
    have h := number_Value.Holds.start (c := #[.bool t1, .string t2, .string t3, .string t4, .int .i64 t5]) (gt := gt) (below_set (below_set (below_set (below_set (below_set hb3 hlo) hlo) hlo) hlo) hlo) (blk_put (blk_put (blk_put (blk_put (blk_put KS.out 0 (.bool t1) rfl) 1 (.string t2) rfl) 2 (.string t3) rfl) 3 (.string t4) rfl) 4 (.int .i64 t5) rfl) hlo sd; rw [e, e, e, e, e] at h; exact ⟨0, Nat.zero_le _, rfl, ⟨h⟩⟩
  case round =>
    clear kb; obtain ⟨i, hi, rfl, HH⟩ := hrel; by_cases hlt : i < sd.size
    · have q0 : (0 ≤ (i : Int)) = True := eq_true (by omega)
      have q1 : ((i : Int) < (sd.size : Int)) = True := eq_true (by omega); have q2 : decide ((i : Int) < (sd.size : Int)) = true := dt_ (by omega); have q3 : decide (i < sd.size) = true := dt_ hlt; have q4 : (i < sd.size) = True := eq_true hlt; have hx : wr.cell? ⟨w3.heap.size, i, none⟩ = some (.int .u8 (bt sd (i : Nat))) := by
        rw [HH.out.cell hlt]; simp [number_Value.at]
      have hz := HH.out.froz hlt; have H1 := am_ hlt; have HW := am_ (number_Value.next hlt HSZ.out); have hA := add_plain w3.heap.size i; clear hlt hi; go_wp2; go_roundw
      case rel => exact ⟨i + 1, H1.out, by rw [HW.out], ⟨HH.out.set _ rfl⟩⟩
      case measure => exact number_Value.less H1.out HW.out
    have hie : i = sd.size := by omega
    subst hie; have z2 : decide ((sd.size : Int) < (sd.size : Int)) = false := df_ (by omega); have z3 : decide (sd.size < sd.size) = false := df_ (by omega); have hT := HH.out.ht; have hct0 : wr.cell? ⟨gt, 0, none⟩ = some (.bool t1) := (blk_cell hT 0).trans rfl; have hf0 := blk_frozen hT 0; have hct1 : wr.cell? ⟨gt, 1, none⟩ = some (.string t2) := (blk_cell hT 1).trans rfl; have hf1 := blk_frozen hT 1; have hct2 : wr.cell? ⟨gt, 2, none⟩ = some (.string t3) := (blk_cell hT 2).trans rfl; have hf2 := blk_frozen hT 2; have hct3 : wr.cell? ⟨gt, 3, none⟩ = some (.string t4) := (blk_cell hT 3).trans rfl; have hf3 := blk_frozen hT 3; have hct4 : wr.cell? ⟨gt, 4, none⟩ = some (.int .i64 t5) := (blk_cell hT 4).trans rfl; have hf4 := blk_frozen hT 4; have hdl : (number_Value.digs sd).length = sd.size := by simp [number_Value.digs]
    have KS2 : ∀ (W : World) (cap : Nat), Kd.V (Kd.int .u8) 5 W W.heap.size (fun k_ => k_ = w3.heap.size) (.slice (some ⟨w3.heap.size, 0, none⟩) (number_Value.digs sd).length cap) (number_Value.digs sd) → Calls Tryd.prog 119 #[.slice (some ⟨w3.heap.size, 0, none⟩) sd.size cap, .int .i64 (wrap64 ((t2.size : Int) + x)), .int .i64 a1] W fun e w' => e = .returned (.tuple #[.int .i64 q1, .bool q2]) ∧ Below W.heap.size W w' := fun W cap hv => by
      have h := number_scaled.calls k _ _ cap (number_Value.digs sd) (wrap64 ((t2.size : Int) + x)) a1 q1 q2 W hv (HSD.out ▸ HQ.out); rw [hdl] at h; exact h
    have KS3 := am_ KS2; clear hlt KS2; go_wp2; have HH4 := am_ (number_Value.Holds.drew HH.out); refine start_ (n := 14) (S := (fun w' => w'.cell? ⟨gt, 0, none⟩ = some (.bool t1) ∧ w'.cell? ⟨gt, 1, none⟩ = some (.string t2) ∧ w'.cell? ⟨gt, 2, none⟩ = some (.string t3) ∧ w'.cell? ⟨gt, 3, none⟩ = some (.string t4) ∧ w'.cell? ⟨gt, 4, none⟩ = some (.int .i64 t5))) (ds := []) #[false, false, false, false, false, false, false, false, false, false, false, false, false, false] (by kernel_rfl) rfl rfl ⟨(blk_cell HH4.out.ht 0).trans rfl, (blk_cell HH4.out.ht 1).trans rfl, (blk_cell HH4.out.ht 2).trans rfl, (blk_cell HH4.out.ht 3).trans rfl, (blk_cell HH4.out.ht 4).trans rfl⟩ (fun hHeld => ?_)
    refine with_tabW number_Value.tab12 number_Value.bits12 (fun HT_ HW_ => ?_)
    generalize wr.drew = w4 at HH4 hHeld ⊢
    refine pus_ 0 (some 50) #[true, false, false, false, false, false, false, false, false, false, false, false, false, false] rfl rfl HT_.out ?_
    refine pus_ 1 (some 51) #[true, true, false, false, false, false, false, false, false, false, false, false, false, false] rfl rfl HT_.out ?_
    refine tas_ 2 (some 52) #[true, true, true, false, false, false, false, false, false, false, false, false, false, false] rfl rfl HT_.out HW_.out hHeld ?_
    refine pus_ 3 (some 53) #[true, true, true, true, false, false, false, false, false, false, false, false, false, false] rfl rfl HT_.out ?_
    refine tas_ 4 (some 54) #[true, true, true, true, true, false, false, false, false, false, false, false, false, false] rfl rfl HT_.out HW_.out hHeld ?_
    refine pus_ 7 (some 57) #[true, true, true, true, true, false, false, true, false, false, false, false, false, false] rfl rfl HT_.out ?_
    refine one_ (i := 5) (N := some 55) #[true, true, true, true, true, true, false, true, false, false, false, false, false, false] rfl rfl (one_of HT_.out (by kernel_rfl)) (by decide) (fun K hK => ?_)
    refine goes_ Tryd.func120 (by kernel_rfl) rfl #[.agg #[.bool t1, .string t2, .string t3, .string t4, .int .i64 t5]] (by rfl) rfl rfl goa_ ?_
    with_reducible refine (number_text_exponent.calls k t1 t2 t3 t4 t5 x _ HX.out).mono ?_
    rintro e w5 ⟨rfl, hb⟩
    refine ⟨_, rfl, ?_⟩
    have HH5 := am_ (number_Value.Holds.call HH4.out hb); clear hb; refine hK.out _ _ ⟨(blk_cell HH5.out.ht 0).trans rfl, (blk_cell HH5.out.ht 1).trans rfl, (blk_cell HH5.out.ht 2).trans rfl, (blk_cell HH5.out.ht 3).trans rfl, (blk_cell HH5.out.ht 4).trans rfl⟩ (fun hHeld => ?_)
    clear hK K; refine norm_ (a' := ?_) ?_ ?_
    rotate_left
    ·show Act.put _ (some 55) _ = _
     simp only [Act.put, List.setIfInBounds_toArray, List.set_cons_zero, List.set_cons_succ, i64_w, i32_w]; rfl
    refine pus_ 6 (some 56) #[true, true, true, true, true, true, true, true, false, false, false, false, false, false] rfl rfl HT_.out ?_
    refine one_ (i := 8) (N := some 58) #[true, true, true, true, true, true, true, true, true, false, false, false, false, false] rfl rfl (one_of HT_.out (by kernel_rfl)) (by decide) (fun K hK => ?_)
    refine goes_ Tryd.func119 (by kernel_rfl) rfl #[.slice (some ⟨w3.heap.size, 0, none⟩) sd.size (grownCap (((((w3.setCell { block := gt, off := 0 } (Value.bool t1)).setCell { block := gt, off := 1 } (Value.string t2)).setCell { block := gt, off := 2 } (Value.string t3)).setCell { block := gt, off := 3 } (Value.string t4)).setCell { block := gt, off := 4 } (Value.int IntKind.i64 t5)) sd.size 0 5), .int .i64 (wrap64 ((t2.size : Int) + x)), .int .i64 a1] (by rfl) rfl rfl goa_ ?_
    with_reducible refine (KS3.out _ _ ?sv).mono ?_
    case sv => exact number_Value.Holds.row HH5.out HSZ.out _ _ (grownCap_ge _ _ _ _)
    rintro e w6 ⟨rfl, hb⟩
    refine ⟨_, rfl, ?_⟩
    have HH6 := am_ (number_Value.Holds.call HH5.out hb); clear hb; refine hK.out _ _ ⟨(blk_cell HH6.out.ht 0).trans rfl, (blk_cell HH6.out.ht 1).trans rfl, (blk_cell HH6.out.ht 2).trans rfl, (blk_cell HH6.out.ht 3).trans rfl, (blk_cell HH6.out.ht 4).trans rfl⟩ (fun hHeld => ?_)
    clear hK K; refine norm_ (a' := ?_) ?_ ?_
    rotate_left
    ·show Act.put _ (some 58) _ = _
     simp only [Act.put, List.setIfInBounds_toArray, List.set_cons_zero, List.set_cons_succ, i64_w, i32_w]; rfl
    refine pus_ 9 (some 49) #[true, true, true, true, true, true, true, true, true, true, false, false, false, false] rfl rfl HT_.out ?_
    refine pus_ 10 (some 59) #[true, true, true, true, true, true, true, true, true, true, true, false, false, false] rfl rfl HT_.out ?_
    refine pus_ 11 (some 60) #[true, true, true, true, true, true, true, true, true, true, true, true, false, false] rfl rfl HT_.out ?_
    refine pus_ 12 (some 9) #[true, true, true, true, true, true, true, true, true, true, true, true, true, false] rfl rfl HT_.out ?_
    refine pus_ 13 (some 10) #[true, true, true, true, true, true, true, true, true, true, true, true, true, true] rfl rfl HT_.out ?_
    refine done_ (done_of HT_.out (by kernel_rfl)) ?_
    clear hct0 hct1 hct2 hct3 hct4 hf0 hf1 hf2 hf3 hf4; have hT6 := HH6.out.ht; have hct0 : w6.cell? ⟨gt, 0, none⟩ = some (.bool t1) := (blk_cell hT6 0).trans rfl; have hf0 := blk_frozen hT6 0; have HB6 := am_ HH6.out.b; cases q2
    · go_wp2
      go_ret2
      exact ⟨rfl, HB6.out⟩
    cases t1
    · go_wp2
      go_ret2
      exact ⟨rfl, HB6.out⟩
    go_wp2; go_ret2
    exact ⟨rfl, HB6.out⟩

set_option maxHeartbeats 4000000 in
theorem number_Value.nonum (a0 : ByteArray) (a1 : Int) (t1 : Bool) (t2 t3 t4 : ByteArray) (t5 : Int) (w : World) (hsc : number_isScale.f a1 = some true) (hp : number_parts.f a0 = some (t1, t2, t3, t4, t5))
    (hc : t5 = 0 ∨ t5 ≠ (a0.size : Int) ∨ 300 < (a0.size : Int)) :
    Calls Tryd.prog 97 #[.string a0, .int .i64 a1] w fun e w' => e = .returned (.tuple #[.int .i64 0, .int .i64 21]) ∧ Below w.heap.size w w' := by
  have hu := Tryd.underlying133; have HSC := am_ hsc; have HPT := am_ hp; obtain ⟨b1, hb1⟩ : ∃ b, (t5 == 0) = b := ⟨_, rfl⟩
  obtain ⟨b2, hb2⟩ : ∃ b, (t5 != (a0.size : Int)) = b := ⟨_, rfl⟩
  obtain ⟨b3, hb3⟩ : ∃ b, decide (300 < (a0.size : Int)) = b := ⟨_, rfl⟩
  have hb4 : decide ((a0.size : Int) > 300) = b3 := hb3; have HC : (b1 = true) ∨ (b1 = false ∧ b2 = true) ∨ (b1 = false ∧ b2 = false ∧ b3 = true) := by
    cases b1
    · cases b2
      · cases b3
        · exfalso
          simp at hb1 hb2 hb3
          omega
        exact Or.inr (Or.inr ⟨rfl, rfl, rfl⟩)
      exact Or.inr (Or.inl ⟨rfl, rfl⟩)
    exact Or.inl rfl
  clear hsc hp hc; rcases HC with rfl | ⟨rfl, rfl⟩ | ⟨rfl, rfl, rfl⟩
  all_goals
    go_enter Tryd.func97, Tryd.ntmps97
    go_wp2_with (first
      | (go_at_call 118; refine (number_isScale.calls _ _ _ HSC.out).mono ?_; rintro e w1 ⟨rfl, ⟨n1, rfl⟩⟩)
      | (go_at_call 106; refine (number_parts.calls _ _ _ _ _ _ _ HPT.out).mono ?_; rintro e w2 ⟨rfl, hb⟩; have HB2 := am_ hb; clear hb)
      | ((with_reducible refine gate_dst (N := 6) rfl ?_); (try (refine gate_guard (by rfl) ?_; dsimp only)); refine box_event ?hg (N := 6) ?hd (cs := #[.bool false, .string (⟨#[]⟩ : ByteArray), .string (⟨#[]⟩ : ByteArray), .string (⟨#[]⟩ : ByteArray), .int .i64 0]) (t := 133) ?hr ?_; (case hd => rfl); (case hg => rfl); (case hr => first | (go_simp; done) | (go_simp; rfl)); intro gt hg w3 hbox hb; have KB := am_ hb; have KS := am_ hbox; have KG := am_ hg; clear hg hbox hb; have hct0 : w3.cell? ⟨gt, 0, none⟩ = some (.bool false) := (blk_cell KS.out 0).trans rfl; have hct1 : w3.cell? ⟨gt, 1, none⟩ = some (.string (⟨#[]⟩ : ByteArray)) := (blk_cell KS.out 1).trans rfl; have hct2 : w3.cell? ⟨gt, 2, none⟩ = some (.string (⟨#[]⟩ : ByteArray)) := (blk_cell KS.out 2).trans rfl; have hct3 : w3.cell? ⟨gt, 3, none⟩ = some (.string (⟨#[]⟩ : ByteArray)) := (blk_cell KS.out 3).trans rfl; have hct4 : w3.cell? ⟨gt, 4, none⟩ = some (.int .i64 0) := (blk_cell KS.out 4).trans rfl; have hf0 := blk_frozen KS.out 0; have hf1 := blk_frozen KS.out 1; have hf2 := blk_frozen KS.out 2; have hf3 := blk_frozen KS.out 3; have hf4 := blk_frozen KS.out 4))
    have hb3 : Below w.heap.size w w3 := below_step (below_step (number_parts.belowN (Below.refl _ _) n1) HB2.out) KB.out; have hlo : w.heap.size ≤ gt := by
      rw [KG.out]; exact (below_step (number_parts.belowN (Below.refl _ _) n1) HB2.out).size
    have HB3 := am_ hb3; have HL := am_ hlo; clear hb3 hlo; go_ret2
    exact ⟨rfl, below_set (below_set (below_set (below_set (below_set HB3.out HL.out) HL.out) HL.out) HL.out) HL.out⟩

set_option maxHeartbeats 4000000 in
theorem number_Value.calls (k : Nat) (a0 : ByteArray) (a1 r1 r2 : Int) (w : World) (h : number_Value.f k a0 a1 = some (r1, r2)) :
    Calls Tryd.prog 97 #[.string a0, .int .i64 a1] w fun e w' => e = .returned (.tuple #[.int .i64 r1, .int .i64 r2]) ∧ Below w.heap.size w w' := by
  unfold number_Value.f at h; obtain ⟨b, hsc, h⟩ := bs_ h; cases b
  · rw [if_neg (by decide)] at h
    obtain ⟨rfl, rfl⟩ := Prod.mk.inj (si_ h); have HSC := am_ hsc; clear hsc h; have hu := Tryd.underlying133; go_enter Tryd.func97, Tryd.ntmps97
    go_wp2_with (first | (go_at_call 118; refine (number_isScale.calls _ _ _ HSC.out).mono ?_; rintro e w1 ⟨rfl, ⟨n1, rfl⟩⟩))
    go_ret2
    exact ⟨rfl, by repeat (first | exact Below.refl _ _ | apply number_parts.belowN)⟩
  rw [if_pos rfl] at h; obtain ⟨⟨t1, t2, t3, t4, t5⟩, hp, h⟩ := bs_ h; dsimp only at h; by_cases hc : t5 = 0 ∨ t5 ≠ (a0.size : Int) ∨ 300 < (a0.size : Int)
  · rw [if_pos hc] at h
    obtain ⟨rfl, rfl⟩ := Prod.mk.inj (si_ h); exact number_Value.nonum a0 a1 t1 t2 t3 t4 t5 w hsc hp hc
  rw [if_neg hc] at h; by_cases hz : t2.size + t3.size ≤ 140737488351232
  · rw [if_pos hz] at h
    obtain ⟨x, hx, h⟩ := bs_ h; obtain ⟨⟨q1, q2⟩, hq, h⟩ := bs_ h; have h5 : t5 ≠ 0 := fun e => hc (Or.inl e)
    have h6 : t5 = (a0.size : Int) := by
      by_cases e : t5 = (a0.size : Int)
      · exact e
      exact absurd (Or.inr (Or.inl e)) hc
    have h7 : (a0.size : Int) ≤ 300 := by
      by_cases e : 300 < (a0.size : Int)
      · exact absurd (Or.inr (Or.inr e)) hc
      omega
    refine (number_Value.walk k a0 a1 t1 t2 t3 t4 t5 x q1 q2 w hsc hp h5 h6 h7 hz hx hq).mono ?_
    rintro e w' ⟨rfl, hb⟩
    refine ⟨?_, hb⟩
    cases q2 <;> cases t1 <;> simp only [if_pos, if_neg, Bool.false_eq_true, if_false, if_true] at h ⊢ <;> (obtain ⟨rfl, rfl⟩ := Prod.mk.inj (si_ h); rfl)
  rw [if_neg hz] at h; cases h


/-! ### value_scaled: function 77 -/
def value_scaled.f (k : Nat) (a0 : ByteArray) (a1 : Int) : Option (Int × Int) := (number_Value.f k a0 a1).bind fun bt218 => (if bt218.2 = 0 then (some (bt218.1, bt218.2)) else (if bt218.2 = 10 then (some (bt218.1, bt218.2)) else (some (bt218.1, 50))))
theorem value_scaled.mono : ∀ a0 a1 k, LeO (value_scaled.f k a0 a1) (value_scaled.f (k + 1) a0 a1) := by
 intro a0 a1 k; unfold value_scaled.f; repeat' first
   | (with_reducible exact number_Value.mono _ _ _)
   | (with_reducible first | exact LeO.refl _ | exact LeO.none _ | refine LeO.ite ?_ ?_ | refine LeO.bind ?_ (fun _ => ?_))
set_option maxHeartbeats 8000000 in
theorem value_scaled.calls (k : Nat) (a0 : ByteArray) (a1 : Int) (r1 : Int) (r2 : Int) (w : World) (h : value_scaled.f k a0 a1 = some (r1, r2)) :
  Calls Tryd.prog 77 #[.string a0, .int .i64 a1] w fun e w' => e = .returned (.tuple #[.int .i64 r1, .int .i64 r2]) ∧ Below w.heap.size w w' := by
 have HB := am_ (Below.refl w.heap.size w); have H : ((number_Value.f k a0 a1).bind fun bt218 => (if bt218.2 = 0 then (some (bt218.1, bt218.2)) else (if bt218.2 = 10 then (some (bt218.1, bt218.2)) else (some (bt218.1, 50))))) = some (r1, r2) := h; clear h; replace H := bs_ H; obtain ⟨⟨t218, t219⟩, A30, H⟩ := H; try dsimp only at H
 have A3 := am_ A30; clear A30; by_cases c4 : t219 = 0
 ·rw [if_pos c4] at H; have c4b0 : (t219 == 0) = true := beq_iff_eq.mpr c4; have c4b1 : (t219 != 0) = false := bne_eq_false_iff_eq.mpr c4; clear c4; simp only [Option.some.injEq, Prod.mk.injEq] at H; obtain ⟨rfl, rfl⟩ := H; go_enter Tryd.func77, Tryd.ntmps77
  go_wp2_with (first | ((with_reducible refine gate_callee (f := 97) rfl ?_); refine goesL_ (some 11) rfl rfl Tryd.func97 (by kernel_rfl) rfl #[.string a0, .int .i64 a1] rfl goa_ ?_; (with_reducible refine (number_Value.calls k a0 a1 t218 t219 _ A3.out).mono ?_); rintro e w5 ⟨rfl, hb⟩; refine ⟨_, rfl, ?_⟩; replace HB := am_ (below_step bel_ hb); clear hb))
  go_ret2
  exact ⟨rsl_, bel_⟩
 rw [if_neg c4] at H; have c4b0 : (t219 == 0) = false := beq_eq_false_iff_ne.mpr c4; have c4b1 : (t219 != 0) = true := bne_iff_ne.mpr c4; by_cases c6 : t219 = 10
 ·rw [if_pos c6] at H; have c6b0 : (t219 == 10) = true := beq_iff_eq.mpr c6; have c6b1 : (t219 != 10) = false := bne_eq_false_iff_eq.mpr c6; clear c6; simp only [Option.some.injEq, Prod.mk.injEq] at H; obtain ⟨rfl, rfl⟩ := H; go_enter Tryd.func77, Tryd.ntmps77
  go_wp2_with (first | ((with_reducible refine gate_callee (f := 97) rfl ?_); refine goesL_ (some 11) rfl rfl Tryd.func97 (by kernel_rfl) rfl #[.string a0, .int .i64 a1] rfl goa_ ?_; (with_reducible refine (number_Value.calls k a0 a1 t218 t219 _ A3.out).mono ?_); rintro e w7 ⟨rfl, hb⟩; refine ⟨_, rfl, ?_⟩; replace HB := am_ (below_step bel_ hb); clear hb))
  go_ret2
  exact ⟨rsl_, bel_⟩
 rw [if_neg c6] at H; have c6b0 : (t219 == 10) = false := beq_eq_false_iff_ne.mpr c6; have c6b1 : (t219 != 10) = true := bne_iff_ne.mpr c6; simp only [Option.some.injEq, Prod.mk.injEq] at H; obtain ⟨rfl, rfl⟩ := H; go_enter Tryd.func77, Tryd.ntmps77
 go_wp2_with (first | ((with_reducible refine gate_callee (f := 97) rfl ?_); refine goesL_ (some 11) rfl rfl Tryd.func97 (by kernel_rfl) rfl #[.string a0, .int .i64 a1] rfl goa_ ?_; (with_reducible refine (number_Value.calls k a0 a1 t218 t219 _ A3.out).mono ?_); rintro e w8 ⟨rfl, hb⟩; refine ⟨_, rfl, ?_⟩; replace HB := am_ (below_step bel_ hb); clear hb))
 go_ret2
 exact ⟨rsl_, bel_⟩

/-! ### value_Integer: function 46 -/
def value_Integer.j0 : Nat → Int → Bool → Int → Int → ByteArray → ByteArray → Option (Int × Int × Int)
 | 0, _, _, _, _, _, _ => none
 | k + 1, x1, x26, x225000, x225001, x225002, x225003 => if x26 = true then (some (0, x1, 50)) else ((value_scaled.f k x225003 1).bind fun bt228 => (if bt228.2 = 0 then (some (bt228.1, wrap64 (x1 + 1), 0)) else (some (0, x1, bt228.2))))
def value_Integer.f (k : Nat) (l0 : List (S67)) (a1 : Int) : Option (Int × Int × Int) := (value_word.f l0 a1).bind fun bt220 => (if bt220.1 = 3 then ((strings_Contains.f bt220.2.2.2 (⟨#[46]⟩ : ByteArray)).bind fun t225 => (if t225 = true then (value_Integer.j0 k a1 true bt220.1 bt220.2.1 bt220.2.2.1 bt220.2.2.2) else ((ident_Lower.f bt220.2.2.2).bind fun t226 => ((strings_Contains.f t226 (⟨#[101]⟩ : ByteArray)).bind fun t227 => (value_Integer.j0 k a1 t227 bt220.1 bt220.2.1 bt220.2.2.1 bt220.2.2.2))))) else (value_Integer.j0 k a1 true bt220.1 bt220.2.1 bt220.2.2.1 bt220.2.2.2))
theorem value_Integer.mono_l : ∀ k, (∀ y0 y1 y2 y3 y4 y5, LeO (value_Integer.j0 k y0 y1 y2 y3 y4 y5) (value_Integer.j0 (k + 1) y0 y1 y2 y3 y4 y5))
 | 0 => fun _ _ _ _ _ _ r h => by simp [value_Integer.j0] at h
 | k + 1 => by
  have ih0 := value_Integer.mono_l k; intro y0 y1 y2 y3 y4 y5; unfold value_Integer.j0; repeat' first
  | (with_reducible exact ih0 _ _ _ _ _ _)
  | (with_reducible exact value_scaled.mono _ _ _)
  | (with_reducible first | exact LeO.refl _ | exact LeO.none _ | refine LeO.ite ?_ ?_ | refine LeO.bind ?_ (fun _ => ?_))
theorem value_Integer.mono : ∀ a0 a1 k, LeO (value_Integer.f k a0 a1) (value_Integer.f (k + 1) a0 a1) := by
 intro a0 a1 k; have ih0 := value_Integer.mono_l k; unfold value_Integer.f; repeat' first
   | (with_reducible exact ih0 _ _ _ _ _ _)
   | (with_reducible exact value_scaled.mono _ _ _)
   | (with_reducible first | exact LeO.refl _ | exact LeO.none _ | refine LeO.ite ?_ ?_ | refine LeO.bind ?_ (fun _ => ?_))
set_option maxHeartbeats 8000000 in
theorem value_Integer.calls (k : Nat) (A0 : Option Addr) (c0 : Nat) (l0 : List (S67)) (a1 : Int) (r1 : Int) (r2 : Int) (r3 : Int) (w : World) (hr0 : Kd.C k67 w A0 l0.length l0) (hc0 : l0.length ≤ c0) (h : value_Integer.f k l0 a1 = some (r1, r2, r3)) :
  Calls Tryd.prog 46 #[.slice A0 l0.length c0, .int .i64 a1] w fun e w' => e = .returned (.tuple #[.int .i64 r1, .int .i64 r2, .int .i64 r3]) ∧ Below w.heap.size w w' := by
 have hu67 := Tryd.underlying67; have HR0 := am_ hr0; have HC0 := am_ hc0; clear hr0 hc0; have HB := am_ (Below.refl w.heap.size w); have H : ((value_word.f l0 a1).bind fun bt220 => (if bt220.1 = 3 then ((strings_Contains.f bt220.2.2.2 (⟨#[46]⟩ : ByteArray)).bind fun t225 => (if t225 = true then (value_Integer.j0 k a1 true bt220.1 bt220.2.1 bt220.2.2.1 bt220.2.2.2) else ((ident_Lower.f bt220.2.2.2).bind fun t226 => ((strings_Contains.f t226 (⟨#[101]⟩ : ByteArray)).bind fun t227 => (value_Integer.j0 k a1 t227 bt220.1 bt220.2.1 bt220.2.2.1 bt220.2.2.2))))) else (value_Integer.j0 k a1 true bt220.1 bt220.2.1 bt220.2.2.1 bt220.2.2.2))) = some (r1, r2, r3) := h; clear h; replace H := bs_ H; obtain ⟨⟨t220, t221, t222, t223⟩, A30, H⟩ := H; try dsimp only at H
 have A3 := am_ A30; clear A30; have HC4 := am_ H; clear H; go_enter Tryd.func46, Tryd.ntmps46
 go_upto_region 2 with (first | ((with_reducible refine gate_callee (f := 69) rfl ?_); refine goesL_ (some 12) rfl rfl Tryd.func69 (by kernel_rfl) rfl #[.slice A0 l0.length c0, .int .i64 a1] rfl goa_ ?_; (with_reducible refine (value_word.calls _ _ l0 a1 t220 t221 t222 t223 _ ?side1 ?side2 A3.out).mono ?_); (case side1 => exact cin_); (case side2 => exact HC0.out); rintro e w5 ⟨rfl, hb⟩; refine ⟨_, rfl, ?_⟩; replace HB := am_ (below_step bel_ hb); clear hb) | ((with_reducible refine gate_dst (N := 7) rfl ?_); refine box_event ?hg (N := 7) ?hd (cs := #[.int .i64 0, .int .i64 0, .string (⟨#[]⟩ : ByteArray), .string (⟨#[]⟩ : ByteArray)]) (t := 67) ?hr ?_; (case hd => rfl); (case hg => rfl); (case hr => first | (go_simp; done) | (go_simp; rfl)); intro gb224 hg w6 hbox hb; have BK224 := am_ (hbox); have GW224 := am_ ((bsz_ hg : w.heap.size ≤ gb224)); have GE224 := am_ ((bsz_ hg : w.heap.size ≤ gb224)); replace HB := am_ (below_step bel_ hb); clear hb hbox hg; obtain ⟨hcz7_0, hcz7_1, hcz7_2, hcz7_3⟩ := c4_ BK224; obtain ⟨hfz7_0, hfz7_1, hfz7_2, hfz7_3⟩ := f4_ BK224))
 (try simp only [Act.put, List.setIfInBounds_toArray, List.set_cons_zero, List.set_cons_succ])
 go_cut [26] (fun v26 wc => ∃ (kq : Nat) (x26_3 : Bool), v26 = .bool x26_3 ∧ Aside0 (value_Integer.j0 kq a1 x26_3 t220 t221 t222 t223 = some (r1, r2, r3)) ∧ Aside0 (kq ≤ k) ∧ Aside0 (wc.heap[gb224]? = some (.cells #[.int .i64 t220, .int .i64 t221, .string t222, .string t223] 67 (0, 0))) ∧ Aside0 (Below w.heap.size w wc))
 case first =>
  have H := HC4.out; clear HC4; by_cases c8 : t220 = 3
  ·rw [if_pos c8] at H; have c8b0 : (t220 == 3) = true := beq_iff_eq.mpr c8; have c8b1 : (t220 != 3) = false := bne_eq_false_iff_eq.mpr c8; clear c8; (first | rw [c8b0] | (simp only [i64_w, i32_w]; rw [c8b0]) | skip)
   replace H := bs_ H; obtain ⟨t225, A90, H⟩ := H; try dsimp only at H
   have A9 := am_ A90; clear A90; by_cases c10 : t225 = true
   ·subst c10; rw [if_pos rfl] at H; have H' := am_ H; clear H; obtain ⟨hcz11_0, hcz11_1, hcz11_2, hcz11_3⟩ := c4_ BK224; obtain ⟨hfz11_0, hfz11_1, hfz11_2, hfz11_3⟩ := f4_ BK224; go_wp2_with (first | (go_at_call 76; (with_reducible refine (strings_Contains.calls t223 (⟨#[46]⟩ : ByteArray) true _ A9.out).mono ?_); rintro e w' ⟨rfl, ⟨nd, rfl⟩⟩))
    go_meet
    case rel => exact ⟨_, (true), rfs_, (by first | exact H' | (subst_vars; exact H')), ⟨ole_⟩, ⟨bch_⟩, ⟨bel_⟩⟩
   replace c10 := Bool.eq_false_iff.mpr c10; subst c10; rw [if_neg (show ¬ (false = true) by decide)] at H; replace H := bs_ H; obtain ⟨t226, A120, H⟩ := H; try dsimp only at H
   have A12 := am_ A120; clear A120; replace H := bs_ H; obtain ⟨t227, A130, H⟩ := H; try dsimp only at H
   have A13 := am_ A130; clear A130; have H' := am_ H; clear H; obtain ⟨hcz14_0, hcz14_1, hcz14_2, hcz14_3⟩ := c4_ BK224; obtain ⟨hfz14_0, hfz14_1, hfz14_2, hfz14_3⟩ := f4_ BK224; go_wp2_with (first | (go_at_call 76; (with_reducible refine (strings_Contains.calls t223 (⟨#[46]⟩ : ByteArray) false _ A9.out).mono ?_); rintro e w' ⟨rfl, ⟨nd, rfl⟩⟩) | (go_at_call 71; (with_reducible refine (ident_Lower.calls t223 t226 _ A12.out).mono ?_); rintro e w15 ⟨rfl, hb⟩; replace BK224 := am_ (blk_below (g := gb224) (o := .cells #[.int .i64 t220, .int .i64 t221, .string t222, .string t223] 67 (0, 0)) (bch_) hb); replace HB := am_ (below_step bel_ hb); clear hb) | (go_at_call 76; (with_reducible refine (strings_Contains.calls t226 (⟨#[101]⟩ : ByteArray) t227 _ A13.out).mono ?_); rintro e w' ⟨rfl, ⟨nd, rfl⟩⟩))
   go_meet
   case rel => exact ⟨_, (t227), rfs_, (by first | exact H' | (subst_vars; exact H')), ⟨ole_⟩, ⟨blk_⟩, ⟨bel_⟩⟩
  rw [if_neg c8] at H; have c8b0 : (t220 == 3) = false := beq_eq_false_iff_ne.mpr c8; have c8b1 : (t220 != 3) = true := bne_iff_ne.mpr c8; (first | rw [c8b0] | (simp only [i64_w, i32_w]; rw [c8b0]) | skip)
  have H' := am_ H; clear H; obtain ⟨hcz16_0, hcz16_1, hcz16_2, hcz16_3⟩ := c4_ BK224; obtain ⟨hfz16_0, hfz16_1, hfz16_2, hfz16_3⟩ := f4_ BK224; go_wp2; go_meet
  case rel => exact ⟨_, (true), rfs_, (by first | exact H' | (subst_vars; exact H')), ⟨ole_⟩, ⟨bch_⟩, ⟨bel_⟩⟩
 clear HC4; try clear hcz7_0
 try clear hcz7_1
 try clear hcz7_2
 try clear hcz7_3
 try clear hfz7_0
 try clear hfz7_1
 try clear hfz7_2
 try clear hfz7_3
 obtain ⟨kq, x26_3, rfl, HA, HJ3, BK224, HB⟩ := hcut
 cases kq with
 | zero => exact absurd HA.out (by simp [value_Integer.j0])
 | succ kj3 =>
  have H := HA.out; clear HA; simp only [value_Integer.j0] at H; by_cases c17 : x26_3 = true
  ·subst c17; rw [if_pos rfl] at H; simp only [Option.some.injEq, Prod.mk.injEq] at H; obtain ⟨rfl, rfl, rfl⟩ := H; go_wp2; go_ret3
   exact ⟨rsl_, bel_⟩
  replace c17 := Bool.eq_false_iff.mpr c17; subst c17; rw [if_neg (show ¬ (false = true) by decide)] at H; replace H := bs_ H; obtain ⟨⟨t228, t229⟩, A180, H⟩ := H; try dsimp only at H
  have A18 := am_ A180; clear A180; by_cases c19 : t229 = 0
  ·rw [if_pos c19] at H; have c19b0 : (t229 == 0) = true := beq_iff_eq.mpr c19; have c19b1 : (t229 != 0) = false := bne_eq_false_iff_eq.mpr c19; clear c19; simp only [Option.some.injEq, Prod.mk.injEq] at H; obtain ⟨rfl, rfl, rfl⟩ := H; obtain ⟨hcz20_0, hcz20_1, hcz20_2, hcz20_3⟩ := c4_ BK224; obtain ⟨hfz20_0, hfz20_1, hfz20_2, hfz20_3⟩ := f4_ BK224; go_wp2_with (first | ((with_reducible refine gate_callee (f := 77) rfl ?_); refine goesL_ (some 31) rfl rfl Tryd.func77 (by kernel_rfl) rfl #[.string t223, .int .i64 1] rfl goa_ ?_; (with_reducible refine (value_scaled.calls kj3 t223 1 t228 t229 _ A18.out).mono ?_); rintro e w21 ⟨rfl, hb⟩; refine ⟨_, rfl, ?_⟩; replace BK224 := blb_ BK224 hb; replace HB := am_ (below_step bel_ hb); clear hb))
   go_ret3
   exact ⟨rsl_, bel_⟩
  rw [if_neg c19] at H; have c19b0 : (t229 == 0) = false := beq_eq_false_iff_ne.mpr c19; have c19b1 : (t229 != 0) = true := bne_iff_ne.mpr c19; simp only [Option.some.injEq, Prod.mk.injEq] at H; obtain ⟨rfl, rfl, rfl⟩ := H; obtain ⟨hcz22_0, hcz22_1, hcz22_2, hcz22_3⟩ := c4_ BK224; obtain ⟨hfz22_0, hfz22_1, hfz22_2, hfz22_3⟩ := f4_ BK224; go_wp2_with (first | ((with_reducible refine gate_callee (f := 77) rfl ?_); refine goesL_ (some 31) rfl rfl Tryd.func77 (by kernel_rfl) rfl #[.string t223, .int .i64 1] rfl goa_ ?_; (with_reducible refine (value_scaled.calls kj3 t223 1 t228 t229 _ A18.out).mono ?_); rintro e w23 ⟨rfl, hb⟩; refine ⟨_, rfl, ?_⟩; replace BK224 := blb_ BK224 hb; replace HB := am_ (below_step bel_ hb); clear hb))
  go_ret3
  exact ⟨rsl_, bel_⟩

/-! ### line_other: function 48 -/
def line_other.f (a0_0 : Int) (a0_1 : Int) (a0_2 : ByteArray) : Option (Int × Int × ByteArray) := if a0_0 = 3 then (some (a0_0, a0_1, a0_2)) else ((line_auto.f).bind fun bt232 => (some (bt232.1, bt232.2.1, bt232.2.2)))
set_option maxHeartbeats 8000000 in
theorem line_other.calls (a0_0 : Int) (a0_1 : Int) (a0_2 : ByteArray) (r1 : Int) (r2 : Int) (r3 : ByteArray) (w : World) (h : line_other.f a0_0 a0_1 a0_2 = some (r1, r2, r3)) :
  Calls Tryd.prog 48 #[.agg #[.int .i64 a0_0, .int .i64 a0_1, .string a0_2]] w fun e w' => e = .returned (.agg #[.int .i64 r1, .int .i64 r2, .string r3]) ∧ Below w.heap.size w w' := by
 have hu41 := Tryd.underlying41; have HB := am_ (Below.refl w.heap.size w); have H : (if a0_0 = 3 then (some (a0_0, a0_1, a0_2)) else ((line_auto.f).bind fun bt232 => (some (bt232.1, bt232.2.1, bt232.2.2)))) = some (r1, r2, r3) := h; clear h; by_cases c2 : a0_0 = 3
 ·rw [if_pos c2] at H; have c2b0 : (a0_0 == 3) = true := beq_iff_eq.mpr c2; have c2b1 : (a0_0 != 3) = false := bne_eq_false_iff_eq.mpr c2; clear c2; simp only [Option.some.injEq, Prod.mk.injEq] at H; obtain ⟨rfl, rfl, rfl⟩ := H; go_enter Tryd.func48, Tryd.ntmps48
  go_wp2_with (first | ((with_reducible refine gate_dst (N := 1) rfl ?_); refine box_event ?hg (N := 1) ?hd (cs := #[.int .i64 a0_0, .int .i64 a0_1, .string a0_2]) (t := 41) ?hr ?_; (case hd => rfl); (case hg => rfl); (case hr => first | (go_simp; done) | (go_simp; rfl)); intro gb230 hg w3 hbox hb; have BK230 := am_ (hbox); have GW230 := am_ ((bsz_ hg : w.heap.size ≤ gb230)); have GE230 := am_ ((bsz_ hg : w.heap.size ≤ gb230)); replace HB := am_ (below_step bel_ hb); clear hb hbox hg) | ((with_reducible refine gate_dst (N := 2) rfl ?_); refine box_event ?hg (N := 2) ?hd (cs := #[.int .i64 0, .int .i64 0, .string (⟨#[]⟩ : ByteArray)]) (t := 41) ?hr ?_; (case hd => rfl); (case hg => rfl); (case hr => first | (go_simp; done) | (go_simp; rfl)); intro gb231 hg w4 hbox hb; have BK231 := am_ (hbox); have GW231 := am_ ((bsz_ hg : w.heap.size ≤ gb231)); have GE231 := am_ ((bsz_ hg : w.heap.size ≤ gb231)); have NB230_231 := am_ (bne_ BK230 hg : gb230 ≠ gb231); have NB231_230 := am_ (bng_ BK230 hg : gb231 ≠ gb230); replace BK230 := blb_ BK230 hb; replace HB := am_ (below_step bel_ hb); clear hb hbox hg; have hnb5 := NB230_231.out; have hnc5 := NB231_230.out; obtain ⟨hcz6_0, hcz6_1, hcz6_2⟩ := c3_ BK230; obtain ⟨hfz6_0, hfz6_1, hfz6_2⟩ := f3_ BK230; obtain ⟨hcz7_0, hcz7_1, hcz7_2⟩ := c3_ BK231; obtain ⟨hfz7_0, hfz7_1, hfz7_2⟩ := f3_ BK231))
  refine bodyPost_ret (results_cell_row rfl _ _ gb231 41 #[.int .i64 a0_0, .int .i64 a0_1, .string a0_2] (0, 0) _ rfl (bch_) Tryd.underlying41 rfl (by kernel_rfl)) rfl ?_
  exact ⟨rsl_, bel_⟩
 rw [if_neg c2] at H; have c2b0 : (a0_0 == 3) = false := beq_eq_false_iff_ne.mpr c2; have c2b1 : (a0_0 != 3) = true := bne_iff_ne.mpr c2; replace H := bs_ H; obtain ⟨⟨t232, t233, t234⟩, A80, H⟩ := H; try dsimp only at H
 have A8 := am_ A80; clear A80; simp only [Option.some.injEq, Prod.mk.injEq] at H; obtain ⟨rfl, rfl, rfl⟩ := H; go_enter Tryd.func48, Tryd.ntmps48
 go_wp2_with (first | ((with_reducible refine gate_dst (N := 1) rfl ?_); refine box_event ?hg (N := 1) ?hd (cs := #[.int .i64 a0_0, .int .i64 a0_1, .string a0_2]) (t := 41) ?hr ?_; (case hd => rfl); (case hg => rfl); (case hr => first | (go_simp; done) | (go_simp; rfl)); intro gb230 hg w9 hbox hb; have BK230 := am_ (hbox); have GW230 := am_ ((bsz_ hg : w.heap.size ≤ gb230)); have GE230 := am_ ((bsz_ hg : w.heap.size ≤ gb230)); replace HB := am_ (below_step bel_ hb); clear hb hbox hg) | ((with_reducible refine gate_dst (N := 2) rfl ?_); refine box_event ?hg (N := 2) ?hd (cs := #[.int .i64 0, .int .i64 0, .string (⟨#[]⟩ : ByteArray)]) (t := 41) ?hr ?_; (case hd => rfl); (case hg => rfl); (case hr => first | (go_simp; done) | (go_simp; rfl)); intro gb231 hg w10 hbox hb; have BK231 := am_ (hbox); have GW231 := am_ ((bsz_ hg : w.heap.size ≤ gb231)); have GE231 := am_ ((bsz_ hg : w.heap.size ≤ gb231)); have NB230_231 := am_ (bne_ BK230 hg : gb230 ≠ gb231); have NB231_230 := am_ (bng_ BK230 hg : gb231 ≠ gb230); replace BK230 := blb_ BK230 hb; replace HB := am_ (below_step bel_ hb); clear hb hbox hg; have hnb11 := NB230_231.out; have hnc11 := NB231_230.out; obtain ⟨hcz12_0, hcz12_1, hcz12_2⟩ := c3_ BK230; obtain ⟨hfz12_0, hfz12_1, hfz12_2⟩ := f3_ BK230) | ((with_reducible refine gate_callee (f := 41) rfl ?_); refine goesL_ (some 7) rfl rfl Tryd.func41 (by kernel_rfl) rfl #[] rfl goa_ ?_; (with_reducible refine (line_auto.calls  t232 t233 t234 _ A8.out).mono ?_); rintro e w13 ⟨rfl, hb⟩; refine ⟨_, rfl, ?_⟩; replace BK230 := blb_ BK230 hb; replace BK231 := blb_ BK231 hb; replace HB := am_ (below_step bel_ hb); clear hb; obtain ⟨hcz14_0, hcz14_1, hcz14_2⟩ := c3_ BK231; obtain ⟨hfz14_0, hfz14_1, hfz14_2⟩ := f3_ BK231))
 refine bodyPost_ret (results_cell_row rfl _ _ gb231 41 #[.int .i64 t232, .int .i64 t233, .string t234] (0, 0) _ rfl (bch_) Tryd.underlying41 rfl (by kernel_rfl)) rfl ?_
 exact ⟨rsl_, bel_⟩

/-! ### value_Sign: function 78 -/
def value_Sign.f (l0 : List (S67)) (a1 : Int) (a2 : ByteArray) : Option (Bool) := (value_word.f l0 a1).bind fun bt235 => (if bt235.1 = 7 then (some (bt235.2.2.1.toList == a2.toList)) else (some false))
set_option maxHeartbeats 8000000 in
theorem value_Sign.calls (A0 : Option Addr) (c0 : Nat) (l0 : List (S67)) (a1 : Int) (a2 : ByteArray) (r : Bool) (w : World) (hr0 : Kd.C k67 w A0 l0.length l0) (hc0 : l0.length ≤ c0) (h : value_Sign.f l0 a1 a2 = some r) :
  Calls Tryd.prog 78 #[.slice A0 l0.length c0, .int .i64 a1, .string a2] w fun e w' => e = .returned (.bool r) ∧ Below w.heap.size w w' := by
 have hu67 := Tryd.underlying67; have HR0 := am_ hr0; have HC0 := am_ hc0; clear hr0 hc0; have HB := am_ (Below.refl w.heap.size w); have H : ((value_word.f l0 a1).bind fun bt235 => (if bt235.1 = 7 then (some (bt235.2.2.1.toList == a2.toList)) else (some false))) = some r := h; clear h; replace H := bs_ H; obtain ⟨⟨t235, t236, t237, t238⟩, A40, H⟩ := H; try dsimp only at H
 have A4 := am_ A40; clear A40; by_cases c5 : t235 = 7
 ·rw [if_pos c5] at H; have c5b0 : (t235 == 7) = true := beq_iff_eq.mpr c5; have c5b1 : (t235 != 7) = false := bne_eq_false_iff_eq.mpr c5; clear c5; obtain rfl := si_ H; go_enter Tryd.func78, Tryd.ntmps78
  go_wp2_with (first | ((with_reducible refine gate_callee (f := 69) rfl ?_); refine goesL_ (some 10) rfl rfl Tryd.func69 (by kernel_rfl) rfl #[.slice A0 l0.length c0, .int .i64 a1] rfl goa_ ?_; (with_reducible refine (value_word.calls _ _ l0 a1 t235 t236 t237 t238 _ ?side1 ?side2 A4.out).mono ?_); (case side1 => exact cin_); (case side2 => exact HC0.out); rintro e w6 ⟨rfl, hb⟩; refine ⟨_, rfl, ?_⟩; replace HB := am_ (below_step bel_ hb); clear hb) | ((with_reducible refine gate_dst (N := 7) rfl ?_); refine box_event ?hg (N := 7) ?hd (cs := #[.int .i64 0, .int .i64 0, .string (⟨#[]⟩ : ByteArray), .string (⟨#[]⟩ : ByteArray)]) (t := 67) ?hr ?_; (case hd => rfl); (case hg => rfl); (case hr => first | (go_simp; done) | (go_simp; rfl)); intro gb239 hg w7 hbox hb; have BK239 := am_ (hbox); have GW239 := am_ ((bsz_ hg : w.heap.size ≤ gb239)); have GE239 := am_ ((bsz_ hg : w.heap.size ≤ gb239)); replace HB := am_ (below_step bel_ hb); clear hb hbox hg; obtain ⟨hcz8_0, hcz8_1, hcz8_2, hcz8_3⟩ := c4_ BK239; obtain ⟨hfz8_0, hfz8_1, hfz8_2, hfz8_3⟩ := f4_ BK239))
  go_ret
  exact ⟨rsl_, bel_⟩
 rw [if_neg c5] at H; have c5b0 : (t235 == 7) = false := beq_eq_false_iff_ne.mpr c5; have c5b1 : (t235 != 7) = true := bne_iff_ne.mpr c5; obtain rfl := si_ H; go_enter Tryd.func78, Tryd.ntmps78
 go_wp2_with (first | ((with_reducible refine gate_callee (f := 69) rfl ?_); refine goesL_ (some 10) rfl rfl Tryd.func69 (by kernel_rfl) rfl #[.slice A0 l0.length c0, .int .i64 a1] rfl goa_ ?_; (with_reducible refine (value_word.calls _ _ l0 a1 t235 t236 t237 t238 _ ?side1 ?side2 A4.out).mono ?_); (case side1 => exact cin_); (case side2 => exact HC0.out); rintro e w9 ⟨rfl, hb⟩; refine ⟨_, rfl, ?_⟩; replace HB := am_ (below_step bel_ hb); clear hb) | ((with_reducible refine gate_dst (N := 7) rfl ?_); refine box_event ?hg (N := 7) ?hd (cs := #[.int .i64 0, .int .i64 0, .string (⟨#[]⟩ : ByteArray), .string (⟨#[]⟩ : ByteArray)]) (t := 67) ?hr ?_; (case hd => rfl); (case hg => rfl); (case hr => first | (go_simp; done) | (go_simp; rfl)); intro gb239 hg w10 hbox hb; have BK239 := am_ (hbox); have GW239 := am_ ((bsz_ hg : w.heap.size ≤ gb239)); have GE239 := am_ ((bsz_ hg : w.heap.size ≤ gb239)); replace HB := am_ (below_step bel_ hb); clear hb hbox hg; obtain ⟨hcz11_0, hcz11_1, hcz11_2, hcz11_3⟩ := c4_ BK239; obtain ⟨hfz11_0, hfz11_1, hfz11_2, hfz11_3⟩ := f4_ BK239))
 go_ret
 exact ⟨rsl_, bel_⟩

end Go.Proofs.YtofdhdafabmhmaaDoor.PLf4
end
