-- Written by a program of this session (wip/p2) out of the translation; Lean checks it.
import Derived.Test.YtipjoejaeipgnaaDoorSq
import Derived.Test.YtipjoejaeipgnaaDoorPFlx0
namespace Go.Proofs.YtipjoejaeipgnaaDoor.PFl
open Go.RowKit Go.Proofs.YtipjoejaeipgnaaDoorW.PrintWords Go.Proofs.YtipjoejaeipgnaaDoorW.PrintLast Go.Proofs.YtipjoejaeipgnaaDoorW.PrintMore
attribute [local go_sem] max2_int min2_int max_two min_two max_three min_three max_four min_four   -- for this text's walks alone
set_option linter.unusedVariables false
set_option linter.unusedSimpArgs false
open Go.Proofs.YtipjoejaeipgnaaDoor.Opn Go.Proofs.YtipjoejaeipgnaaDoor.Giv

/-! ### number_scaled: function 25 -/
mutual
def number_scaled.j1 : Nat → List Int → Int → Int → Option (Int × Bool)
 | 0, _, _, _ => none
 | k + 1, x0, x1, x2 => if (x0.length : Int) = 0 then (number_scaled.j2 k x0 x1 x2 true) else (number_scaled.j2 k x0 x1 x2 (decide (x1 < (-5))))
def number_scaled.j2 : Nat → List Int → Int → Int → Bool → Option (Int × Bool)
 | 0, _, _, _, _ => none
 | k + 1, x0, x1, x2, x28 => if x28 = true then (some (0, true)) else (if x1 > 13 then (some (0, false)) else (number_scaled.l1 k x0 x1 x2 0 (mx 0 x1) 0))
def number_scaled.l1 : Nat → List Int → Int → Int → Int → Int → Int → Option (Int × Bool)
 | 0, _, _, _, _, _, _ => none
 | k + 1, x0, x1, x2, x8, x40, x41 => if x41 < x40 then (if x41 < (x0.length : Int) then (if 0 ≤ x41 then (number_scaled.l1 k x0 x1 x2 (wrap64 ((wrap64 (x8 * 10)) + (wrap64 (rd x0 x41)))) x40 (wrap64 (x41 + 1))) else (none)) else (number_scaled.l1 k x0 x1 x2 (wrap64 (x8 * 10)) x40 (wrap64 (x41 + 1)))) else (number_scaled.l2 k x0 x1 x2 x8 ([] : List Int) (mx 0 (wrap64 (-x1))) 0)
def number_scaled.l2 : Nat → List Int → Int → Int → Int → List Int → Int → Int → Option (Int × Bool)
 | 0, _, _, _, _, _, _, _ => none
 | k + 1, x0, x1, x2, x8, x10, x60, x61 => if x61 < x60 then (if x10.length < 140737488355328 then (number_scaled.l2 k x0 x1 x2 x8 (x10 ++ [0]) x60 (wrap64 (x61 + 1))) else (none)) else (if 0 ≤ (mn (x0.length : Int) (mx 0 x1)) then (if (mn (x0.length : Int) (mx 0 x1)) ≤ (x0.length : Int) then ((some (x0.drop ((mn (x0.length : Int) (mx 0 x1)) : Int).toNat : List Int)).bind fun y111 => (if x10.length + y111.length < 140737488355328 then ((some (x10 ++ y111 : List Int)).bind fun y116 => (number_scaled.l3 k x2 x8 y116 0 (wrap64 ((y116.length : Int) - 1)))) else (none))) else (none)) else (none))
def number_scaled.l3 : Nat → Int → Int → List Int → Int → Int → Option (Int × Bool)
 | 0, _, _, _, _, _ => none
 | k + 1, x2, x8, x10, x11, x12 => if x12 ≥ 0 then (if 0 ≤ x12 then (if x12 < (x10.length : Int) then (number_scaled.l3 k x2 x8 (x10.set (x12 : Int).toNat ((Int.tmod (wrap64 ((wrap64 ((wrap64 (rd x10 x12)) * x2)) + x11)) 10) % 256)) (wrap64 (Int.tdiv (wrap64 ((wrap64 ((wrap64 (rd x10 x12)) * x2)) + x11)) 10)) (wrap64 (x12 - 1))) else (none)) else (none)) else (if (x10.length : Int) > 0 then (if 0 < (x10.length : Int) then (if (rd x10 0) ≥ 5 then (some (wrap64 ((wrap64 ((wrap64 (x8 * x2)) + x11)) + 1), decide ((wrap64 ((wrap64 ((wrap64 (x8 * x2)) + x11)) + 1)) ≤ 68719476736))) else (some (wrap64 ((wrap64 (x8 * x2)) + x11), decide ((wrap64 ((wrap64 (x8 * x2)) + x11)) ≤ 68719476736)))) else (none)) else (some (wrap64 ((wrap64 (x8 * x2)) + x11), decide ((wrap64 ((wrap64 (x8 * x2)) + x11)) ≤ 68719476736))))
def number_scaled.l0 : Nat → List Int → Int → Int → Option (Int × Bool)
 | 0, _, _, _ => none
 | k + 1, x0, x1, x2 => if (x0.length : Int) > 0 then (if 0 < (x0.length : Int) then (if (rd x0 0) = 0 then (if 1 ≤ (x0.length : Int) then (number_scaled.l0 k (x0.drop 1) (wrap64 (x1 - 1)) x2) else (none)) else (number_scaled.j1 k x0 x1 x2)) else (none)) else (number_scaled.j1 k x0 x1 x2)
end
def number_scaled.f (k : Nat) (l0 : List Int) (a1 : Int) (a2 : Int) : Option (Int × Bool) := number_scaled.l0 k l0 a1 a2
theorem number_scaled.mono_l : ∀ k, (∀ y0 y1 y2, LeO (number_scaled.j1 k y0 y1 y2) (number_scaled.j1 (k + 1) y0 y1 y2)) ∧ (∀ y0 y1 y2 y3, LeO (number_scaled.j2 k y0 y1 y2 y3) (number_scaled.j2 (k + 1) y0 y1 y2 y3)) ∧ (∀ y0 y1 y2 y3 y4 y5, LeO (number_scaled.l1 k y0 y1 y2 y3 y4 y5) (number_scaled.l1 (k + 1) y0 y1 y2 y3 y4 y5)) ∧ (∀ y0 y1 y2 y3 y4 y5 y6, LeO (number_scaled.l2 k y0 y1 y2 y3 y4 y5 y6) (number_scaled.l2 (k + 1) y0 y1 y2 y3 y4 y5 y6)) ∧ (∀ y0 y1 y2 y3 y4, LeO (number_scaled.l3 k y0 y1 y2 y3 y4) (number_scaled.l3 (k + 1) y0 y1 y2 y3 y4)) ∧ (∀ y0 y1 y2, LeO (number_scaled.l0 k y0 y1 y2) (number_scaled.l0 (k + 1) y0 y1 y2))
 | 0 => ⟨fun _ _ _ r h => by simp [number_scaled.j1] at h, fun _ _ _ _ r h => by simp [number_scaled.j2] at h, fun _ _ _ _ _ _ r h => by simp [number_scaled.l1] at h, fun _ _ _ _ _ _ _ r h => by simp [number_scaled.l2] at h, fun _ _ _ _ _ r h => by simp [number_scaled.l3] at h, fun _ _ _ r h => by simp [number_scaled.l0] at h⟩
 | k + 1 => by
  obtain ⟨ih0, ih1, ih2, ih3, ih4, ih5⟩ := number_scaled.mono_l k
  refine ⟨?_, ?_, ?_, ?_, ?_, ?_⟩
  ·intro y0 y1 y2
   unfold number_scaled.j1
   repeat' first
   | (with_reducible exact ih0 _ _ _)
   | (with_reducible exact ih1 _ _ _ _)
   | (with_reducible exact ih2 _ _ _ _ _ _)
   | (with_reducible exact ih3 _ _ _ _ _ _ _)
   | (with_reducible exact ih4 _ _ _ _ _)
   | (with_reducible exact ih5 _ _ _)
   | (with_reducible exact LeO.refl _)
   | (with_reducible exact LeO.none _)
   | (with_reducible refine LeO.ite ?_ ?_)
   | (with_reducible refine LeO.bind ?_ (fun _ => ?_))
  ·intro y0 y1 y2 y3
   unfold number_scaled.j2
   repeat' first
   | (with_reducible exact ih0 _ _ _)
   | (with_reducible exact ih1 _ _ _ _)
   | (with_reducible exact ih2 _ _ _ _ _ _)
   | (with_reducible exact ih3 _ _ _ _ _ _ _)
   | (with_reducible exact ih4 _ _ _ _ _)
   | (with_reducible exact ih5 _ _ _)
   | (with_reducible exact LeO.refl _)
   | (with_reducible exact LeO.none _)
   | (with_reducible refine LeO.ite ?_ ?_)
   | (with_reducible refine LeO.bind ?_ (fun _ => ?_))
  ·intro y0 y1 y2 y3 y4 y5
   unfold number_scaled.l1
   repeat' first
   | (with_reducible exact ih0 _ _ _)
   | (with_reducible exact ih1 _ _ _ _)
   | (with_reducible exact ih2 _ _ _ _ _ _)
   | (with_reducible exact ih3 _ _ _ _ _ _ _)
   | (with_reducible exact ih4 _ _ _ _ _)
   | (with_reducible exact ih5 _ _ _)
   | (with_reducible exact LeO.refl _)
   | (with_reducible exact LeO.none _)
   | (with_reducible refine LeO.ite ?_ ?_)
   | (with_reducible refine LeO.bind ?_ (fun _ => ?_))
  ·intro y0 y1 y2 y3 y4 y5 y6
   unfold number_scaled.l2
   repeat' first
   | (with_reducible exact ih0 _ _ _)
   | (with_reducible exact ih1 _ _ _ _)
   | (with_reducible exact ih2 _ _ _ _ _ _)
   | (with_reducible exact ih3 _ _ _ _ _ _ _)
   | (with_reducible exact ih4 _ _ _ _ _)
   | (with_reducible exact ih5 _ _ _)
   | (with_reducible exact LeO.refl _)
   | (with_reducible exact LeO.none _)
   | (with_reducible refine LeO.ite ?_ ?_)
   | (with_reducible refine LeO.bind ?_ (fun _ => ?_))
  ·intro y0 y1 y2 y3 y4
   unfold number_scaled.l3
   repeat' first
   | (with_reducible exact ih0 _ _ _)
   | (with_reducible exact ih1 _ _ _ _)
   | (with_reducible exact ih2 _ _ _ _ _ _)
   | (with_reducible exact ih3 _ _ _ _ _ _ _)
   | (with_reducible exact ih4 _ _ _ _ _)
   | (with_reducible exact ih5 _ _ _)
   | (with_reducible exact LeO.refl _)
   | (with_reducible exact LeO.none _)
   | (with_reducible refine LeO.ite ?_ ?_)
   | (with_reducible refine LeO.bind ?_ (fun _ => ?_))
  ·intro y0 y1 y2
   unfold number_scaled.l0
   repeat' first
   | (with_reducible exact ih0 _ _ _)
   | (with_reducible exact ih1 _ _ _ _)
   | (with_reducible exact ih2 _ _ _ _ _ _)
   | (with_reducible exact ih3 _ _ _ _ _ _ _)
   | (with_reducible exact ih4 _ _ _ _ _)
   | (with_reducible exact ih5 _ _ _)
   | (with_reducible exact LeO.refl _)
   | (with_reducible exact LeO.none _)
   | (with_reducible refine LeO.ite ?_ ?_)
   | (with_reducible refine LeO.bind ?_ (fun _ => ?_))
theorem number_scaled.mono : ∀ a0 a1 a2 k, LeO (number_scaled.f k a0 a1 a2) (number_scaled.f (k + 1) a0 a1 a2) := by
 intro a0 a1 a2 k
 obtain ⟨ih0, ih1, ih2, ih3, ih4, ih5⟩ := number_scaled.mono_l k
 unfold number_scaled.f
 repeat' first
   | (with_reducible exact ih0 _ _ _)
   | (with_reducible exact ih1 _ _ _ _)
   | (with_reducible exact ih2 _ _ _ _ _ _)
   | (with_reducible exact ih3 _ _ _ _ _ _ _)
   | (with_reducible exact ih4 _ _ _ _ _)
   | (with_reducible exact ih5 _ _ _)
   | (with_reducible exact LeO.refl _)
   | (with_reducible exact LeO.none _)
   | (with_reducible refine LeO.ite ?_ ?_)
   | (with_reducible refine LeO.bind ?_ (fun _ => ?_))
set_option maxHeartbeats 8000000 in
set_option maxRecDepth 100000 in
theorem number_scaled.calls (k : Nat) (P0_ : Nat → Prop) (A0 : Option Addr) (c0 : Nat) (l0 : List Int) (a1 : Int) (a2 : Int) (r1 : Int) (r2 : Bool) (w : World) (hs0 : Kd.V (Kd.int .u8) 5 w w.heap.size (fun k_ => P0_ k_) (.slice A0 l0.length c0) l0) (h : number_scaled.f k l0 a1 a2 = some (r1, r2)) :
  Calls Tryd.prog 25 #[.slice A0 l0.length c0, .int .i64 a1, .int .i64 a2] w fun e w' => e = .returned (.tuple #[.int .i64 r1, .bool r2]) ∧ Below w.heap.size w w' := by
 have HO0 := Aside0.mk (show Kd.V (Kd.int .u8) 5 w w.heap.size (fun k_ => (P0_ k_ ∨ w.heap.size ≤ k_)) (.slice A0 l0.length c0) l0 from Kd.V_mono hs0 (fun k_ hk => .inl hk))
 have HB := Aside0.mk (Below.refl w.heap.size w)
 have H : (number_scaled.l0 k l0 a1 a2) = some (r1, r2) := h
 clear h
 have HC4 := Aside0.mk H
 clear H
 go_enter Tryd.func25, Tryd.ntmps25
 go_upto_block 0 with (fail)
 go_cut [0, 1] (fun v0 v1 wc => ∃ (kq : Nat) (x0_3 : List Int) (x1_3 : Int), v1 = .int .i64 x1_3 ∧ Aside0 (number_scaled.j1 kq x0_3 x1_3 a2 = some (r1, r2)) ∧ Aside0 (kq ≤ k) ∧ Aside0 (Kd.V (Kd.int .u8) 5 wc w.heap.size (fun k_ => (P0_ k_ ∨ w.heap.size ≤ k_)) v0 x0_3) ∧ Aside0 (Below w.heap.size w wc))
 case first =>
  have H := HC4.out
  clear HC4
  have H' := Aside0.mk H
  clear H
  go_wp2
  go_loopg [0, 1] k (fun kq v0 v1 w' => ∃ (x0_1 : List Int) (x1_1 : Int), v1 = .int .i64 x1_1 ∧ Aside0 (number_scaled.l0 kq x0_1 x1_1 a2 = some (r1, r2)) ∧ Aside0 (kq ≤ k) ∧ Aside0 (Kd.V (Kd.int .u8) 5 w' w.heap.size (fun k_ => (P0_ k_ ∨ w.heap.size ≤ k_)) v0 x0_1) ∧ Aside0 (Below w.heap.size w w'))
  case atStart => exact ⟨(l0), (a1), rfs_, H', ⟨Nat.le_refl _⟩, ⟨by (with_reducible repeat (first | apply Kd.V_alloc | apply Kd.V_drewN | apply Kd.V_drew)); exact HO0.out⟩, ⟨bel_⟩⟩
  case round =>
   clear H'
   try clear c2
   try clear p2
   obtain ⟨x0_1, x1_1, rfl, HA, HK1, HO_0, HB⟩ := hrel
   cases gk with
   | zero => exact absurd HA.out (by simp [number_scaled.l0])
   | succ k1 =>
    have H := HA.out
    clear HA
    simp only [number_scaled.l0] at H
    by_cases c5 : (x0_1.length : Int) > 0
    ·rw [if_pos c5] at H
     have c5b0 : decide (0 < (x0_1.length : Int)) = true := decide_eq_true c5
     have c5b1 : decide (0 < x0_1.length) = true := decide_eq_true (by omega)
     clear c5
     (first | rw [c5b0] | (simp only [i64_w, i32_w]; rw [c5b0]) | skip)
     by_cases c6 : 0 < (x0_1.length : Int)
     ·rw [if_pos c6] at H
      have c6b0 : decide (0 < (x0_1.length : Int)) = true := decide_eq_true c6
      have c6b1 : decide (0 < x0_1.length) = true := decide_eq_true (by omega)
      clear c6
      by_cases c7 : (rd x0_1 0) = 0
      ·rw [if_pos c7] at H
       have c7b0 : ((rd x0_1 0) == 0) = true := beq_iff_eq.mpr c7
       have c7b1 : ((rd x0_1 0) != 0) = false := bne_eq_false_iff_eq.mpr c7
       clear c7
       by_cases c8 : 1 ≤ (x0_1.length : Int)
       ·rw [if_pos c8] at H
        have c8b0 := eq_true c8
        have c8b1 : decide (1 ≤ (x0_1.length : Int)) = true := decide_eq_true c8
        clear c8
        obtain ⟨y102, hy102⟩ : ∃ y_ : List Int, y_ = (x0_1.drop 1) := ⟨_, rfl⟩
        replace H : (number_scaled.l0 k1 y102 (wrap64 (x1_1 - 1)) a2) = some (r1, r2) := by first | (rw [hy102]; with_reducible exact H) | (have H2_ := (Option.bind_some _ _).symm.trans H; rw [hy102]; with_reducible exact H2_) | (have H2_ := (Option.bind_some _ _).symm.trans H; with_reducible exact H2_) | with_reducible exact H | (rw [hy102]; exact H) | exact H
        have Ny102 := Aside0.mk hy102
        clear hy102
        have H' := Aside0.mk H
        clear H
        obtain ⟨Ao9, co9, eo9⟩ := Kd.V_slice HO_0.out
        subst eo9
        have p101 : 0 ≤ (0 : Int) := (by omega)
        have q101 : 0 < (x0_1.length : Int) := of_decide_eq_true (by first | (with_reducible assumption) | assumption)
        obtain ⟨ad101, e101, hx101_0⟩ := Kd.at_int (Kd.V_reads' HO_0.out).2.2 0 p101 q101
        cases e101
        have qi101 : (0 < x0_1.length) = True := eq_true (by omega)
        (try rw [show ((0 : Int)).toNat = 0 from rfl] at hx101_0)
        (try rw [Addr.add_zero'] at hx101_0)
        replace p101 := eq_true p101
        replace q101 := eq_true q101
        have q10 : (1 : Int) ≤ ((x0_1.length : Int) : Int) := of_decide_eq_true (by first | (with_reducible assumption) | assumption)
        obtain ⟨i010, hi010, _, hsz10, _⟩ := info_parts info5
        have hroom10 : x0_1.length ≤ co9 := (Kd.V_reads' HO_0.out).2.1
        have hC10 : Kd.F (Kd.int .u8) _ _ (some ad101) x0_1.length x0_1 := (Kd.V_at (base := w.heap.size) HO_0.out).2.2
        have hcut10 := cut_from (P := Tryd.prog) 45 5 .i64 Tryd.underlying45 hi010 1 hsz10 (some ad101) x0_1.length co9 1 (by omega) q10
        have hr10 := Kd.F_cut (m := (1 : Int).toNat) (c := co9) hC10 (by omega) hroom10
        obtain ⟨A10, hA10⟩ : ∃ A1, A1 = (if co9 = (1 : Int).toNat then (some ad101) else ((some ad101) : Option Addr).map (·.add ((1 : Int).toNat * 1))) := ⟨_, rfl⟩
        obtain ⟨c10, hc10⟩ : ∃ c1, c1 = co9 - (1 : Int).toNat := ⟨_, rfl⟩
        have hy10 : y102.length = x0_1.length - (1 : Int).toNat := (by rw [Ny102.out, List.length_drop] <;> omega)
        rw [show (x0_1).drop (1 : Int).toNat = y102 from Ny102.out.symm] at hr10
        replace hr10 : Kd.F (Kd.int .u8) _ _ A10 y102.length y102 := (by rw [hA10]; exact hr10)
        rw [← hy10, ← hA10, ← hc10] at hcut10
        have HO106 := Aside0.mk (show Kd.V (Kd.int .u8) 5 _ w.heap.size _ (.slice A10 y102.length c10) y102 from Kd.V_mk (by rw [hy10, hc10]; exact Nat.sub_le_sub_right hroom10 _) hr10)
        have HC106 := Aside0.mk (show y102.length ≤ c10 from by rw [hy10, hc10]; exact Nat.sub_le_sub_right hroom10 _)
        clear hr10 hC10 hroom10 hi010 hsz10 hc10
        have KY10 := Aside0.mk hy10
        have KA10 := Aside0.mk hA10
        clear hy10 hA10
        replace q10 := eq_true q10
        go_wp2
        go_roundg k1
        case measure => have := HK1.out; omega
        case rel => exact ⟨(y102), (wrap64 (x1_1 - 1)), rfs_, H', ⟨by have := HK1.out; omega⟩, ⟨by (with_reducible repeat (first | apply Kd.V_alloc | apply Kd.V_drewN | apply Kd.V_drew)); exact HO106.out⟩, ⟨bel_⟩⟩
       ·rw [if_neg c8] at H
        exact absurd H (by simp)
      ·rw [if_neg c7] at H
       have c7b0 : ((rd x0_1 0) == 0) = false := beq_eq_false_iff_ne.mpr c7
       have c7b1 : ((rd x0_1 0) != 0) = true := bne_iff_ne.mpr c7
       have H' := Aside0.mk H
       clear H
       obtain ⟨Ao11, co11, eo11⟩ := Kd.V_slice HO_0.out
       subst eo11
       have p101 : 0 ≤ (0 : Int) := (by omega)
       have q101 : 0 < (x0_1.length : Int) := of_decide_eq_true (by first | (with_reducible assumption) | assumption)
       obtain ⟨ad101, e101, hx101_0⟩ := Kd.at_int (Kd.V_reads' HO_0.out).2.2 0 p101 q101
       cases e101
       have qi101 : (0 < x0_1.length) = True := eq_true (by omega)
       (try rw [show ((0 : Int)).toNat = 0 from rfl] at hx101_0)
       (try rw [Addr.add_zero'] at hx101_0)
       replace p101 := eq_true p101
       replace q101 := eq_true q101
       go_wp2
       go_meet
       case rel => exact ⟨_, (x0_1), (x1_1), rfs_, H', ⟨by have := HK1.out; first | omega | exact Nat.le_refl _⟩, ⟨by (with_reducible repeat (first | apply Kd.V_alloc | apply Kd.V_drewN | apply Kd.V_drew)); exact HO_0.out⟩, ⟨bel_⟩⟩
     ·rw [if_neg c6] at H
      exact absurd H (by simp)
    ·rw [if_neg c5] at H
     have c5b0 : decide (0 < (x0_1.length : Int)) = false := decide_eq_false c5
     have c5b1 : decide (0 < x0_1.length) = false := decide_eq_false (by omega)
     clear c5
     (first | rw [c5b0] | (simp only [i64_w, i32_w]; rw [c5b0]) | skip)
     have H' := Aside0.mk H
     clear H
     obtain ⟨Ao12, co12, eo12⟩ := Kd.V_slice HO_0.out
     subst eo12
     go_wp2
     go_meet
     case rel => exact ⟨_, (x0_1), (x1_1), rfs_, H', ⟨by have := HK1.out; first | omega | exact Nat.le_refl _⟩, ⟨by (with_reducible repeat (first | apply Kd.V_alloc | apply Kd.V_drewN | apply Kd.V_drew)); exact HO_0.out⟩, ⟨bel_⟩⟩
 case rest =>
  clear HC4
  try clear c1
  try clear p1
  try clear q1
  try clear hx1
  try clear qi1
  try clear c2
  try clear p2
  try clear c5
  try clear c5b0
  try clear c5b1
  try clear c6
  try clear c6b0
  try clear c6b1
  try clear p6
  try clear c7
  try clear c7b0
  try clear c7b1
  try clear c8
  try clear c8b0
  try clear c8b1
  try clear c10
  try clear p10
  try clear q10
  try clear hx10
  try clear qi10
  try clear hx101_0
  try clear p101
  try clear p2
  try clear q10
  try clear q101
  obtain ⟨kq, x0_3, x1_3, rfl, HA, HJ3, HO_0, HB⟩ := hcut
  cases kq with
  | zero => exact absurd HA.out (by simp [number_scaled.j1])
  | succ kj3 =>
   have H := HA.out
   clear HA
   simp only [number_scaled.j1] at H
   have HC13 := Aside0.mk H
   clear H
   go_upto_region 4 with (fail)
   go_cut [28] (fun v28 wc => ∃ (kq : Nat) (x28_12 : Bool), v28 = .bool x28_12 ∧ Aside0 (number_scaled.j2 kq x0_3 x1_3 a2 x28_12 = some (r1, r2)) ∧ Aside0 (kq ≤ kj3) ∧ Aside0 (Kd.V (Kd.int .u8) 5 wc w.heap.size (fun k_ => (P0_ k_ ∨ w.heap.size ≤ k_)) u0 x0_3) ∧ Aside0 (Below w.heap.size w wc))
   case first =>
    have H := HC13.out
    clear HC13
    by_cases c14 : (x0_3.length : Int) = 0
    ·rw [if_pos c14] at H
     have c14b0 : ((x0_3.length : Int) == 0) = true := beq_iff_eq.mpr c14
     have c14b1 : ((x0_3.length : Int) != 0) = false := bne_eq_false_iff_eq.mpr c14
     clear c14
     (first | rw [c14b0] | (simp only [i64_w, i32_w]; rw [c14b0]) | skip)
     have H' := Aside0.mk H
     clear H
     obtain ⟨Ao15, co15, eo15⟩ := Kd.V_slice HO_0.out
     subst eo15
     go_wp2
     go_meet
     case rel => exact ⟨_, (true), rfs_, H', ⟨by have := HJ3.out; first | omega | exact Nat.le_refl _⟩, ⟨by (with_reducible repeat (first | apply Kd.V_alloc | apply Kd.V_drewN | apply Kd.V_drew)); exact HO_0.out⟩, ⟨bel_⟩⟩
    ·rw [if_neg c14] at H
     have c14b0 : ((x0_3.length : Int) == 0) = false := beq_eq_false_iff_ne.mpr c14
     have c14b1 : ((x0_3.length : Int) != 0) = true := bne_iff_ne.mpr c14
     have c14b2 : ¬ (x0_3 = []) := fun h_ => c14 (by rw [h_]; rfl)
     (first | rw [c14b0] | (simp only [i64_w, i32_w]; rw [c14b0]) | skip)
     have H' := Aside0.mk H
     clear H
     obtain ⟨Ao16, co16, eo16⟩ := Kd.V_slice HO_0.out
     subst eo16
     go_wp2
     go_meet
     case rel => exact ⟨_, (decide (x1_3 < (-5))), rfs_, H', ⟨by have := HJ3.out; first | omega | exact Nat.le_refl _⟩, ⟨by (with_reducible repeat (first | apply Kd.V_alloc | apply Kd.V_drewN | apply Kd.V_drew)); exact HO_0.out⟩, ⟨bel_⟩⟩
   case rest =>
    clear HC13
    try clear c1
    try clear p1
    try clear q1
    try clear hx1
    try clear qi1
    try clear c2
    try clear p2
    try clear c5
    try clear c5b0
    try clear c5b1
    try clear c6
    try clear c6b0
    try clear c6b1
    try clear p6
    try clear c7
    try clear c7b0
    try clear c7b1
    try clear c8
    try clear c8b0
    try clear c8b1
    try clear c10
    try clear p10
    try clear q10
    try clear hx10
    try clear qi10
    try clear c14
    try clear c14b0
    try clear c14b1
    try clear c14b2
    try clear hx101_0
    try clear p1
    try clear p10
    try clear p101
    try clear p2
    try clear p6
    try clear q1
    try clear q10
    try clear q101
    obtain ⟨kq, x28_12, rfl, HA, HJ12, HO_0, HB⟩ := hcut
    cases kq with
    | zero => exact absurd HA.out (by simp [number_scaled.j2])
    | succ kj12 =>
     have H := HA.out
     clear HA
     simp only [number_scaled.j2] at H
     by_cases c17 : x28_12 = true
     ·subst c17
      rw [if_pos rfl] at H
      simp only [Option.some.injEq, Prod.mk.injEq] at H
      obtain ⟨rfl, rfl⟩ := H
      go_wp2
      go_ret2
      exact ⟨rsl_, bel_⟩
     ·replace c17 := Bool.eq_false_iff.mpr c17
      subst c17
      rw [if_neg (show ¬ (false = true) by decide)] at H
      by_cases c18 : x1_3 > 13
      ·rw [if_pos c18] at H
       have c18b0 : decide (13 < x1_3) = true := decide_eq_true c18
       clear c18
       simp only [Option.some.injEq, Prod.mk.injEq] at H
       obtain ⟨rfl, rfl⟩ := H
       go_wp2
       go_ret2
       exact ⟨rsl_, bel_⟩
      ·rw [if_neg c18] at H
       have c18b0 : decide (13 < x1_3) = false := decide_eq_false c18
       clear c18
       obtain ⟨ji19, hji19⟩ : ∃ j_ : Int, (mx 0 x1_3) = j_ := ⟨_, rfl⟩
       replace H : (number_scaled.l1 kj12 x0_3 x1_3 a2 0 ji19 0) = some (r1, r2) := by first | (rw [hji19] at H; exact H) | (simp only [hji19] at H ⊢; exact H)
       have hji19_ : (if 0 < x1_3 then x1_3 else 0) = ji19 := hji19
       have H' := Aside0.mk H
       clear H
       go_wp2
       go_loopg [8, 41] kj12 (fun kq v8 v41 w' => ∃ (x8_3 : Int) (x41_3 : Int), v8 = .int .i64 x8_3 ∧ v41 = .int .i64 x41_3 ∧ Aside0 (number_scaled.l1 kq x0_3 x1_3 a2 x8_3 ji19 x41_3 = some (r1, r2)) ∧ Aside0 (kq ≤ kj12) ∧ Aside0 (Kd.V (Kd.int .u8) 5 w' w.heap.size (fun k_ => (P0_ k_ ∨ w.heap.size ≤ k_)) u0 x0_3) ∧ Aside0 (Below w.heap.size w w'))
       case atStart => exact ⟨(0), (0), rfs_, rfs_, H', ⟨Nat.le_refl _⟩, ⟨by (with_reducible repeat (first | apply Kd.V_alloc | apply Kd.V_drewN | apply Kd.V_drew)); exact HO_0.out⟩, ⟨bel_⟩⟩
       case round =>
        clear H'
        try clear c1
        try clear p1
        try clear q1
        try clear hx1
        try clear qi1
        try clear c2
        try clear p2
        try clear c5
        try clear c5b0
        try clear c5b1
        try clear c6
        try clear c6b0
        try clear c6b1
        try clear p6
        try clear c7
        try clear c7b0
        try clear c7b1
        try clear c8
        try clear c8b0
        try clear c8b1
        try clear c10
        try clear p10
        try clear q10
        try clear hx10
        try clear qi10
        try clear c14
        try clear c14b0
        try clear c14b1
        try clear c14b2
        try clear c17
        try clear c18
        try clear c18b0
        try clear hx101_0
        try clear p1
        try clear p10
        try clear p101
        try clear p2
        try clear p6
        try clear q1
        try clear q10
        try clear q101
        obtain ⟨x8_3, x41_3, rfl, rfl, HA, HK3, HO_0, HB⟩ := hrel
        cases gk with
        | zero => exact absurd HA.out (by simp [number_scaled.l1])
        | succ k3 =>
         have H := HA.out
         clear HA
         simp only [number_scaled.l1] at H
         by_cases c20 : x41_3 < ji19
         ·rw [if_pos c20] at H
          have c20b0 : decide (x41_3 < ji19) = true := decide_eq_true c20
          clear c20
          by_cases c21 : x41_3 < (x0_3.length : Int)
          ·rw [if_pos c21] at H
           have c21b0 : decide (x41_3 < (x0_3.length : Int)) = true := decide_eq_true c21
           clear c21
           by_cases c22 : 0 ≤ x41_3
           ·rw [if_pos c22] at H
            have c22b0 : decide (0 ≤ x41_3) = true := decide_eq_true c22
            clear c22
            have H' := Aside0.mk H
            clear H
            obtain ⟨Ao23, co23, eo23⟩ := Kd.V_slice HO_0.out
            subst eo23
            have p107 : 0 ≤ (x41_3 : Int) := of_decide_eq_true (by first | (with_reducible assumption) | assumption)
            have q107 : x41_3 < (x0_3.length : Int) := of_decide_eq_true (by first | (with_reducible assumption) | assumption)
            obtain ⟨ad107, e107, hx107_0⟩ := Kd.at_int (Kd.V_reads' HO_0.out).2.2 x41_3 p107 q107
            cases e107
            replace p107 := eq_true p107
            replace q107 := eq_true q107
            go_wp2
            go_roundg k3
            case measure => have := HJ3.out; have := HJ12.out; have := HK3.out; omega
            case rel => exact ⟨(wrap64 ((wrap64 (x8_3 * 10)) + (wrap64 (rd x0_3 x41_3)))), (wrap64 (x41_3 + 1)), rfs_, rfs_, H', ⟨by have := HJ3.out; have := HJ12.out; have := HK3.out; omega⟩, ⟨by (with_reducible repeat (first | apply Kd.V_alloc | apply Kd.V_drewN | apply Kd.V_drew)); exact HO_0.out⟩, ⟨bel_⟩⟩
           ·rw [if_neg c22] at H
            exact absurd H (by simp)
          ·rw [if_neg c21] at H
           have c21b0 : decide (x41_3 < (x0_3.length : Int)) = false := decide_eq_false c21
           clear c21
           have H' := Aside0.mk H
           clear H
           obtain ⟨Ao24, co24, eo24⟩ := Kd.V_slice HO_0.out
           subst eo24
           go_wp2
           go_roundg k3
           case measure => have := HJ3.out; have := HJ12.out; have := HK3.out; omega
           case rel => exact ⟨(wrap64 (x8_3 * 10)), (wrap64 (x41_3 + 1)), rfs_, rfs_, H', ⟨by have := HJ3.out; have := HJ12.out; have := HK3.out; omega⟩, ⟨by (with_reducible repeat (first | apply Kd.V_alloc | apply Kd.V_drewN | apply Kd.V_drew)); exact HO_0.out⟩, ⟨bel_⟩⟩
         ·rw [if_neg c20] at H
          have c20b0 : decide (x41_3 < ji19) = false := decide_eq_false c20
          clear c20
          obtain ⟨ji25, hji25⟩ : ∃ j_ : Int, (mx 0 (wrap64 (-x1_3))) = j_ := ⟨_, rfl⟩
          replace H : (number_scaled.l2 k3 x0_3 x1_3 a2 x8_3 ([] : List Int) ji25 0) = some (r1, r2) := by first | (rw [hji25] at H; exact H) | (simp only [hji25] at H ⊢; exact H)
          have hji25_ : (if 0 < (wrap64 (-x1_3)) then (wrap64 (-x1_3)) else 0) = ji25 := hji25
          have H' := Aside0.mk H
          clear H
          go_wp2
          go_loopg [10, 61] k3 (fun kq v10 v61 w' => ∃ (x10_4 : List Int) (x61_4 : Int), v61 = .int .i64 x61_4 ∧ Aside0 (number_scaled.l2 kq x0_3 x1_3 a2 x8_3 x10_4 ji25 x61_4 = some (r1, r2)) ∧ Aside0 (kq ≤ k3) ∧ Aside0 (Kd.V (Kd.int .u8) 5 w' w.heap.size (fun k_ => (P0_ k_ ∨ w.heap.size ≤ k_) ∧ some k_ ≠ (v10 : Value).ownBlock) u0 x0_3) ∧ Aside0 (Kd.R (Kd.int .u8) 5 w' w.heap.size (fun k_ => (w.heap.size ≤ k_)) v10 x10_4) ∧ Aside0 (Below w.heap.size w w'))
          case atStart => exact ⟨(([] : List Int)), (0), rfs_, H', ⟨Nat.le_refl _⟩, ⟨by (with_reducible repeat (first | apply Kd.V_alloc | apply Kd.V_drewN | apply Kd.V_drew)); exact Kd.V_mono HO_0.out (fun _ hk => ⟨hk, (by simp [Value.ownBlock])⟩)⟩, ⟨by first | exact Kd.R_nil _ _ _ _ _ | exact Kd.N_nil _ _ _ _ _ | exact Kd.V_nil _ _ _ _ _ | exact Kd.Q_nil _ _ _ _ _ | exact Kd.S_nil _ _ _ _ _⟩, ⟨bel_⟩⟩
          case round =>
           clear H'
           try clear c1
           try clear p1
           try clear q1
           try clear hx1
           try clear qi1
           try clear c2
           try clear p2
           try clear c5
           try clear c5b0
           try clear c5b1
           try clear c6
           try clear c6b0
           try clear c6b1
           try clear p6
           try clear c7
           try clear c7b0
           try clear c7b1
           try clear c8
           try clear c8b0
           try clear c8b1
           try clear c10
           try clear p10
           try clear q10
           try clear hx10
           try clear qi10
           try clear c14
           try clear c14b0
           try clear c14b1
           try clear c14b2
           try clear c17
           try clear c18
           try clear c18b0
           try clear c20
           try clear c20b0
           try clear c21
           try clear c21b0
           try clear c22
           try clear c22b0
           try clear c25
           try clear hx101_0
           try clear hx107_0
           try clear p1
           try clear p10
           try clear p101
           try clear p107
           try clear p2
           try clear p6
           try clear q1
           try clear q10
           try clear q101
           try clear q107
           obtain ⟨x10_4, x61_4, rfl, HA, HK4, HO_0, HO_10, HB⟩ := hrel
           cases gk with
           | zero => exact absurd HA.out (by simp [number_scaled.l2])
           | succ k4 =>
            have H := HA.out
            clear HA
            simp only [number_scaled.l2] at H
            by_cases c26 : x61_4 < ji25
            ·rw [if_pos c26] at H
             have c26b0 : decide (x61_4 < ji25) = true := decide_eq_true c26
             clear c26
             by_cases c27 : x10_4.length < 140737488355328
             ·rw [if_pos c27] at H
              have LMc27 := Aside0.mk c27
              clear c27
              obtain ⟨y108, hy108⟩ : ∃ y_ : List Int, y_ = (x10_4 ++ [0]) := ⟨_, rfl⟩
              replace H : (number_scaled.l2 k4 x0_3 x1_3 a2 x8_3 y108 ji25 (wrap64 (x61_4 + 1))) = some (r1, r2) := by first | (rw [hy108]; with_reducible exact H) | (have H2_ := (Option.bind_some _ _).symm.trans H; rw [hy108]; with_reducible exact H2_) | (have H2_ := (Option.bind_some _ _).symm.trans H; with_reducible exact H2_) | with_reducible exact H | (rw [hy108]; exact H) | exact H
              have Ny108 := Aside0.mk hy108
              clear hy108
              have H' := Aside0.mk H
              clear H
              go_wp2_with (first | ((with_reducible refine gate_builtin (b := .append) (xs := #[.tmp 63, .tmp 64]) rfl ?_); at_builtin; refine Kd.R_append (Kd.int .u8) (w0 := w) w.heap.size rfl (.tmp 63) (.tmp 64) 45 5 (.int .u8 0) 1 rfl Tryd.underlying45 info5 rfl (by decide) (by omega) u10 x10_4 0 [.int .u8 0] (fun k_ => (w.heap.size ≤ k_)) (fun _ => False) rfl rfl ?aP (fun _ hk => hk.elim) ?aF ?aO ?aB ?aS ?aL ?_; (case aP => exact rfl); (case aB => exact bel_); (case aF => exact (fun k_ hk => (Nat.le_trans (below_size bel_) hk))); (case aO => exact (by (with_reducible repeat (first | apply Kd.R_alloc | apply Kd.R_drewN | apply Kd.R_drew)); exact HO_10.out)); (case aS => exact (below_size bel_)); (case aL => have := LMc27.out; omega); intro v109 w28 ho hb hg hat; rw [← Ny108.out] at ho; have n0_ := Aside0.mk (Kd.V_afterv (ok := (fun k_ => (P0_ k_ ∨ w.heap.size ≤ k_))) (by (with_reducible repeat (first | apply Kd.V_alloc | apply Kd.V_drewN | apply Kd.V_drew)); exact HO_0.out) hg hat); have n1_ := Aside0.mk (hb); have n2_ := Aside0.mk (ho); clear HO_0; clear HB; clear HO_10; have HO_0 := n0_; have HB := n1_; have HO110 := n2_; clear n0_ n1_ n2_; clear ho hb hg hat))
              go_roundg k4
              case measure => have := HJ3.out; have := HJ12.out; have := HK3.out; have := HK4.out; omega
              case rel => exact ⟨(y108), (wrap64 (x61_4 + 1)), rfs_, H', ⟨by have := HJ3.out; have := HJ12.out; have := HK3.out; have := HK4.out; omega⟩, ⟨by (with_reducible repeat (first | apply Kd.V_alloc | apply Kd.V_drewN | apply Kd.V_drew)); exact HO_0.out⟩, ⟨by (with_reducible repeat (first | apply Kd.R_alloc | apply Kd.R_drewN | apply Kd.R_drew)); exact HO110.out⟩, ⟨bel_⟩⟩
             ·rw [if_neg c27] at H
              exact absurd H (by simp)
            ·rw [if_neg c26] at H
             have c26b0 : decide (x61_4 < ji25) = false := decide_eq_false c26
             clear c26
             obtain ⟨ji29, hji29⟩ : ∃ j_ : Int, (mx 0 x1_3) = j_ := ⟨_, rfl⟩
             replace H : (if 0 ≤ (mn (x0_3.length : Int) (ji29)) then (if (mn (x0_3.length : Int) (ji29)) ≤ (x0_3.length : Int) then ((some (x0_3.drop ((mn (x0_3.length : Int) (ji29)) : Int).toNat : List Int)).bind fun y111 => (if x10_4.length + y111.length < 140737488355328 then ((some (x10_4 ++ y111 : List Int)).bind fun y116 => (number_scaled.l3 k4 a2 x8_3 y116 0 (wrap64 ((y116.length : Int) - 1)))) else (none))) else (none)) else (none)) = some (r1, r2) := by first | (rw [hji29] at H; exact H) | (simp only [hji29] at H ⊢; exact H)
             have hji29_ : (if 0 < x1_3 then x1_3 else 0) = ji29 := hji29
             have ji19_ji29_ : ji19 = ji29 := hji19_.symm.trans hji29_
             obtain ⟨ji30, hji30⟩ : ∃ j_ : Int, (mn (x0_3.length : Int) (ji29)) = j_ := ⟨_, rfl⟩
             replace H : (if 0 ≤ (ji30) then (if (ji30) ≤ (x0_3.length : Int) then ((some (x0_3.drop ((ji30) : Int).toNat : List Int)).bind fun y111 => (if x10_4.length + y111.length < 140737488355328 then ((some (x10_4 ++ y111 : List Int)).bind fun y116 => (number_scaled.l3 k4 a2 x8_3 y116 0 (wrap64 ((y116.length : Int) - 1)))) else (none))) else (none)) else (none)) = some (r1, r2) := by first | (rw [hji30] at H; exact H) | (simp only [hji30] at H ⊢; exact H)
             have hji30_ : (if (ji29) < (x0_3.length : Int) then (ji29) else (x0_3.length : Int)) = ji30 := hji30
             by_cases c31 : 0 ≤ (ji30)
             ·rw [if_pos c31] at H
              have c31b0 := eq_true c31
              have c31b1 : decide (0 ≤ (ji30)) = true := decide_eq_true c31
              clear c31
              by_cases c32 : (ji30) ≤ (x0_3.length : Int)
              ·rw [if_pos c32] at H
               have c32b0 := eq_true c32
               have c32b1 : decide ((ji30) ≤ (x0_3.length : Int)) = true := decide_eq_true c32
               clear c32
               obtain ⟨y111, hy111⟩ : ∃ y_ : List Int, y_ = (x0_3.drop ((ji30) : Int).toNat) := ⟨_, rfl⟩
               replace H : (if x10_4.length + y111.length < 140737488355328 then ((some (x10_4 ++ y111 : List Int)).bind fun y116 => (number_scaled.l3 k4 a2 x8_3 y116 0 (wrap64 ((y116.length : Int) - 1)))) else (none)) = some (r1, r2) := by first | (rw [hy111]; with_reducible exact H) | (have H2_ := (Option.bind_some _ _).symm.trans H; rw [hy111]; with_reducible exact H2_) | (have H2_ := (Option.bind_some _ _).symm.trans H; with_reducible exact H2_) | with_reducible exact H | (rw [hy111]; exact H) | exact H
               have Ny111 := Aside0.mk hy111
               clear hy111
               by_cases c33 : x10_4.length + y111.length < 140737488355328
               ·rw [if_pos c33] at H
                have LMc33 := Aside0.mk c33
                clear c33
                obtain ⟨y116, hy116⟩ : ∃ y_ : List Int, y_ = (x10_4 ++ y111) := ⟨_, rfl⟩
                replace H : (number_scaled.l3 k4 a2 x8_3 y116 0 (wrap64 ((y116.length : Int) - 1))) = some (r1, r2) := by first | (rw [hy116]; with_reducible exact H) | (have H2_ := (Option.bind_some _ _).symm.trans H; rw [hy116]; with_reducible exact H2_) | (have H2_ := (Option.bind_some _ _).symm.trans H; with_reducible exact H2_) | with_reducible exact H | (rw [hy116]; exact H) | exact H
                have Ny116 := Aside0.mk hy116
                clear hy116
                have H' := Aside0.mk H
                clear H
                obtain ⟨Ao34, co34, eo34⟩ := Kd.V_slice HO_0.out
                subst eo34
                have q35 : ((ji30) : Int) ≤ ((x0_3.length : Int) : Int) := of_decide_eq_true (by first | (with_reducible assumption) | assumption)
                obtain ⟨i035, hi035, _, hsz35, _⟩ := info_parts info5
                have hroom35 : x0_3.length ≤ co34 := (Kd.V_reads' HO_0.out).2.1
                have hC35 : Kd.F (Kd.int .u8) _ _ Ao34 x0_3.length x0_3 := (Kd.V_at (base := w.heap.size) HO_0.out).2.2
                have q035 : (0 : Int) ≤ ((ji30) : Int) := of_decide_eq_true (by first | (with_reducible assumption) | assumption)
                have hcut35 := cut_from (P := Tryd.prog) 45 5 .i64 Tryd.underlying45 hi035 1 hsz35 Ao34 x0_3.length co34 (ji30) q035 q35
                have hr35 := Kd.F_cut (m := ((ji30) : Int).toNat) (c := co34) hC35 (by omega) hroom35
                obtain ⟨A35, hA35⟩ : ∃ A1, A1 = (if co34 = ((ji30) : Int).toNat then Ao34 else (Ao34 : Option Addr).map (·.add (((ji30) : Int).toNat * 1))) := ⟨_, rfl⟩
                obtain ⟨c35, hc35⟩ : ∃ c1, c1 = co34 - ((ji30) : Int).toNat := ⟨_, rfl⟩
                have hy35 : y111.length = x0_3.length - ((ji30) : Int).toNat := (by rw [Ny111.out, List.length_drop] <;> omega)
                rw [show (x0_3).drop ((ji30) : Int).toNat = y111 from Ny111.out.symm] at hr35
                replace hr35 : Kd.F (Kd.int .u8) _ _ A35 y111.length y111 := (by rw [hA35]; exact hr35)
                rw [← hy35, ← hA35, ← hc35] at hcut35
                have HO115 := Aside0.mk (show Kd.V (Kd.int .u8) 5 _ w.heap.size _ (.slice A35 y111.length c35) y111 from Kd.V_mk (by rw [hy35, hc35]; exact Nat.sub_le_sub_right hroom35 _) hr35)
                have HC115 := Aside0.mk (show y111.length ≤ c35 from by rw [hy35, hc35]; exact Nat.sub_le_sub_right hroom35 _)
                clear hr35 hC35 hroom35 hi035 hsz35 hc35
                have KY35 := Aside0.mk hy35
                have KA35 := Aside0.mk hA35
                clear hy35 hA35
                replace q35 := eq_true q35
                go_wp2_with (first | ((with_reducible refine gate_builtin (b := .append) (xs := #[.tmp 67, .tmp 74]) rfl ?_); at_builtin; refine Kd.R_append_rows (Kd.int .u8) (w0 := w) w.heap.size rfl (.tmp 67) (.tmp 74) 45 5 (.int .u8 0) 1 rfl Tryd.underlying45 info5 rfl (by decide) (by omega) u10 x10_4 y111 _ _ _ (fun k_ => (w.heap.size ≤ k_)) (fun _ => False) rfl rfl ?aO ?aR (fun _ _ h => h) (fun _ h => h.elim) ?aF ?aB ?aS ?aL ?_; (case aR => repeat (first | exact (Kd.V_reads' HO115.out).2.2 | (with_reducible refine Kd.C_alloc ?_ _) | (with_reducible refine Kd.C_drewN ?_ _) | (with_reducible refine Kd.C_drew ?_))); (case aB => exact bel_); (case aF => exact (fun k_ hk => (Nat.le_trans (below_size bel_) hk))); (case aO => exact (by (with_reducible repeat (first | apply Kd.R_alloc | apply Kd.R_drewN | apply Kd.R_drew)); exact HO_10.out)); (case aS => exact (below_size bel_)); (case aL => have := LMc33.out; omega); intro v117 w36 ho hb hg hat; rw [← Ny116.out] at ho; have n0_ := Aside0.mk (Kd.V_afterv (ok := (fun k_ => (P0_ k_ ∨ w.heap.size ≤ k_))) (by (with_reducible repeat (first | apply Kd.V_alloc | apply Kd.V_drewN | apply Kd.V_drew)); exact HO_0.out) hg hat); have n1_ := Aside0.mk (Kd.V_afterv (ok := (fun k_ => (P0_ k_ ∨ w.heap.size ≤ k_))) (by (with_reducible repeat (first | apply Kd.V_alloc | apply Kd.V_drewN | apply Kd.V_drew)); exact HO115.out) hg hat); have n2_ := Aside0.mk (hb); have n3_ := Aside0.mk (ho); clear HO_0; clear HO115; clear HB; clear HO_10; have HO_0 := n0_; have HO115 := n1_; have HB := n2_; have HO118 := n3_; clear n0_ n1_ n2_ n3_; clear ho hb hg hat; obtain ⟨Ao37, co37, eo37⟩ := Kd.R_slice HO118.out; subst eo37))
                go_loopg [11, 12] k4 (fun kq v11 v12 w' => ∃ (x10_5 : List Int) (x11_5 : Int) (x12_5 : Int), v11 = .int .i64 x11_5 ∧ v12 = .int .i64 x12_5 ∧ Aside0 (number_scaled.l3 kq a2 x8_3 x10_5 x11_5 x12_5 = some (r1, r2)) ∧ Aside0 (kq ≤ k4) ∧ Aside0 (Kd.R (Kd.int .u8) 5 w' w.heap.size (fun k_ => (w.heap.size ≤ k_)) (.slice Ao37 y116.length co37) x10_5) ∧ Aside0 (Below w.heap.size w w'))
                case atStart => exact ⟨(y116), (0), (wrap64 ((y116.length : Int) - 1)), rfs_, rfs_, H', ⟨Nat.le_refl _⟩, ⟨by (with_reducible repeat (first | apply Kd.R_alloc | apply Kd.R_drewN | apply Kd.R_drew)); exact HO118.out⟩, ⟨bel_⟩⟩
                case round =>
                 clear H'
                 try clear c1
                 try clear p1
                 try clear q1
                 try clear hx1
                 try clear qi1
                 try clear c2
                 try clear p2
                 try clear c3
                 try clear q3
                 try clear c5
                 try clear c5b0
                 try clear c5b1
                 try clear c6
                 try clear c6b0
                 try clear c6b1
                 try clear p6
                 try clear c7
                 try clear c7b0
                 try clear c7b1
                 try clear c8
                 try clear c8b0
                 try clear c8b1
                 try clear c10
                 try clear p10
                 try clear q10
                 try clear hx10
                 try clear qi10
                 try clear c14
                 try clear c14b0
                 try clear c14b1
                 try clear c14b2
                 try clear c17
                 try clear c18
                 try clear c18b0
                 try clear c20
                 try clear c20b0
                 try clear c21
                 try clear c21b0
                 try clear c22
                 try clear c22b0
                 try clear c25
                 try clear c26
                 try clear c26b0
                 try clear c27
                 try clear c31
                 try clear c31b0
                 try clear c31b1
                 try clear c32
                 try clear c32b0
                 try clear c32b1
                 try clear c33
                 try clear c35
                 try clear q35
                 try clear hx101_0
                 try clear hx107_0
                 try clear p1
                 try clear p10
                 try clear p101
                 try clear p107
                 try clear p2
                 try clear p6
                 try clear q035
                 try clear q1
                 try clear q10
                 try clear q101
                 try clear q107
                 try clear q35
                 obtain ⟨x10_5, x11_5, x12_5, rfl, rfl, HA, HK5, HO_10, HB⟩ := hrel
                 have hl10_5 := (Kd.R_reads' HO_10.out).1
                 rw [hl10_5] at HO_10
                 (try simp only [hl10_5])
                 cases gk with
                 | zero => exact absurd HA.out (by simp [number_scaled.l3])
                 | succ k5 =>
                  have H := HA.out
                  clear HA
                  simp only [number_scaled.l3] at H
                  by_cases c38 : x12_5 ≥ 0
                  ·rw [if_pos c38] at H
                   have c38b0 : decide (0 ≤ x12_5) = true := decide_eq_true c38
                   clear c38
                   by_cases c39 : 0 ≤ x12_5
                   ·rw [if_pos c39] at H
                    have c39b0 : decide (0 ≤ x12_5) = true := decide_eq_true c39
                    clear c39
                    by_cases c40 : x12_5 < (x10_5.length : Int)
                    ·rw [if_pos c40] at H
                     have c40b0 : decide (x12_5 < (x10_5.length : Int)) = true := decide_eq_true c40
                     have c40b9 := c40b0
                     try rw [hl10_5] at c40b9
                     clear c40
                     obtain ⟨y120, hy120⟩ : ∃ y_ : List Int, y_ = (x10_5.set (x12_5 : Int).toNat ((Int.tmod (wrap64 ((wrap64 ((wrap64 (rd x10_5 x12_5)) * a2)) + x11_5)) 10) % 256)) := ⟨_, rfl⟩
                     replace H : (number_scaled.l3 k5 a2 x8_3 y120 (wrap64 (Int.tdiv (wrap64 ((wrap64 ((wrap64 (rd x10_5 x12_5)) * a2)) + x11_5)) 10)) (wrap64 (x12_5 - 1))) = some (r1, r2) := by first | (rw [hy120]; with_reducible exact H) | (have H2_ := (Option.bind_some _ _).symm.trans H; rw [hy120]; with_reducible exact H2_) | (have H2_ := (Option.bind_some _ _).symm.trans H; with_reducible exact H2_) | with_reducible exact H | (rw [hy120]; exact H) | exact H
                     have Ny120 := Aside0.mk hy120
                     clear hy120
                     have H' := Aside0.mk H
                     clear H
                     have p119 : 0 ≤ (x12_5 : Int) := of_decide_eq_true (by first | (with_reducible assumption) | assumption)
                     have q119 : x12_5 < (x10_5.length : Int) := of_decide_eq_true (by first | (with_reducible assumption) | assumption)
                     obtain ⟨ad119, e119, hx119_0⟩ := Kd.at_int (Kd.R_reads' HO_10.out).2.2 x12_5 p119 q119
                     cases e119
                     replace p119 := eq_true p119
                     replace q119 := eq_true q119
                     have p41 : 0 ≤ (x12_5 : Int) := of_decide_eq_true (by first | (with_reducible assumption) | assumption)
                     have q41 : (x12_5 : Int) < ((x10_5.length : Int) : Int) := of_decide_eq_true (by first | (with_reducible assumption) | assumption)
                     obtain ⟨go41, co41, eo41, gb41, gl41, cl41, HG41⟩ := Kd.R_form HO_10.out (by omega)
                     (first | cases eo41 | (injection eo41 with ea_ en_ ec_; (first | subst ea_ | (injection ea_ with ea_; subst ea_)); subst ec_; clear en_))
                     have GB41 := Aside0.mk gb41
                     have GG41 := Aside0.mk HG41
                     clear gb41 gl41 HG41
                     (first | simp only [add_plain] at hx119_0 | skip)
                     obtain ⟨hx41_0, hf41_0⟩ := Kd.R_celln 0 HO_10.out (x12_5 : Int) p41 q41
                     replace p41 := eq_true p41
                     replace q41 := eq_true q41
                     have HP42 := Kd.R_putg HO_10.out (x12_5 : Int) ((Int.tmod (wrap64 ((wrap64 ((wrap64 (rd x10_5 x12_5)) * a2)) + x11_5)) 10) % 256)
                     go_wp2_with (first | ((with_reducible refine gate_store (t := 5) (p := 99) rfl ?_); refine store_event (t := 5) (p := 99) (v := ?vo_w43) (w1 := (wr.setCell ⟨go41, (x12_5 : Int).toNat, none⟩ (.int .u8 ((Int.tmod (wrap64 ((wrap64 ((wrap64 (rd x10_5 x12_5)) * a2)) + x11_5)) 10) % 256)))) ?hg ?ho ?hn ?hr ?_; (case ho => rfl); (case hg => rfl); (case hn => rfl); (case hr => first | (go_simp; done) | (go_simp; rfl)); intro w43 hw; have hg : wr.grownBy w43 (some go41) := (by rw [hw]; exact HP42.2); have hp_ : Kd.R (Kd.int .u8) 5 w43 w.heap.size (fun k_ => (w.heap.size ≤ k_)) (.slice (some ⟨go41, 0, none⟩) x10_5.length co37) y120 := (by rw [hw, Ny120.out]; exact HP42.1); clear HP42; have n0_ := Aside0.mk (hp_); have n1_ := Aside0.mk ((by rw [hw]; exact below_set (HB.out) GB41.out : Below w.heap.size w w43)); clear HO_10; clear HB; have HO_10 := n0_; have HB := n1_; clear n0_ n1_; clear hg hw hp_))
                     (try simp only [← hl10_5])
                     go_roundg k5
                     case measure => have := HJ3.out; have := HJ12.out; have := HK3.out; have := HK4.out; have := HK5.out; omega
                     case rel => exact ⟨(y120), (wrap64 (Int.tdiv (wrap64 ((wrap64 ((wrap64 (rd x10_5 x12_5)) * a2)) + x11_5)) 10)), (wrap64 (x12_5 - 1)), rfs_, rfs_, H', ⟨by have := HJ3.out; have := HJ12.out; have := HK3.out; have := HK4.out; have := HK5.out; omega⟩, ⟨by (try simp only [hl10_5]); (with_reducible repeat (first | apply Kd.R_alloc | apply Kd.R_drewN | apply Kd.R_drew)); exact HO_10.out⟩, ⟨bel_⟩⟩
                    ·rw [if_neg c40] at H
                     exact absurd H (by simp)
                   ·rw [if_neg c39] at H
                    exact absurd H (by simp)
                  ·rw [if_neg c38] at H
                   have c38b0 : decide (0 ≤ x12_5) = false := decide_eq_false c38
                   clear c38
                   by_cases c44 : (x10_5.length : Int) > 0
                   ·rw [if_pos c44] at H
                    have c44b0 : decide (0 < (x10_5.length : Int)) = true := decide_eq_true c44
                    have c44b9 := c44b0
                    try rw [hl10_5] at c44b9
                    have c44b1 : decide (0 < x10_5.length) = true := decide_eq_true (by omega)
                    clear c44
                    by_cases c45 : 0 < (x10_5.length : Int)
                    ·rw [if_pos c45] at H
                     have c45b0 : decide (0 < (x10_5.length : Int)) = true := decide_eq_true c45
                     have c45b9 := c45b0
                     try rw [hl10_5] at c45b9
                     have c45b1 : decide (0 < x10_5.length) = true := decide_eq_true (by omega)
                     clear c45
                     by_cases c46 : (rd x10_5 0) ≥ 5
                     ·rw [if_pos c46] at H
                      have c46b0 : decide (5 ≤ (rd x10_5 0)) = true := decide_eq_true c46
                      clear c46
                      simp only [Option.some.injEq, Prod.mk.injEq] at H
                      obtain ⟨rfl, rfl⟩ := H
                      have p121 : 0 ≤ (0 : Int) := (by omega)
                      have q121 : 0 < (x10_5.length : Int) := of_decide_eq_true (by first | (with_reducible assumption) | assumption)
                      obtain ⟨ad121, e121, hx121_0⟩ := Kd.at_int (Kd.R_reads' HO_10.out).2.2 0 p121 q121
                      cases e121
                      have qi121 : (0 < x10_5.length) = True := eq_true (by omega)
                      (try rw [show ((0 : Int)).toNat = 0 from rfl] at hx121_0)
                      (try rw [Addr.add_zero'] at hx121_0)
                      replace p121 := eq_true p121
                      replace q121 := eq_true q121
                      go_wp2
                      go_ret2
                      exact ⟨by first | rfl | (simp [errW_none, errW_some] <;> rfl) | (simp only [← hji19, ← hji25, ← hji29, ← hji30]; first | rfl | (simp [errW_none, errW_some] <;> rfl)) | (simp [*, errW_none, errW_some] <;> rfl), bel_⟩
                     ·rw [if_neg c46] at H
                      have c46b0 : decide (5 ≤ (rd x10_5 0)) = false := decide_eq_false c46
                      clear c46
                      simp only [Option.some.injEq, Prod.mk.injEq] at H
                      obtain ⟨rfl, rfl⟩ := H
                      have p121 : 0 ≤ (0 : Int) := (by omega)
                      have q121 : 0 < (x10_5.length : Int) := of_decide_eq_true (by first | (with_reducible assumption) | assumption)
                      obtain ⟨ad121, e121, hx121_0⟩ := Kd.at_int (Kd.R_reads' HO_10.out).2.2 0 p121 q121
                      cases e121
                      have qi121 : (0 < x10_5.length) = True := eq_true (by omega)
                      (try rw [show ((0 : Int)).toNat = 0 from rfl] at hx121_0)
                      (try rw [Addr.add_zero'] at hx121_0)
                      replace p121 := eq_true p121
                      replace q121 := eq_true q121
                      go_wp2
                      go_ret2
                      exact ⟨by first | rfl | (simp [errW_none, errW_some] <;> rfl) | (simp only [← hji19, ← hji25, ← hji29, ← hji30]; first | rfl | (simp [errW_none, errW_some] <;> rfl)) | (simp [*, errW_none, errW_some] <;> rfl), bel_⟩
                    ·rw [if_neg c45] at H
                     exact absurd H (by simp)
                   ·rw [if_neg c44] at H
                    have c44b0 : decide (0 < (x10_5.length : Int)) = false := decide_eq_false c44
                    have c44b9 := c44b0
                    try rw [hl10_5] at c44b9
                    have c44b1 : decide (0 < x10_5.length) = false := decide_eq_false (by omega)
                    clear c44
                    simp only [Option.some.injEq, Prod.mk.injEq] at H
                    obtain ⟨rfl, rfl⟩ := H
                    go_wp2
                    go_ret2
                    exact ⟨by first | rfl | (simp [errW_none, errW_some] <;> rfl) | (simp only [← hji19, ← hji25, ← hji29, ← hji30]; first | rfl | (simp [errW_none, errW_some] <;> rfl)) | (simp [*, errW_none, errW_some] <;> rfl), bel_⟩
               ·rw [if_neg c33] at H
                exact absurd H (by simp)
              ·rw [if_neg c32] at H
               exact absurd H (by simp)
             ·rw [if_neg c31] at H
              exact absurd H (by simp)

end Go.Proofs.YtipjoejaeipgnaaDoor.PFl
