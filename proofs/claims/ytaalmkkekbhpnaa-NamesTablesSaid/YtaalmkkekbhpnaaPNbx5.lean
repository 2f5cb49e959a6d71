-- Written by a program of this session (wip/p2) out of the translation; Lean checks it.
import Derived.Test.YtaalmkkekbhpnaaPNbx0
namespace Go.Proofs.Ytaalmkkekbhpnaa.PNb
open Go.RowKit Go.Proofs.YtaalmkkekbhpnaaW.PrintWords Go.Proofs.YtaalmkkekbhpnaaW.PrintLast Go.Proofs.YtaalmkkekbhpnaaW.PrintMore
attribute [local go_sem] max2_int min2_int max_two min_two max_three min_three max_four min_four   -- for this text's walks alone
set_option linter.unusedVariables false
set_option linter.unusedSimpArgs false
open Go.Proofs.Ytaalmkkekbhpnaa.Opn Go.Proofs.Ytaalmkkekbhpnaa.Giv

/-! ### parterreref16_Table: function 8 -/
mutual
def parterreref16_Table.j0 : Nat → List (List ByteArray) → List (S32) → Bool → Int → Bool → Option ((List (List ByteArray)))
  | 0, _, _, _, _, _ => none
  | k + 1, x0, x1, x2, x3, x21 => if x21 = true then (some ([] : List (List ByteArray))) else (parterreref16_Table.l0 k x0 x1 x2 x3 ([] : List (List ByteArray)) 0)
def parterreref16_Table.l0 : Nat → List (List ByteArray) → List (S32) → Bool → Int → List (List ByteArray) → Int → Option ((List (List ByteArray)))
  | 0, _, _, _, _, _, _ => none
  | k + 1, x0, x1, x2, x3, x9, x10 => if x10 ≤ x3 then (if x10 < (x0.length : Int) then (if 0 ≤ x10 then (if ([] : List ByteArray).length + (rd_L1 x0 x10).length < 8796093022208 then (parterreref16_Table.j2 k x0 x1 x2 x3 x9 x10 (([] : List ByteArray) ++ (rd_L1 x0 x10))) else (none)) else (none)) else (parterreref16_Table.j2 k x0 x1 x2 x3 x9 x10 ([] : List ByteArray))) else (some x9)
def parterreref16_Table.j2 : Nat → List (List ByteArray) → List (S32) → Bool → Int → List (List ByteArray) → Int → List ByteArray → Option ((List (List ByteArray)))
  | 0, _, _, _, _, _, _, _ => none
  | k + 1, x0, x1, x2, x3, x9, x10, x11 => parterreref16_Table.l1 k x0 x1 x2 x3 x9 x10 x11 0
def parterreref16_Table.l1 : Nat → List (List ByteArray) → List (S32) → Bool → Int → List (List ByteArray) → Int → List ByteArray → Int → Option ((List (List ByteArray)))
  | 0, _, _, _, _, _, _, _, _ => none
  | k + 1, x0, x1, x2, x3, x9, x10, x11, x12 => if x12 < (x1.length : Int) then (if 0 ≤ x12 then (if x2 = true then (parterreref16_Table.j4 k x0 x1 x2 x3 x9 x10 x11 x12 ((rd_T32 x1 x12).f1) ((rd_T32 x1 x12).f3) ((rd_T32 x1 x12).f0) ((rd_T32 x1 x12).f1) ((rd_T32 x1 x12).f2) ((rd_T32 x1 x12).f3) ((rd_T32 x1 x12).f4)) else (parterreref16_Table.j4 k x0 x1 x2 x3 x9 x10 x11 x12 ((rd_T32 x1 x12).f2) ((rd_T32 x1 x12).f4) ((rd_T32 x1 x12).f0) ((rd_T32 x1 x12).f1) ((rd_T32 x1 x12).f2) ((rd_T32 x1 x12).f3) ((rd_T32 x1 x12).f4))) else (none)) else (if x9.length < 5864062014805 then (parterreref16_Table.l0 k x0 x1 x2 x3 (x9 ++ [x11]) (wrap64 (x10 + 1))) else (none))
def parterreref16_Table.j4 : Nat → List (List ByteArray) → List (S32) → Bool → Int → List (List ByteArray) → Int → List ByteArray → Int → Int → Int → ByteArray → Int → Int → Int → Int → Option ((List (List ByteArray)))
  | 0, _, _, _, _, _, _, _, _, _, _, _, _, _, _, _ => none
  | k + 1, x0, x1, x2, x3, x9, x10, x11, x12, x14, x15, x161000, x161001, x161002, x161003, x161004 => if x10 = x14 then (if x161000.size + 6 ≤ 9223372036854775807 then (if x11.length < 8796093022208 then ((some (x11 ++ [x161000 ++ (⟨#[45, 115, 116, 97, 114, 116]⟩ : ByteArray)] : List ByteArray)).bind fun y161 => (if (wrap64 (x10 - x15)) = x14 then (if x161000.size + 4 ≤ 9223372036854775807 then (if y161.length < 8796093022208 then (parterreref16_Table.l1 k x0 x1 x2 x3 x9 x10 (y161 ++ [x161000 ++ (⟨#[45, 101, 110, 100]⟩ : ByteArray)]) (wrap64 (x12 + 1))) else (none)) else (none)) else (parterreref16_Table.l1 k x0 x1 x2 x3 x9 x10 y161 (wrap64 (x12 + 1))))) else (none)) else (none)) else (if (wrap64 (x10 - x15)) = x14 then (if x161000.size + 4 ≤ 9223372036854775807 then (if x11.length < 8796093022208 then (parterreref16_Table.l1 k x0 x1 x2 x3 x9 x10 (x11 ++ [x161000 ++ (⟨#[45, 101, 110, 100]⟩ : ByteArray)]) (wrap64 (x12 + 1))) else (none)) else (none)) else (parterreref16_Table.l1 k x0 x1 x2 x3 x9 x10 x11 (wrap64 (x12 + 1))))
end
def parterreref16_Table.f (k : Nat) (l0 : List (List ByteArray)) (l1 : List (S32)) (a2 : Bool) (a3 : Int) : Option ((List (List ByteArray))) := if a3 < 0 then (parterreref16_Table.j0 k l0 l1 a2 a3 true) else (parterreref16_Table.j0 k l0 l1 a2 a3 (decide (a3 > 10000)))
theorem parterreref16_Table.mono_l : ∀ k, (∀ y0 y1 y2 y3 y4, LeO (parterreref16_Table.j0 k y0 y1 y2 y3 y4) (parterreref16_Table.j0 (k + 1) y0 y1 y2 y3 y4)) ∧ (∀ y0 y1 y2 y3 y4 y5, LeO (parterreref16_Table.l0 k y0 y1 y2 y3 y4 y5) (parterreref16_Table.l0 (k + 1) y0 y1 y2 y3 y4 y5)) ∧ (∀ y0 y1 y2 y3 y4 y5 y6, LeO (parterreref16_Table.j2 k y0 y1 y2 y3 y4 y5 y6) (parterreref16_Table.j2 (k + 1) y0 y1 y2 y3 y4 y5 y6)) ∧ (∀ y0 y1 y2 y3 y4 y5 y6 y7, LeO (parterreref16_Table.l1 k y0 y1 y2 y3 y4 y5 y6 y7) (parterreref16_Table.l1 (k + 1) y0 y1 y2 y3 y4 y5 y6 y7)) ∧ (∀ y0 y1 y2 y3 y4 y5 y6 y7 y8 y9 y10 y11 y12 y13 y14, LeO (parterreref16_Table.j4 k y0 y1 y2 y3 y4 y5 y6 y7 y8 y9 y10 y11 y12 y13 y14) (parterreref16_Table.j4 (k + 1) y0 y1 y2 y3 y4 y5 y6 y7 y8 y9 y10 y11 y12 y13 y14))
  | 0 => ⟨fun _ _ _ _ _ r h => by simp [parterreref16_Table.j0] at h, fun _ _ _ _ _ _ r h => by simp [parterreref16_Table.l0] at h, fun _ _ _ _ _ _ _ r h => by simp [parterreref16_Table.j2] at h, fun _ _ _ _ _ _ _ _ r h => by simp [parterreref16_Table.l1] at h, fun _ _ _ _ _ _ _ _ _ _ _ _ _ _ _ r h => by simp [parterreref16_Table.j4] at h⟩
  | k + 1 => by
    obtain ⟨ih0, ih1, ih2, ih3, ih4⟩ := parterreref16_Table.mono_l k
    refine ⟨?_, ?_, ?_, ?_, ?_⟩
    · intro y0 y1 y2 y3 y4
      unfold parterreref16_Table.j0
      repeat' first
      | (with_reducible exact ih0 _ _ _ _ _)
      | (with_reducible exact ih1 _ _ _ _ _ _)
      | (with_reducible exact ih2 _ _ _ _ _ _ _)
      | (with_reducible exact ih3 _ _ _ _ _ _ _ _)
      | (with_reducible exact ih4 _ _ _ _ _ _ _ _ _ _ _ _ _ _ _)
      | (with_reducible exact LeO.refl _)
      | (with_reducible exact LeO.none _)
      | (with_reducible refine LeO.ite ?_ ?_)
      | (with_reducible refine LeO.bind ?_ (fun _ => ?_))
      | exact ih0 _ _ _ _ _
      | exact ih1 _ _ _ _ _ _
      | exact ih2 _ _ _ _ _ _ _
      | exact ih3 _ _ _ _ _ _ _ _
      | exact ih4 _ _ _ _ _ _ _ _ _ _ _ _ _ _ _
      | exact LeO.none _
      | refine LeO.ite ?_ ?_
      | refine LeO.bind ?_ (fun _ => ?_)
    · intro y0 y1 y2 y3 y4 y5
      unfold parterreref16_Table.l0
      repeat' first
      | (with_reducible exact ih0 _ _ _ _ _)
      | (with_reducible exact ih1 _ _ _ _ _ _)
      | (with_reducible exact ih2 _ _ _ _ _ _ _)
      | (with_reducible exact ih3 _ _ _ _ _ _ _ _)
      | (with_reducible exact ih4 _ _ _ _ _ _ _ _ _ _ _ _ _ _ _)
      | (with_reducible exact LeO.refl _)
      | (with_reducible exact LeO.none _)
      | (with_reducible refine LeO.ite ?_ ?_)
      | (with_reducible refine LeO.bind ?_ (fun _ => ?_))
      | exact ih0 _ _ _ _ _
      | exact ih1 _ _ _ _ _ _
      | exact ih2 _ _ _ _ _ _ _
      | exact ih3 _ _ _ _ _ _ _ _
      | exact ih4 _ _ _ _ _ _ _ _ _ _ _ _ _ _ _
      | exact LeO.none _
      | refine LeO.ite ?_ ?_
      | refine LeO.bind ?_ (fun _ => ?_)
    · intro y0 y1 y2 y3 y4 y5 y6
      unfold parterreref16_Table.j2
      repeat' first
      | (with_reducible exact ih0 _ _ _ _ _)
      | (with_reducible exact ih1 _ _ _ _ _ _)
      | (with_reducible exact ih2 _ _ _ _ _ _ _)
      | (with_reducible exact ih3 _ _ _ _ _ _ _ _)
      | (with_reducible exact ih4 _ _ _ _ _ _ _ _ _ _ _ _ _ _ _)
      | (with_reducible exact LeO.refl _)
      | (with_reducible exact LeO.none _)
      | (with_reducible refine LeO.ite ?_ ?_)
      | (with_reducible refine LeO.bind ?_ (fun _ => ?_))
      | exact ih0 _ _ _ _ _
      | exact ih1 _ _ _ _ _ _
      | exact ih2 _ _ _ _ _ _ _
      | exact ih3 _ _ _ _ _ _ _ _
      | exact ih4 _ _ _ _ _ _ _ _ _ _ _ _ _ _ _
      | exact LeO.none _
      | refine LeO.ite ?_ ?_
      | refine LeO.bind ?_ (fun _ => ?_)
    · intro y0 y1 y2 y3 y4 y5 y6 y7
      unfold parterreref16_Table.l1
      repeat' first
      | (with_reducible exact ih0 _ _ _ _ _)
      | (with_reducible exact ih1 _ _ _ _ _ _)
      | (with_reducible exact ih2 _ _ _ _ _ _ _)
      | (with_reducible exact ih3 _ _ _ _ _ _ _ _)
      | (with_reducible exact ih4 _ _ _ _ _ _ _ _ _ _ _ _ _ _ _)
      | (with_reducible exact LeO.refl _)
      | (with_reducible exact LeO.none _)
      | (with_reducible refine LeO.ite ?_ ?_)
      | (with_reducible refine LeO.bind ?_ (fun _ => ?_))
      | exact ih0 _ _ _ _ _
      | exact ih1 _ _ _ _ _ _
      | exact ih2 _ _ _ _ _ _ _
      | exact ih3 _ _ _ _ _ _ _ _
      | exact ih4 _ _ _ _ _ _ _ _ _ _ _ _ _ _ _
      | exact LeO.none _
      | refine LeO.ite ?_ ?_
      | refine LeO.bind ?_ (fun _ => ?_)
    · intro y0 y1 y2 y3 y4 y5 y6 y7 y8 y9 y10 y11 y12 y13 y14
      unfold parterreref16_Table.j4
      repeat' first
      | (with_reducible exact ih0 _ _ _ _ _)
      | (with_reducible exact ih1 _ _ _ _ _ _)
      | (with_reducible exact ih2 _ _ _ _ _ _ _)
      | (with_reducible exact ih3 _ _ _ _ _ _ _ _)
      | (with_reducible exact ih4 _ _ _ _ _ _ _ _ _ _ _ _ _ _ _)
      | (with_reducible exact LeO.refl _)
      | (with_reducible exact LeO.none _)
      | (with_reducible refine LeO.ite ?_ ?_)
      | (with_reducible refine LeO.bind ?_ (fun _ => ?_))
      | exact ih0 _ _ _ _ _
      | exact ih1 _ _ _ _ _ _
      | exact ih2 _ _ _ _ _ _ _
      | exact ih3 _ _ _ _ _ _ _ _
      | exact ih4 _ _ _ _ _ _ _ _ _ _ _ _ _ _ _
      | exact LeO.none _
      | refine LeO.ite ?_ ?_
      | refine LeO.bind ?_ (fun _ => ?_)
theorem parterreref16_Table.mono : ∀ a0 a1 a2 a3 k, LeO (parterreref16_Table.f k a0 a1 a2 a3) (parterreref16_Table.f (k + 1) a0 a1 a2 a3) := by
  intro a0 a1 a2 a3 k
  obtain ⟨ih0, ih1, ih2, ih3, ih4⟩ := parterreref16_Table.mono_l k
  unfold parterreref16_Table.f
  repeat' first
      | (with_reducible exact ih0 _ _ _ _ _)
      | (with_reducible exact ih1 _ _ _ _ _ _)
      | (with_reducible exact ih2 _ _ _ _ _ _ _)
      | (with_reducible exact ih3 _ _ _ _ _ _ _ _)
      | (with_reducible exact ih4 _ _ _ _ _ _ _ _ _ _ _ _ _ _ _)
      | (with_reducible exact LeO.refl _)
      | (with_reducible exact LeO.none _)
      | (with_reducible refine LeO.ite ?_ ?_)
      | (with_reducible refine LeO.bind ?_ (fun _ => ?_))
      | exact ih0 _ _ _ _ _
      | exact ih1 _ _ _ _ _ _
      | exact ih2 _ _ _ _ _ _ _
      | exact ih3 _ _ _ _ _ _ _ _
      | exact ih4 _ _ _ _ _ _ _ _ _ _ _ _ _ _ _
      | exact LeO.none _
      | refine LeO.ite ?_ ?_
      | refine LeO.bind ?_ (fun _ => ?_)
set_option maxHeartbeats 8000000 in
set_option maxRecDepth 100000 in
theorem parterreref16_Table.calls (k : Nat) (A0 : Option Addr) (c0 : Nat) (l0 : List (List ByteArray)) (A1 : Option Addr) (c1 : Nat) (l1 : List (S32)) (a2 : Bool) (a3 : Int) (r : List (List ByteArray)) (w : World) (hr0 : Kd.C (Kd.slice 9 Kd.string) w A0 l0.length l0) (hc0 : l0.length ≤ c0) (hr1 : Kd.C k32 w A1 l1.length l1) (hc1 : l1.length ≤ c1) (h : parterreref16_Table.f k l0 l1 a2 a3 = some r) :
    Calls Try.prog 8 #[.slice A0 l0.length c0, .slice A1 l1.length c1, .bool a2, .int .i64 a3] w fun e w' => ∃ v0_ : Value, e = .returned (v0_) ∧ Kd.S (Kd.slice 9 Kd.string) 28 w' w.heap.size (fun _ => True) v0_ r ∧ Below w.heap.size w w' := by
  have hu32 := Try.underlying32
  have HR0 := Aside0.mk hr0
  have HC0 := Aside0.mk hc0
  clear hr0 hc0
  have HR1 := Aside0.mk hr1
  have HC1 := Aside0.mk hc1
  clear hr1 hc1
  have HB := Aside0.mk (Below.refl w.heap.size w)
  have H : (if a3 < 0 then (parterreref16_Table.j0 k l0 l1 a2 a3 true) else (parterreref16_Table.j0 k l0 l1 a2 a3 (decide (a3 > 10000)))) = some r := h
  clear h
  have HC5 := Aside0.mk H
  clear H
  go_enter Try.func8, Try.ntmps8
  go_upto_region 1 with (fail)
  go_cut [21] (fun v21 wc => ∃ (kq : Nat) (x21_4 : Bool), v21 = .bool x21_4 ∧ Aside0 (parterreref16_Table.j0 kq l0 l1 a2 a3 x21_4 = some r) ∧ Aside0 (kq ≤ k) ∧ Aside0 (Below w.heap.size w wc))
  case first =>
    have H := HC5.out
    clear HC5
    by_cases c6 : a3 < 0
    · rw [if_pos c6] at H
      have c6b0 : decide (a3 < 0) = true := decide_eq_true c6
      clear c6
      (first | rw [c6b0] | (simp only [i64_w, i32_w]; rw [c6b0]) | skip)
      have H' := Aside0.mk H
      clear H
      go_wp2
      go_meet
      case rel => exact ⟨_, (true), (by first | rfl | (simp; done) | (simp [*]; done)), (by first | exact H' | (subst_vars; exact H')), ⟨by first | omega | exact Nat.le_refl _⟩, ⟨by repeat (first | (with_reducible first | exact HB.out | apply below_alloc | apply pw_below_drewN | apply below_drew1) | exact HB.out)⟩⟩
    · rw [if_neg c6] at H
      have c6b0 : decide (a3 < 0) = false := decide_eq_false c6
      clear c6
      (first | rw [c6b0] | (simp only [i64_w, i32_w]; rw [c6b0]) | skip)
      have H' := Aside0.mk H
      clear H
      go_wp2
      go_meet
      case rel => exact ⟨_, (decide (a3 > 10000)), (by first | rfl | (simp; done) | (simp [*]; done)), (by first | exact H' | (subst_vars; exact H')), ⟨by first | omega | exact Nat.le_refl _⟩, ⟨by repeat (first | (with_reducible first | exact HB.out | apply below_alloc | apply pw_below_drewN | apply below_drew1) | exact HB.out)⟩⟩
  case rest =>
    clear HC5
    try clear c1
    try clear p2
    try clear c6
    try clear c6b0
    obtain ⟨kq, x21_4, rfl, HA, HJ4, HB⟩ := hcut
    cases kq with
    | zero => exact absurd HA.out (by simp [parterreref16_Table.j0])
    | succ kj4 =>
      have H := HA.out
      clear HA
      simp only [parterreref16_Table.j0] at H
      by_cases c7 : x21_4 = true
      · subst c7
        have H1 : (some ([] : List (List ByteArray))) = some r := by rw [if_pos rfl] at H; exact H
        clear H
        have H := H1
        clear H1
        obtain rfl := Option.some.inj H
        go_wp2
        go_ret
        exact ⟨_, by first | rfl | (simp [errW_none, errW_some] <;> rfl) | (simp [*, errW_none, errW_some] <;> rfl), by first | exact Kd.S_nil _ _ _ _ _ | exact Kd.N_nil _ _ _ _ _ | exact Kd.V_nil _ _ _ _ _ | exact Kd.Q_nil _ _ _ _ _ | exact Kd.R_nil _ _ _ _ _, by repeat (first | (with_reducible first | exact HB.out | apply below_alloc | apply pw_below_drewN | apply below_drew1) | exact HB.out)⟩
      · replace c7 := Bool.eq_false_iff.mpr c7
        subst c7
        have H1 : (parterreref16_Table.l0 kj4 l0 l1 a2 a3 ([] : List (List ByteArray)) 0) = some r := by rw [if_neg (show ¬ (false = true) by decide)] at H; exact H
        clear H
        have H := H1
        clear H1
        have H' := Aside0.mk H
        clear H
        go_wp2
        go_loopg [9, 10] kj4 (fun kq v9 v10 w' => ∃ (x9_2 : List (List ByteArray)) (x10_2 : Int), v10 = .int .i64 x10_2 ∧ Aside0 (parterreref16_Table.l0 kq l0 l1 a2 a3 x9_2 x10_2 = some r) ∧ Aside0 (kq ≤ kj4) ∧ Aside0 (Kd.S (Kd.slice 9 Kd.string) 28 w' w.heap.size (fun _ => True) v9 x9_2) ∧ Aside0 (Below w.heap.size w w'))
        case atStart => exact ⟨(([] : List (List ByteArray))), (0), (by first | rfl | (simp; done) | (simp [*]; done)), H', ⟨Nat.le_refl _⟩, ⟨by first | exact Kd.S_nil _ _ _ _ _ | exact Kd.N_nil _ _ _ _ _ | exact Kd.V_nil _ _ _ _ _ | exact Kd.Q_nil _ _ _ _ _ | exact Kd.R_nil _ _ _ _ _⟩, ⟨by repeat (first | (with_reducible first | exact HB.out | apply below_alloc | apply pw_below_drewN | apply below_drew1) | exact HB.out)⟩⟩
        case round =>
          clear H'
          try clear c1
          try clear p2
          try clear c6
          try clear c6b0
          try clear c7
          try clear p2
          obtain ⟨x9_2, x10_2, rfl, HA, HK2, HO_9, HB⟩ := hrel
          cases gk with
          | zero => exact absurd HA.out (by simp [parterreref16_Table.l0])
          | succ k2 =>
            have H := HA.out
            clear HA
            simp only [parterreref16_Table.l0] at H
            by_cases c8 : x10_2 ≤ a3
            · rw [if_pos c8] at H
              have c8b0 : decide (x10_2 ≤ a3) = true := decide_eq_true c8
              clear c8
              have HC9 := Aside0.mk H
              clear H
              go_upto_if 30 with (fail)
              go_cut [11] (fun v11 wc => ∃ (kq : Nat) (x11_8 : List ByteArray), Aside0 (parterreref16_Table.j2 kq l0 l1 a2 a3 x9_2 x10_2 x11_8 = some r) ∧ Aside0 (kq ≤ k2) ∧ Aside0 (Kd.S (Kd.slice 9 Kd.string) 28 wc w.heap.size (fun k_ => some k_ ≠ (v11 : Value).ownBlock) u9 x9_2) ∧ Aside0 (Kd.R Kd.string 9 wc w.heap.size (fun _ => True) v11 x11_8) ∧ Aside0 (Below w.heap.size w wc))
              case first =>
                have H := HC9.out
                clear HC9
                by_cases c10 : x10_2 < (l0.length : Int)
                · rw [if_pos c10] at H
                  have c10b0 : decide (x10_2 < (l0.length : Int)) = true := decide_eq_true c10
                  clear c10
                  (first | rw [c10b0] | (simp only [i64_w, i32_w]; rw [c10b0]) | skip)
                  by_cases c11 : 0 ≤ x10_2
                  · rw [if_pos c11] at H
                    have c11b0 : decide (0 ≤ x10_2) = true := decide_eq_true c11
                    clear c11
                    by_cases c12 : ([] : List ByteArray).length + (rd_L1 l0 x10_2).length < 8796093022208
                    · rw [if_pos c12] at H
                      have LMc12 := Aside0.mk c12
                      clear c12
                      obtain ⟨y153, hy153⟩ : ∃ y_ : List ByteArray, y_ = (([] : List ByteArray) ++ (rd_L1 l0 x10_2)) := ⟨_, rfl⟩
                      replace H : (parterreref16_Table.j2 k2 l0 l1 a2 a3 x9_2 x10_2 y153) = some r := by first | (rw [hy153]; with_reducible exact H) | (have H2_ := (Option.bind_some _ _).symm.trans H; rw [hy153]; with_reducible exact H2_) | (have H2_ := (Option.bind_some _ _).symm.trans H; with_reducible exact H2_) | with_reducible exact H | (rw [hy153]; exact H) | exact H
                      have Ny153 := Aside0.mk hy153
                      clear hy153
                      have H' := Aside0.mk H
                      clear H
                      have p152 : 0 ≤ (x10_2 : Int) := of_decide_eq_true (by first | (with_reducible assumption) | assumption)
                      have q152 : x10_2 < (l0.length : Int) := of_decide_eq_true (by first | (with_reducible assumption) | assumption)
                      obtain ⟨ad152, A152_0, c152_0, e152, hx152_0, hl152_0, hi152_0⟩ := at_L1 HR0.out x10_2 p152 q152
                      cases e152
                      replace hx152_0 := (HB.out.cell (World.block_lt_of_cell? w _ hx152_0)).trans hx152_0
                      have HR152_0 := Aside0.mk hi152_0
                      have HC152_0 := Aside0.mk hl152_0
                      clear hi152_0 hl152_0
                      replace p152 := eq_true p152
                      replace q152 := eq_true q152
                      go_wp2_with (first | ((with_reducible refine gate_builtin (b := .append) (xs := #[.tmp 31, .tmp 35]) rfl ?_); at_builtin; refine Kd.R_append_rows Kd.string (w0 := w) w.heap.size rfl (.tmp 31) (.tmp 35) 28 9 (.string ⟨#[]⟩) 16 rfl Try.underlying28 info9 rfl (by decide) (by omega) (.slice none 0 0) ([] : List ByteArray) (rd_L1 l0 x10_2) _ _ _ (fun _ => True) (fun _ => False) rfl rfl ?aO ?aR (fun _ _ h => h) (fun _ h => h.elim) ?aF ?aB ?aS ?aL ?_; (case aR => repeat (first | exact (Kd.C_below HR152_0.out HB.out) | (with_reducible refine Kd.C_alloc ?_ _) | (with_reducible refine Kd.C_drewN ?_ _) | (with_reducible refine Kd.C_drew ?_))); (case aB => exact (by repeat (first | (with_reducible first | exact HB.out | apply below_alloc | apply pw_below_drewN | apply below_drew1) | exact HB.out))); (case aF => exact (fun _ _ => trivial)); (case aO => exact ((Kd.R_nil _ _ _ _ (fun _ => True)))); (case aS => exact (below_size (by repeat (first | (with_reducible first | exact HB.out | apply below_alloc | apply pw_below_drewN | apply below_drew1) | exact HB.out)))); (case aL => have := LMc12.out; omega); intro v154 w13 ho hb hg hat; rw [← Ny153.out] at ho; have n0_ := Aside0.mk (Kd.S_after (Kd.S_apart_nil (by (with_reducible repeat (first | apply Kd.S_alloc | apply Kd.S_drewN | apply Kd.S_drew)); exact HO_9.out)) hg hat); have n1_ := Aside0.mk (hb); have n2_ := Aside0.mk (ho); clear HO_9; clear HB; have HO_9 := n0_; have HB := n1_; have HO155 := n2_; clear n0_ n1_ n2_; clear ho hb hg hat))
                      go_meet
                      case rel => exact ⟨_, (y153), H', ⟨by have := HJ4.out; have := HK2.out; first | omega | exact Nat.le_refl _⟩, ⟨by (with_reducible repeat (first | apply Kd.S_alloc | apply Kd.S_drewN | apply Kd.S_drew)); exact Kd.S_mono HO_9.out (fun _ hk => hk.2)⟩, ⟨by (with_reducible repeat (first | apply Kd.R_alloc | apply Kd.R_drewN | apply Kd.R_drew)); exact HO155.out⟩, ⟨by repeat (first | (with_reducible first | exact HB.out | apply below_alloc | apply pw_below_drewN | apply below_drew1) | exact HB.out)⟩⟩
                    · rw [if_neg c12] at H
                      exact absurd H (by simp)
                  · rw [if_neg c11] at H
                    exact absurd H (by simp)
                · rw [if_neg c10] at H
                  have c10b0 : decide (x10_2 < (l0.length : Int)) = false := decide_eq_false c10
                  clear c10
                  (first | rw [c10b0] | (simp only [i64_w, i32_w]; rw [c10b0]) | skip)
                  have H' := Aside0.mk H
                  clear H
                  go_wp2
                  go_meet
                  case rel => exact ⟨_, (([] : List ByteArray)), H', ⟨by have := HJ4.out; have := HK2.out; first | omega | exact Nat.le_refl _⟩, ⟨by (with_reducible repeat (first | apply Kd.S_alloc | apply Kd.S_drewN | apply Kd.S_drew)); exact Kd.S_mono HO_9.out (fun _ hk => (by simp [Value.ownBlock]))⟩, ⟨by first | exact Kd.R_nil _ _ _ _ _ | exact Kd.N_nil _ _ _ _ _ | exact Kd.V_nil _ _ _ _ _ | exact Kd.Q_nil _ _ _ _ _ | exact Kd.S_nil _ _ _ _ _⟩, ⟨by repeat (first | (with_reducible first | exact HB.out | apply below_alloc | apply pw_below_drewN | apply below_drew1) | exact HB.out)⟩⟩
              case rest =>
                clear HC9
                try clear c1
                try clear p1
                try clear q1
                try clear hx1
                try clear p2
                try clear c6
                try clear c6b0
                try clear c7
                try clear c8
                try clear c8b0
                try clear c10
                try clear c10b0
                try clear c11
                try clear c11b0
                try clear c12
                try clear hx152_0
                try clear p152
                try clear p2
                try clear q152
                obtain ⟨kq, x11_8, HA, HJ8, HO_9, HO_11, HB⟩ := hcut
                cases kq with
                | zero => exact absurd HA.out (by simp [parterreref16_Table.j2])
                | succ kj8 =>
                  have H := HA.out
                  clear HA
                  simp only [parterreref16_Table.j2] at H
                  have H' := Aside0.mk H
                  clear H
                  go_wp2
                  go_loopg [11, 12] kj8 (fun kq v11 v12 w' => ∃ (x11_4 : List ByteArray) (x12_4 : Int), v12 = .int .i64 x12_4 ∧ Aside0 (parterreref16_Table.l1 kq l0 l1 a2 a3 x9_2 x10_2 x11_4 x12_4 = some r) ∧ Aside0 (kq ≤ kj8) ∧ Aside0 (Kd.S (Kd.slice 9 Kd.string) 28 w' w.heap.size (fun k_ => some k_ ≠ (v11 : Value).ownBlock) u9 x9_2) ∧ Aside0 (Kd.R Kd.string 9 w' w.heap.size (fun _ => True) v11 x11_4) ∧ Aside0 (Below w.heap.size w w'))
                  case atStart => exact ⟨(x11_8), (0), (by first | rfl | (simp; done) | (simp [*]; done)), H', ⟨Nat.le_refl _⟩, ⟨by (with_reducible repeat (first | apply Kd.S_alloc | apply Kd.S_drewN | apply Kd.S_drew)); exact HO_9.out⟩, ⟨by (with_reducible repeat (first | apply Kd.R_alloc | apply Kd.R_drewN | apply Kd.R_drew)); exact HO_11.out⟩, ⟨by repeat (first | (with_reducible first | exact HB.out | apply below_alloc | apply pw_below_drewN | apply below_drew1) | exact HB.out)⟩⟩
                  case round =>
                    clear H'
                    try clear c1
                    try clear p1
                    try clear q1
                    try clear hx1
                    try clear p2
                    try clear c6
                    try clear c6b0
                    try clear c7
                    try clear c8
                    try clear c8b0
                    try clear c10
                    try clear c10b0
                    try clear c11
                    try clear c11b0
                    try clear c12
                    try clear hx152_0
                    try clear p1
                    try clear p152
                    try clear p2
                    try clear q1
                    try clear q152
                    obtain ⟨x11_4, x12_4, rfl, HA, HK4, HO_9, HO_11, HB⟩ := hrel
                    cases gk with
                    | zero => exact absurd HA.out (by simp [parterreref16_Table.l1])
                    | succ k4 =>
                      have H := HA.out
                      clear HA
                      simp only [parterreref16_Table.l1] at H
                      by_cases c14 : x12_4 < (l1.length : Int)
                      · rw [if_pos c14] at H
                        have c14b0 : decide (x12_4 < (l1.length : Int)) = true := decide_eq_true c14
                        clear c14
                        by_cases c15 : 0 ≤ x12_4
                        · rw [if_pos c15] at H
                          have c15b0 : decide (0 ≤ x12_4) = true := decide_eq_true c15
                          clear c15
                          have HC16 := Aside0.mk H
                          clear H
                          have p159 : 0 ≤ (x12_4 : Int) := of_decide_eq_true (by first | (with_reducible assumption) | assumption)
                          have q159 : x12_4 < (l1.length : Int) := of_decide_eq_true (by first | (with_reducible assumption) | assumption)
                          obtain ⟨ad159, e159, hx159_0, hx159_1, hx159_2, hx159_3, hx159_4⟩ := at_T32 HR1.out x12_4 p159 q159
                          cases e159
                          replace hx159_0 := (HB.out.cell (World.block_lt_of_cell? w _ hx159_0)).trans hx159_0
                          replace hx159_1 := (HB.out.cell (World.block_lt_of_cell? w _ hx159_1)).trans hx159_1
                          replace hx159_2 := (HB.out.cell (World.block_lt_of_cell? w _ hx159_2)).trans hx159_2
                          replace hx159_3 := (HB.out.cell (World.block_lt_of_cell? w _ hx159_3)).trans hx159_3
                          replace hx159_4 := (HB.out.cell (World.block_lt_of_cell? w _ hx159_4)).trans hx159_4
                          replace p159 := eq_true p159
                          replace q159 := eq_true q159
                          go_upto_if 51 with (first | ((with_reducible refine gate_dst (N := 13) rfl ?_); refine box_event ?hg (N := 13) ?hd (cs := #[.string (⟨#[]⟩ : ByteArray), .int .i64 0, .int .i64 0, .int .i64 0, .int .i64 0]) (t := 32) ?hr ?_; (case hd => rfl); (case hg => rfl); (case hr => first | (go_simp; done) | (go_simp; rfl)); intro gb160 hg w17 hbox hb; have n0_ := Aside0.mk (Kd.S_below (by (with_reducible repeat (first | apply Kd.S_alloc | apply Kd.S_drewN | apply Kd.S_drew)); exact HO_9.out) hb); have n1_ := Aside0.mk (Kd.R_below (by (with_reducible repeat (first | apply Kd.R_alloc | apply Kd.R_drewN | apply Kd.R_drew)); exact HO_11.out) hb); have n2_ := Aside0.mk (below_step (by repeat (first | (with_reducible first | exact HB.out | apply below_alloc | apply pw_below_drewN | apply below_drew1) | exact HB.out)) hb); have n3_ := Aside0.mk (hbox); have n4_ := Aside0.mk ((by rw [hg]; exact (below_size (by repeat (first | (with_reducible first | exact HB.out | apply below_alloc | apply pw_below_drewN | apply below_drew1) | exact HB.out))) : w.heap.size ≤ gb160)); have n5_ := Aside0.mk ((by rw [hg]; exact (below_size (by repeat (first | (with_reducible first | exact HB.out | apply below_alloc | apply pw_below_drewN | apply below_drew1) | exact HB.out))) : w.heap.size ≤ gb160)); clear HO_9; clear HO_11; clear HB; have HO_9 := n0_; have HO_11 := n1_; have HB := n2_; have BK160 := n3_; have GW160 := n4_; have GE160 := n5_; clear n0_ n1_ n2_ n3_ n4_ n5_; clear hb hbox hg; have hcz18_0 : w17.cell? ⟨gb160, 0, none⟩ = some (.string (⟨#[]⟩ : ByteArray)) := (blk_cell BK160.out 0).trans rfl; have hcz18_1 : w17.cell? ⟨gb160, 1, none⟩ = some (.int .i64 0) := (blk_cell BK160.out 1).trans rfl; have hcz18_2 : w17.cell? ⟨gb160, 2, none⟩ = some (.int .i64 0) := (blk_cell BK160.out 2).trans rfl; have hcz18_3 : w17.cell? ⟨gb160, 3, none⟩ = some (.int .i64 0) := (blk_cell BK160.out 3).trans rfl; have hcz18_4 : w17.cell? ⟨gb160, 4, none⟩ = some (.int .i64 0) := (blk_cell BK160.out 4).trans rfl; have hfz18_0 := blk_frozen BK160.out 0; have hfz18_1 := blk_frozen BK160.out 1; have hfz18_2 := blk_frozen BK160.out 2; have hfz18_3 := blk_frozen BK160.out 3; have hfz18_4 := blk_frozen BK160.out 4))
                          (try simp only [Act.put, List.setIfInBounds_toArray, List.set_cons_zero, List.set_cons_succ])
                          go_cut [14, 15] (fun v14 v15 wc => ∃ (kq : Nat) (x14_15 : Int) (x15_15 : Int), v14 = .int .i64 x14_15 ∧ v15 = .int .i64 x15_15 ∧ Aside0 (parterreref16_Table.j4 kq l0 l1 a2 a3 x9_2 x10_2 x11_4 x12_4 x14_15 x15_15 ((rd_T32 l1 x12_4).f0) ((rd_T32 l1 x12_4).f1) ((rd_T32 l1 x12_4).f2) ((rd_T32 l1 x12_4).f3) ((rd_T32 l1 x12_4).f4) = some r) ∧ Aside0 (kq ≤ k4) ∧ Aside0 (Kd.S (Kd.slice 9 Kd.string) 28 wc w.heap.size (fun k_ => some k_ ≠ (u11 : Value).ownBlock) u9 x9_2) ∧ Aside0 (Kd.R Kd.string 9 wc w.heap.size (fun _ => True) u11 x11_4) ∧ Aside0 (wc.heap[gb160]? = some (.cells #[.string ((rd_T32 l1 x12_4).f0), .int .i64 ((rd_T32 l1 x12_4).f1), .int .i64 ((rd_T32 l1 x12_4).f2), .int .i64 ((rd_T32 l1 x12_4).f3), .int .i64 ((rd_T32 l1 x12_4).f4)] 32 (0, 0))) ∧ Aside0 (Below w.heap.size w wc))
                          case first =>
                            have H := HC16.out
                            clear HC16
                            by_cases c19 : a2 = true
                            · subst c19
                              have H1 : (parterreref16_Table.j4 k4 l0 l1 true a3 x9_2 x10_2 x11_4 x12_4 ((rd_T32 l1 x12_4).f1) ((rd_T32 l1 x12_4).f3) ((rd_T32 l1 x12_4).f0) ((rd_T32 l1 x12_4).f1) ((rd_T32 l1 x12_4).f2) ((rd_T32 l1 x12_4).f3) ((rd_T32 l1 x12_4).f4)) = some r := by rw [if_pos rfl] at H; exact H
                              clear H
                              have H := H1
                              clear H1
                              have H' := Aside0.mk H
                              clear H
                              have hcz20_0 : w17.cell? ⟨gb160, 0, none⟩ = some (.string (⟨#[]⟩ : ByteArray)) := (blk_cell BK160.out 0).trans rfl
                              have hcz20_1 : w17.cell? ⟨gb160, 1, none⟩ = some (.int .i64 0) := (blk_cell BK160.out 1).trans rfl
                              have hcz20_2 : w17.cell? ⟨gb160, 2, none⟩ = some (.int .i64 0) := (blk_cell BK160.out 2).trans rfl
                              have hcz20_3 : w17.cell? ⟨gb160, 3, none⟩ = some (.int .i64 0) := (blk_cell BK160.out 3).trans rfl
                              have hcz20_4 : w17.cell? ⟨gb160, 4, none⟩ = some (.int .i64 0) := (blk_cell BK160.out 4).trans rfl
                              have hfz20_0 := blk_frozen BK160.out 0
                              have hfz20_1 := blk_frozen BK160.out 1
                              have hfz20_2 := blk_frozen BK160.out 2
                              have hfz20_3 := blk_frozen BK160.out 3
                              have hfz20_4 := blk_frozen BK160.out 4
                              go_wp2
                              go_meet
                              case rel => exact ⟨_, ((rd_T32 l1 x12_4).f1), ((rd_T32 l1 x12_4).f3), (by first | rfl | (simp; done) | (simp [*]; done)), (by first | rfl | (simp; done) | (simp [*]; done)), H', ⟨by have := HJ4.out; have := HK2.out; have := HJ8.out; have := HK4.out; first | omega | exact Nat.le_refl _⟩, ⟨by (with_reducible repeat (first | apply Kd.S_alloc | apply Kd.S_drewN | apply Kd.S_drew)); exact Kd.S_mono (Kd.S_far (p := ⟨gb160, 4, none⟩) (Kd.S_far (p := ⟨gb160, 3, none⟩) (Kd.S_far (p := ⟨gb160, 2, none⟩) (Kd.S_far (p := ⟨gb160, 1, none⟩) (Kd.S_far (p := ⟨gb160, 0, none⟩) (Kd.S_types HO_9.out BK160.out (by decide)) (fun _ hk => hk.2) (.string ((rd_T32 l1 x12_4).f0))) (fun _ hk => hk.2) (.int .i64 ((rd_T32 l1 x12_4).f1))) (fun _ hk => hk.2) (.int .i64 ((rd_T32 l1 x12_4).f2))) (fun _ hk => hk.2) (.int .i64 ((rd_T32 l1 x12_4).f3))) (fun _ hk => hk.2) (.int .i64 ((rd_T32 l1 x12_4).f4))) (fun _ hk => hk.1)⟩, ⟨by (with_reducible repeat (first | apply Kd.R_alloc | apply Kd.R_drewN | apply Kd.R_drew)); exact Kd.R_mono (Kd.R_far (p := ⟨gb160, 4, none⟩) (Kd.R_far (p := ⟨gb160, 3, none⟩) (Kd.R_far (p := ⟨gb160, 2, none⟩) (Kd.R_far (p := ⟨gb160, 1, none⟩) (Kd.R_far (p := ⟨gb160, 0, none⟩) (Kd.R_types HO_11.out BK160.out (by decide)) (fun _ hk => hk.2) (.string ((rd_T32 l1 x12_4).f0))) (fun _ hk => hk.2) (.int .i64 ((rd_T32 l1 x12_4).f1))) (fun _ hk => hk.2) (.int .i64 ((rd_T32 l1 x12_4).f2))) (fun _ hk => hk.2) (.int .i64 ((rd_T32 l1 x12_4).f3))) (fun _ hk => hk.2) (.int .i64 ((rd_T32 l1 x12_4).f4))) (fun _ hk => trivial)⟩, ⟨by (with_reducible repeat (first | refine blk_drewN ?_ _ | refine blk_drew ?_ | refine blk_alloc ?_ _)); refine blk_put (cs := #[.string ((rd_T32 l1 x12_4).f0), .int .i64 ((rd_T32 l1 x12_4).f1), .int .i64 ((rd_T32 l1 x12_4).f2), .int .i64 ((rd_T32 l1 x12_4).f3), .int .i64 0]) ?_ 4 _ rfl; (with_reducible repeat (first | refine blk_drewN ?_ _ | refine blk_drew ?_ | refine blk_alloc ?_ _)); refine blk_put (cs := #[.string ((rd_T32 l1 x12_4).f0), .int .i64 ((rd_T32 l1 x12_4).f1), .int .i64 ((rd_T32 l1 x12_4).f2), .int .i64 0, .int .i64 0]) ?_ 3 _ rfl; (with_reducible repeat (first | refine blk_drewN ?_ _ | refine blk_drew ?_ | refine blk_alloc ?_ _)); refine blk_put (cs := #[.string ((rd_T32 l1 x12_4).f0), .int .i64 ((rd_T32 l1 x12_4).f1), .int .i64 0, .int .i64 0, .int .i64 0]) ?_ 2 _ rfl; (with_reducible repeat (first | refine blk_drewN ?_ _ | refine blk_drew ?_ | refine blk_alloc ?_ _)); refine blk_put (cs := #[.string ((rd_T32 l1 x12_4).f0), .int .i64 0, .int .i64 0, .int .i64 0, .int .i64 0]) ?_ 1 _ rfl; (with_reducible repeat (first | refine blk_drewN ?_ _ | refine blk_drew ?_ | refine blk_alloc ?_ _)); refine blk_put (cs := #[.string (⟨#[]⟩ : ByteArray), .int .i64 0, .int .i64 0, .int .i64 0, .int .i64 0]) ?_ 0 _ rfl; (with_reducible repeat (first | refine blk_drewN ?_ _ | refine blk_drew ?_ | refine blk_alloc ?_ _)); exact BK160.out⟩, ⟨by repeat (first | (with_reducible first | exact HB.out | apply below_alloc | apply pw_below_drewN | apply below_drew1 | refine below_set ?_ GE160.out) | exact HB.out)⟩⟩
                            · replace c19 := Bool.eq_false_iff.mpr c19
                              subst c19
                              have H1 : (parterreref16_Table.j4 k4 l0 l1 false a3 x9_2 x10_2 x11_4 x12_4 ((rd_T32 l1 x12_4).f2) ((rd_T32 l1 x12_4).f4) ((rd_T32 l1 x12_4).f0) ((rd_T32 l1 x12_4).f1) ((rd_T32 l1 x12_4).f2) ((rd_T32 l1 x12_4).f3) ((rd_T32 l1 x12_4).f4)) = some r := by rw [if_neg (show ¬ (false = true) by decide)] at H; exact H
                              clear H
                              have H := H1
                              clear H1
                              have H' := Aside0.mk H
                              clear H
                              go_wp2
                              go_meet
                              case rel => exact ⟨_, ((rd_T32 l1 x12_4).f2), ((rd_T32 l1 x12_4).f4), (by first | rfl | (simp; done) | (simp [*]; done)), (by first | rfl | (simp; done) | (simp [*]; done)), H', ⟨by have := HJ4.out; have := HK2.out; have := HJ8.out; have := HK4.out; first | omega | exact Nat.le_refl _⟩, ⟨by (with_reducible repeat (first | apply Kd.S_alloc | apply Kd.S_drewN | apply Kd.S_drew)); exact Kd.S_mono (Kd.S_far (p := ⟨gb160, 4, none⟩) (Kd.S_far (p := ⟨gb160, 3, none⟩) (Kd.S_far (p := ⟨gb160, 2, none⟩) (Kd.S_far (p := ⟨gb160, 1, none⟩) (Kd.S_far (p := ⟨gb160, 0, none⟩) (Kd.S_types HO_9.out BK160.out (by decide)) (fun _ hk => hk.2) (.string ((rd_T32 l1 x12_4).f0))) (fun _ hk => hk.2) (.int .i64 ((rd_T32 l1 x12_4).f1))) (fun _ hk => hk.2) (.int .i64 ((rd_T32 l1 x12_4).f2))) (fun _ hk => hk.2) (.int .i64 ((rd_T32 l1 x12_4).f3))) (fun _ hk => hk.2) (.int .i64 ((rd_T32 l1 x12_4).f4))) (fun _ hk => hk.1)⟩, ⟨by (with_reducible repeat (first | apply Kd.R_alloc | apply Kd.R_drewN | apply Kd.R_drew)); exact Kd.R_mono (Kd.R_far (p := ⟨gb160, 4, none⟩) (Kd.R_far (p := ⟨gb160, 3, none⟩) (Kd.R_far (p := ⟨gb160, 2, none⟩) (Kd.R_far (p := ⟨gb160, 1, none⟩) (Kd.R_far (p := ⟨gb160, 0, none⟩) (Kd.R_types HO_11.out BK160.out (by decide)) (fun _ hk => hk.2) (.string ((rd_T32 l1 x12_4).f0))) (fun _ hk => hk.2) (.int .i64 ((rd_T32 l1 x12_4).f1))) (fun _ hk => hk.2) (.int .i64 ((rd_T32 l1 x12_4).f2))) (fun _ hk => hk.2) (.int .i64 ((rd_T32 l1 x12_4).f3))) (fun _ hk => hk.2) (.int .i64 ((rd_T32 l1 x12_4).f4))) (fun _ hk => trivial)⟩, ⟨by (with_reducible repeat (first | refine blk_drewN ?_ _ | refine blk_drew ?_ | refine blk_alloc ?_ _)); refine blk_put (cs := #[.string ((rd_T32 l1 x12_4).f0), .int .i64 ((rd_T32 l1 x12_4).f1), .int .i64 ((rd_T32 l1 x12_4).f2), .int .i64 ((rd_T32 l1 x12_4).f3), .int .i64 0]) ?_ 4 _ rfl; (with_reducible repeat (first | refine blk_drewN ?_ _ | refine blk_drew ?_ | refine blk_alloc ?_ _)); refine blk_put (cs := #[.string ((rd_T32 l1 x12_4).f0), .int .i64 ((rd_T32 l1 x12_4).f1), .int .i64 ((rd_T32 l1 x12_4).f2), .int .i64 0, .int .i64 0]) ?_ 3 _ rfl; (with_reducible repeat (first | refine blk_drewN ?_ _ | refine blk_drew ?_ | refine blk_alloc ?_ _)); refine blk_put (cs := #[.string ((rd_T32 l1 x12_4).f0), .int .i64 ((rd_T32 l1 x12_4).f1), .int .i64 0, .int .i64 0, .int .i64 0]) ?_ 2 _ rfl; (with_reducible repeat (first | refine blk_drewN ?_ _ | refine blk_drew ?_ | refine blk_alloc ?_ _)); refine blk_put (cs := #[.string ((rd_T32 l1 x12_4).f0), .int .i64 0, .int .i64 0, .int .i64 0, .int .i64 0]) ?_ 1 _ rfl; (with_reducible repeat (first | refine blk_drewN ?_ _ | refine blk_drew ?_ | refine blk_alloc ?_ _)); refine blk_put (cs := #[.string (⟨#[]⟩ : ByteArray), .int .i64 0, .int .i64 0, .int .i64 0, .int .i64 0]) ?_ 0 _ rfl; (with_reducible repeat (first | refine blk_drewN ?_ _ | refine blk_drew ?_ | refine blk_alloc ?_ _)); exact BK160.out⟩, ⟨by repeat (first | (with_reducible first | exact HB.out | apply below_alloc | apply pw_below_drewN | apply below_drew1 | refine below_set ?_ GE160.out) | exact HB.out)⟩⟩
                          case rest =>
                            clear HC16
                            try clear c1
                            try clear p1
                            try clear q1
                            try clear hx1
                            try clear p2
                            try clear c6
                            try clear c6b0
                            try clear c7
                            try clear c8
                            try clear c8b0
                            try clear c10
                            try clear c10b0
                            try clear c11
                            try clear c11b0
                            try clear c12
                            try clear c14
                            try clear c14b0
                            try clear c15
                            try clear c15b0
                            try clear p15
                            try clear q15
                            try clear hx15
                            try clear c19
                            try clear hcz18_0
                            try clear hcz18_1
                            try clear hcz18_2
                            try clear hcz18_3
                            try clear hcz18_4
                            try clear hcz20_0
                            try clear hcz20_1
                            try clear hcz20_2
                            try clear hcz20_3
                            try clear hcz20_4
                            try clear hfz18_0
                            try clear hfz18_1
                            try clear hfz18_2
                            try clear hfz18_3
                            try clear hfz18_4
                            try clear hfz20_0
                            try clear hfz20_1
                            try clear hfz20_2
                            try clear hfz20_3
                            try clear hfz20_4
                            try clear hx152_0
                            try clear hx159_0
                            try clear hx159_1
                            try clear hx159_2
                            try clear hx159_3
                            try clear hx159_4
                            try clear p1
                            try clear p152
                            try clear p159
                            try clear p2
                            try clear q1
                            try clear q152
                            try clear q159
                            obtain ⟨kq, x14_15, x15_15, rfl, rfl, HA, HJ15, HO_9, HO_11, BK160, HB⟩ := hcut
                            cases kq with
                            | zero => exact absurd HA.out (by simp [parterreref16_Table.j4])
                            | succ kj15 =>
                              have H := HA.out
                              clear HA
                              simp only [parterreref16_Table.j4] at H
                              by_cases c21 : x10_2 = x14_15
                              · rw [if_pos c21] at H
                                have c21b0 : (x10_2 == x14_15) = true := beq_iff_eq.mpr c21
                                have c21b1 : (x10_2 != x14_15) = false := bne_eq_false_iff_eq.mpr c21
                                clear c21
                                by_cases c22 : ((rd_T32 l1 x12_4).f0).size + 6 ≤ 9223372036854775807
                                · rw [if_pos c22] at H
                                  have c22b0 := eq_true c22
                                  have c22b1 : decide (((rd_T32 l1 x12_4).f0).size + 6 ≤ 9223372036854775807) = true := decide_eq_true c22
                                  try have c22b2 : (9223372036854775807 < ((rd_T32 l1 x12_4).f0).size + 6) = False := eq_false (Nat.not_lt.2 c22)
                                  by_cases c23 : x11_4.length < 8796093022208
                                  · rw [if_pos c23] at H
                                    have LMc23 := Aside0.mk c23
                                    clear c23
                                    obtain ⟨y161, hy161⟩ : ∃ y_ : List ByteArray, y_ = (x11_4 ++ [((rd_T32 l1 x12_4).f0) ++ (⟨#[45, 115, 116, 97, 114, 116]⟩ : ByteArray)]) := ⟨_, rfl⟩
                                    replace H : (if (wrap64 (x10_2 - x15_15)) = x14_15 then (if ((rd_T32 l1 x12_4).f0).size + 4 ≤ 9223372036854775807 then (if y161.length < 8796093022208 then (parterreref16_Table.l1 kj15 l0 l1 a2 a3 x9_2 x10_2 (y161 ++ [((rd_T32 l1 x12_4).f0) ++ (⟨#[45, 101, 110, 100]⟩ : ByteArray)]) (wrap64 (x12_4 + 1))) else (none)) else (none)) else (parterreref16_Table.l1 kj15 l0 l1 a2 a3 x9_2 x10_2 y161 (wrap64 (x12_4 + 1)))) = some r := by first | (rw [hy161]; with_reducible exact H) | (have H2_ := (Option.bind_some _ _).symm.trans H; rw [hy161]; with_reducible exact H2_) | (have H2_ := (Option.bind_some _ _).symm.trans H; with_reducible exact H2_) | with_reducible exact H | (rw [hy161]; exact H) | exact H
                                    have Ny161 := Aside0.mk hy161
                                    clear hy161
                                    by_cases c24 : (wrap64 (x10_2 - x15_15)) = x14_15
                                    · rw [if_pos c24] at H
                                      have c24b0 : ((wrap64 (x10_2 - x15_15)) == x14_15) = true := beq_iff_eq.mpr c24
                                      have c24b1 : ((wrap64 (x10_2 - x15_15)) != x14_15) = false := bne_eq_false_iff_eq.mpr c24
                                      clear c24
                                      by_cases c25 : ((rd_T32 l1 x12_4).f0).size + 4 ≤ 9223372036854775807
                                      · rw [if_pos c25] at H
                                        have c25b0 := eq_true c25
                                        have c25b1 : decide (((rd_T32 l1 x12_4).f0).size + 4 ≤ 9223372036854775807) = true := decide_eq_true c25
                                        try have c25b2 : (9223372036854775807 < ((rd_T32 l1 x12_4).f0).size + 4) = False := eq_false (Nat.not_lt.2 c25)
                                        by_cases c26 : y161.length < 8796093022208
                                        · rw [if_pos c26] at H
                                          have LMc26 := Aside0.mk c26
                                          clear c26
                                          obtain ⟨y164, hy164⟩ : ∃ y_ : List ByteArray, y_ = (y161 ++ [((rd_T32 l1 x12_4).f0) ++ (⟨#[45, 101, 110, 100]⟩ : ByteArray)]) := ⟨_, rfl⟩
                                          replace H : (parterreref16_Table.l1 kj15 l0 l1 a2 a3 x9_2 x10_2 y164 (wrap64 (x12_4 + 1))) = some r := by first | (rw [hy164]; with_reducible exact H) | (have H2_ := (Option.bind_some _ _).symm.trans H; rw [hy164]; with_reducible exact H2_) | (have H2_ := (Option.bind_some _ _).symm.trans H; with_reducible exact H2_) | with_reducible exact H | (rw [hy164]; exact H) | exact H
                                          have Ny164 := Aside0.mk hy164
                                          clear hy164
                                          have H' := Aside0.mk H
                                          clear H
                                          have hcz27_0 : wc.cell? ⟨gb160, 0, none⟩ = some (.string ((rd_T32 l1 x12_4).f0)) := (blk_cell BK160.out 0).trans rfl
                                          have hcz27_1 : wc.cell? ⟨gb160, 1, none⟩ = some (.int .i64 ((rd_T32 l1 x12_4).f1)) := (blk_cell BK160.out 1).trans rfl
                                          have hcz27_2 : wc.cell? ⟨gb160, 2, none⟩ = some (.int .i64 ((rd_T32 l1 x12_4).f2)) := (blk_cell BK160.out 2).trans rfl
                                          have hcz27_3 : wc.cell? ⟨gb160, 3, none⟩ = some (.int .i64 ((rd_T32 l1 x12_4).f3)) := (blk_cell BK160.out 3).trans rfl
                                          have hcz27_4 : wc.cell? ⟨gb160, 4, none⟩ = some (.int .i64 ((rd_T32 l1 x12_4).f4)) := (blk_cell BK160.out 4).trans rfl
                                          have hfz27_0 := blk_frozen BK160.out 0
                                          have hfz27_1 := blk_frozen BK160.out 1
                                          have hfz27_2 := blk_frozen BK160.out 2
                                          have hfz27_3 := blk_frozen BK160.out 3
                                          have hfz27_4 := blk_frozen BK160.out 4
                                          go_wp2_with (first | ((with_reducible refine gate_builtin (b := .append) (xs := #[.tmp 59, .tmp 63]) rfl ?_); at_builtin; refine Kd.R_append Kd.string (w0 := w) w.heap.size rfl (.tmp 59) (.tmp 63) 28 9 (.string ⟨#[]⟩) 16 rfl Try.underlying28 info9 rfl (by decide) (by omega) u11 x11_4 (((rd_T32 l1 x12_4).f0) ++ (⟨#[45, 115, 116, 97, 114, 116]⟩ : ByteArray)) [.string (((rd_T32 l1 x12_4).f0) ++ (⟨#[45, 115, 116, 97, 114, 116]⟩ : ByteArray))] (fun _ => True) (fun _ => False) rfl rfl ?aP (fun _ hk => hk.elim) ?aF ?aO ?aB ?aS ?aL ?_; (case aP => exact rfl); (case aB => exact (by repeat (first | (with_reducible first | exact HB.out | apply below_alloc | apply pw_below_drewN | apply below_drew1 | refine below_set ?_ GE160.out) | exact HB.out))); (case aF => exact (fun _ _ => trivial)); (case aO => exact (by (with_reducible repeat (first | apply Kd.R_alloc | apply Kd.R_drewN | apply Kd.R_drew)); exact HO_11.out)); (case aS => exact (below_size (by repeat (first | (with_reducible first | exact HB.out | apply below_alloc | apply pw_below_drewN | apply below_drew1 | refine below_set ?_ GE160.out) | exact HB.out)))); (case aL => have := LMc23.out; omega); intro v162 w28 ho hb hg hat; rw [← Ny161.out] at ho; have n0_ := Aside0.mk (Kd.S_after (ok := (fun _ => True)) (by (with_reducible repeat (first | apply Kd.S_alloc | apply Kd.S_drewN | apply Kd.S_drew)); exact Kd.S_mono HO_9.out (fun _ hk => ⟨trivial, hk⟩)) hg hat); have n1_ := Aside0.mk (blk_grown (g := gb160) (o := .cells #[.string ((rd_T32 l1 x12_4).f0), .int .i64 ((rd_T32 l1 x12_4).f1), .int .i64 ((rd_T32 l1 x12_4).f2), .int .i64 ((rd_T32 l1 x12_4).f3), .int .i64 ((rd_T32 l1 x12_4).f4)] 32 (0, 0)) (by (with_reducible repeat (first | refine blk_drewN ?_ _ | refine blk_drew ?_ | refine blk_alloc ?_ _)); exact BK160.out) hg (Kd.R_ne HO_11.out BK160.out (by decide))); have n2_ := Aside0.mk (hb); have n3_ := Aside0.mk (ho); clear HO_9; clear BK160; clear HB; clear HO_11; have HO_9 := n0_; have BK160 := n1_; have HB := n2_; have HO163 := n3_; clear n0_ n1_ n2_ n3_; clear ho hb hg hat; have hcz29_0 : w28.cell? ⟨gb160, 0, none⟩ = some (.string ((rd_T32 l1 x12_4).f0)) := (blk_cell BK160.out 0).trans rfl; have hcz29_1 : w28.cell? ⟨gb160, 1, none⟩ = some (.int .i64 ((rd_T32 l1 x12_4).f1)) := (blk_cell BK160.out 1).trans rfl; have hcz29_2 : w28.cell? ⟨gb160, 2, none⟩ = some (.int .i64 ((rd_T32 l1 x12_4).f2)) := (blk_cell BK160.out 2).trans rfl; have hcz29_3 : w28.cell? ⟨gb160, 3, none⟩ = some (.int .i64 ((rd_T32 l1 x12_4).f3)) := (blk_cell BK160.out 3).trans rfl; have hcz29_4 : w28.cell? ⟨gb160, 4, none⟩ = some (.int .i64 ((rd_T32 l1 x12_4).f4)) := (blk_cell BK160.out 4).trans rfl; have hfz29_0 := blk_frozen BK160.out 0; have hfz29_1 := blk_frozen BK160.out 1; have hfz29_2 := blk_frozen BK160.out 2; have hfz29_3 := blk_frozen BK160.out 3; have hfz29_4 := blk_frozen BK160.out 4) | ((with_reducible refine gate_builtin (b := .append) (xs := #[.tmp 70, .tmp 74]) rfl ?_); at_builtin; refine Kd.R_append Kd.string (w0 := w) w.heap.size rfl (.tmp 70) (.tmp 74) 28 9 (.string ⟨#[]⟩) 16 rfl Try.underlying28 info9 rfl (by decide) (by omega) v162 y161 (((rd_T32 l1 x12_4).f0) ++ (⟨#[45, 101, 110, 100]⟩ : ByteArray)) [.string (((rd_T32 l1 x12_4).f0) ++ (⟨#[45, 101, 110, 100]⟩ : ByteArray))] (fun _ => True) (fun _ => False) rfl rfl ?aP (fun _ hk => hk.elim) ?aF ?aO ?aB ?aS ?aL ?_; (case aP => exact rfl); (case aB => exact (by repeat (first | (with_reducible first | exact HB.out | apply below_alloc | apply pw_below_drewN | apply below_drew1 | refine below_set ?_ GE160.out) | exact HB.out))); (case aF => exact (fun _ _ => trivial)); (case aO => exact (by (with_reducible repeat (first | apply Kd.R_alloc | apply Kd.R_drewN | apply Kd.R_drew)); exact HO163.out)); (case aS => exact (below_size (by repeat (first | (with_reducible first | exact HB.out | apply below_alloc | apply pw_below_drewN | apply below_drew1 | refine below_set ?_ GE160.out) | exact HB.out)))); (case aL => have := LMc26.out; omega); intro v165 w30 ho hb hg hat; rw [← Ny164.out] at ho; have n0_ := Aside0.mk (Kd.S_after (ok := (fun _ => True)) (by (with_reducible repeat (first | apply Kd.S_alloc | apply Kd.S_drewN | apply Kd.S_drew)); exact HO_9.out) hg hat); have n1_ := Aside0.mk (blk_grown (g := gb160) (o := .cells #[.string ((rd_T32 l1 x12_4).f0), .int .i64 ((rd_T32 l1 x12_4).f1), .int .i64 ((rd_T32 l1 x12_4).f2), .int .i64 ((rd_T32 l1 x12_4).f3), .int .i64 ((rd_T32 l1 x12_4).f4)] 32 (0, 0)) (by (with_reducible repeat (first | refine blk_drewN ?_ _ | refine blk_drew ?_ | refine blk_alloc ?_ _)); exact BK160.out) hg (Kd.R_ne HO163.out BK160.out (by decide))); have n2_ := Aside0.mk (hb); have n3_ := Aside0.mk (ho); clear HO_9; clear BK160; clear HB; clear HO163; have HO_9 := n0_; have BK160 := n1_; have HB := n2_; have HO166 := n3_; clear n0_ n1_ n2_ n3_; clear ho hb hg hat))
                                          go_roundg kj15
                                          case measure => have := HJ4.out; have := HK2.out; have := HJ8.out; have := HK4.out; have := HJ15.out; omega
                                          case rel => exact ⟨(y164), (wrap64 (x12_4 + 1)), (by first | rfl | (simp; done) | (simp [*]; done)), H', ⟨by have := HJ4.out; have := HK2.out; have := HJ8.out; have := HK4.out; have := HJ15.out; omega⟩, ⟨by (with_reducible repeat (first | apply Kd.S_alloc | apply Kd.S_drewN | apply Kd.S_drew)); exact Kd.S_mono HO_9.out (fun _ hk => hk.2)⟩, ⟨by (with_reducible repeat (first | apply Kd.R_alloc | apply Kd.R_drewN | apply Kd.R_drew)); exact HO166.out⟩, ⟨by repeat (first | (with_reducible first | exact HB.out | apply below_alloc | apply pw_below_drewN | apply below_drew1 | refine below_set ?_ GE160.out) | exact HB.out)⟩⟩
                                        · rw [if_neg c26] at H
                                          exact absurd H (by simp)
                                      · rw [if_neg c25] at H
                                        exact absurd H (by simp)
                                    · rw [if_neg c24] at H
                                      have c24b0 : ((wrap64 (x10_2 - x15_15)) == x14_15) = false := beq_eq_false_iff_ne.mpr c24
                                      have c24b1 : ((wrap64 (x10_2 - x15_15)) != x14_15) = true := bne_iff_ne.mpr c24
                                      have H' := Aside0.mk H
                                      clear H
                                      have hcz31_0 : wc.cell? ⟨gb160, 0, none⟩ = some (.string ((rd_T32 l1 x12_4).f0)) := (blk_cell BK160.out 0).trans rfl
                                      have hcz31_1 : wc.cell? ⟨gb160, 1, none⟩ = some (.int .i64 ((rd_T32 l1 x12_4).f1)) := (blk_cell BK160.out 1).trans rfl
                                      have hcz31_2 : wc.cell? ⟨gb160, 2, none⟩ = some (.int .i64 ((rd_T32 l1 x12_4).f2)) := (blk_cell BK160.out 2).trans rfl
                                      have hcz31_3 : wc.cell? ⟨gb160, 3, none⟩ = some (.int .i64 ((rd_T32 l1 x12_4).f3)) := (blk_cell BK160.out 3).trans rfl
                                      have hcz31_4 : wc.cell? ⟨gb160, 4, none⟩ = some (.int .i64 ((rd_T32 l1 x12_4).f4)) := (blk_cell BK160.out 4).trans rfl
                                      have hfz31_0 := blk_frozen BK160.out 0
                                      have hfz31_1 := blk_frozen BK160.out 1
                                      have hfz31_2 := blk_frozen BK160.out 2
                                      have hfz31_3 := blk_frozen BK160.out 3
                                      have hfz31_4 := blk_frozen BK160.out 4
                                      go_wp2_with (first | ((with_reducible refine gate_builtin (b := .append) (xs := #[.tmp 59, .tmp 63]) rfl ?_); at_builtin; refine Kd.R_append Kd.string (w0 := w) w.heap.size rfl (.tmp 59) (.tmp 63) 28 9 (.string ⟨#[]⟩) 16 rfl Try.underlying28 info9 rfl (by decide) (by omega) u11 x11_4 (((rd_T32 l1 x12_4).f0) ++ (⟨#[45, 115, 116, 97, 114, 116]⟩ : ByteArray)) [.string (((rd_T32 l1 x12_4).f0) ++ (⟨#[45, 115, 116, 97, 114, 116]⟩ : ByteArray))] (fun _ => True) (fun _ => False) rfl rfl ?aP (fun _ hk => hk.elim) ?aF ?aO ?aB ?aS ?aL ?_; (case aP => exact rfl); (case aB => exact (by repeat (first | (with_reducible first | exact HB.out | apply below_alloc | apply pw_below_drewN | apply below_drew1 | refine below_set ?_ GE160.out) | exact HB.out))); (case aF => exact (fun _ _ => trivial)); (case aO => exact (by (with_reducible repeat (first | apply Kd.R_alloc | apply Kd.R_drewN | apply Kd.R_drew)); exact HO_11.out)); (case aS => exact (below_size (by repeat (first | (with_reducible first | exact HB.out | apply below_alloc | apply pw_below_drewN | apply below_drew1 | refine below_set ?_ GE160.out) | exact HB.out)))); (case aL => have := LMc23.out; omega); intro v162 w32 ho hb hg hat; rw [← Ny161.out] at ho; have n0_ := Aside0.mk (Kd.S_after (ok := (fun _ => True)) (by (with_reducible repeat (first | apply Kd.S_alloc | apply Kd.S_drewN | apply Kd.S_drew)); exact Kd.S_mono HO_9.out (fun _ hk => ⟨trivial, hk⟩)) hg hat); have n1_ := Aside0.mk (blk_grown (g := gb160) (o := .cells #[.string ((rd_T32 l1 x12_4).f0), .int .i64 ((rd_T32 l1 x12_4).f1), .int .i64 ((rd_T32 l1 x12_4).f2), .int .i64 ((rd_T32 l1 x12_4).f3), .int .i64 ((rd_T32 l1 x12_4).f4)] 32 (0, 0)) (by (with_reducible repeat (first | refine blk_drewN ?_ _ | refine blk_drew ?_ | refine blk_alloc ?_ _)); exact BK160.out) hg (Kd.R_ne HO_11.out BK160.out (by decide))); have n2_ := Aside0.mk (hb); have n3_ := Aside0.mk (ho); clear HO_9; clear BK160; clear HB; clear HO_11; have HO_9 := n0_; have BK160 := n1_; have HB := n2_; have HO163 := n3_; clear n0_ n1_ n2_ n3_; clear ho hb hg hat))
                                      go_roundg kj15
                                      case measure => have := HJ4.out; have := HK2.out; have := HJ8.out; have := HK4.out; have := HJ15.out; omega
                                      case rel => exact ⟨(y161), (wrap64 (x12_4 + 1)), (by first | rfl | (simp; done) | (simp [*]; done)), H', ⟨by have := HJ4.out; have := HK2.out; have := HJ8.out; have := HK4.out; have := HJ15.out; omega⟩, ⟨by (with_reducible repeat (first | apply Kd.S_alloc | apply Kd.S_drewN | apply Kd.S_drew)); exact Kd.S_mono HO_9.out (fun _ hk => hk.2)⟩, ⟨by (with_reducible repeat (first | apply Kd.R_alloc | apply Kd.R_drewN | apply Kd.R_drew)); exact HO163.out⟩, ⟨by repeat (first | (with_reducible first | exact HB.out | apply below_alloc | apply pw_below_drewN | apply below_drew1 | refine below_set ?_ GE160.out) | exact HB.out)⟩⟩
                                  · rw [if_neg c23] at H
                                    exact absurd H (by simp)
                                · rw [if_neg c22] at H
                                  exact absurd H (by simp)
                              · rw [if_neg c21] at H
                                have c21b0 : (x10_2 == x14_15) = false := beq_eq_false_iff_ne.mpr c21
                                have c21b1 : (x10_2 != x14_15) = true := bne_iff_ne.mpr c21
                                by_cases c33 : (wrap64 (x10_2 - x15_15)) = x14_15
                                · rw [if_pos c33] at H
                                  have c33b0 : ((wrap64 (x10_2 - x15_15)) == x14_15) = true := beq_iff_eq.mpr c33
                                  have c33b1 : ((wrap64 (x10_2 - x15_15)) != x14_15) = false := bne_eq_false_iff_eq.mpr c33
                                  clear c33
                                  by_cases c34 : ((rd_T32 l1 x12_4).f0).size + 4 ≤ 9223372036854775807
                                  · rw [if_pos c34] at H
                                    have c34b0 := eq_true c34
                                    have c34b1 : decide (((rd_T32 l1 x12_4).f0).size + 4 ≤ 9223372036854775807) = true := decide_eq_true c34
                                    try have c34b2 : (9223372036854775807 < ((rd_T32 l1 x12_4).f0).size + 4) = False := eq_false (Nat.not_lt.2 c34)
                                    by_cases c35 : x11_4.length < 8796093022208
                                    · rw [if_pos c35] at H
                                      have LMc35 := Aside0.mk c35
                                      clear c35
                                      obtain ⟨y167, hy167⟩ : ∃ y_ : List ByteArray, y_ = (x11_4 ++ [((rd_T32 l1 x12_4).f0) ++ (⟨#[45, 101, 110, 100]⟩ : ByteArray)]) := ⟨_, rfl⟩
                                      replace H : (parterreref16_Table.l1 kj15 l0 l1 a2 a3 x9_2 x10_2 y167 (wrap64 (x12_4 + 1))) = some r := by first | (rw [hy167]; with_reducible exact H) | (have H2_ := (Option.bind_some _ _).symm.trans H; rw [hy167]; with_reducible exact H2_) | (have H2_ := (Option.bind_some _ _).symm.trans H; with_reducible exact H2_) | with_reducible exact H | (rw [hy167]; exact H) | exact H
                                      have Ny167 := Aside0.mk hy167
                                      clear hy167
                                      have H' := Aside0.mk H
                                      clear H
                                      have hcz36_0 : wc.cell? ⟨gb160, 0, none⟩ = some (.string ((rd_T32 l1 x12_4).f0)) := (blk_cell BK160.out 0).trans rfl
                                      have hcz36_1 : wc.cell? ⟨gb160, 1, none⟩ = some (.int .i64 ((rd_T32 l1 x12_4).f1)) := (blk_cell BK160.out 1).trans rfl
                                      have hcz36_2 : wc.cell? ⟨gb160, 2, none⟩ = some (.int .i64 ((rd_T32 l1 x12_4).f2)) := (blk_cell BK160.out 2).trans rfl
                                      have hcz36_3 : wc.cell? ⟨gb160, 3, none⟩ = some (.int .i64 ((rd_T32 l1 x12_4).f3)) := (blk_cell BK160.out 3).trans rfl
                                      have hcz36_4 : wc.cell? ⟨gb160, 4, none⟩ = some (.int .i64 ((rd_T32 l1 x12_4).f4)) := (blk_cell BK160.out 4).trans rfl
                                      have hfz36_0 := blk_frozen BK160.out 0
                                      have hfz36_1 := blk_frozen BK160.out 1
                                      have hfz36_2 := blk_frozen BK160.out 2
                                      have hfz36_3 := blk_frozen BK160.out 3
                                      have hfz36_4 := blk_frozen BK160.out 4
                                      go_wp2_with (first | ((with_reducible refine gate_builtin (b := .append) (xs := #[.tmp 70, .tmp 74]) rfl ?_); at_builtin; refine Kd.R_append Kd.string (w0 := w) w.heap.size rfl (.tmp 70) (.tmp 74) 28 9 (.string ⟨#[]⟩) 16 rfl Try.underlying28 info9 rfl (by decide) (by omega) u11 x11_4 (((rd_T32 l1 x12_4).f0) ++ (⟨#[45, 101, 110, 100]⟩ : ByteArray)) [.string (((rd_T32 l1 x12_4).f0) ++ (⟨#[45, 101, 110, 100]⟩ : ByteArray))] (fun _ => True) (fun _ => False) rfl rfl ?aP (fun _ hk => hk.elim) ?aF ?aO ?aB ?aS ?aL ?_; (case aP => exact rfl); (case aB => exact (by repeat (first | (with_reducible first | exact HB.out | apply below_alloc | apply pw_below_drewN | apply below_drew1 | refine below_set ?_ GE160.out) | exact HB.out))); (case aF => exact (fun _ _ => trivial)); (case aO => exact (by (with_reducible repeat (first | apply Kd.R_alloc | apply Kd.R_drewN | apply Kd.R_drew)); exact HO_11.out)); (case aS => exact (below_size (by repeat (first | (with_reducible first | exact HB.out | apply below_alloc | apply pw_below_drewN | apply below_drew1 | refine below_set ?_ GE160.out) | exact HB.out)))); (case aL => have := LMc35.out; omega); intro v168 w37 ho hb hg hat; rw [← Ny167.out] at ho; have n0_ := Aside0.mk (Kd.S_after (ok := (fun _ => True)) (by (with_reducible repeat (first | apply Kd.S_alloc | apply Kd.S_drewN | apply Kd.S_drew)); exact Kd.S_mono HO_9.out (fun _ hk => ⟨trivial, hk⟩)) hg hat); have n1_ := Aside0.mk (blk_grown (g := gb160) (o := .cells #[.string ((rd_T32 l1 x12_4).f0), .int .i64 ((rd_T32 l1 x12_4).f1), .int .i64 ((rd_T32 l1 x12_4).f2), .int .i64 ((rd_T32 l1 x12_4).f3), .int .i64 ((rd_T32 l1 x12_4).f4)] 32 (0, 0)) (by (with_reducible repeat (first | refine blk_drewN ?_ _ | refine blk_drew ?_ | refine blk_alloc ?_ _)); exact BK160.out) hg (Kd.R_ne HO_11.out BK160.out (by decide))); have n2_ := Aside0.mk (hb); have n3_ := Aside0.mk (ho); clear HO_9; clear BK160; clear HB; clear HO_11; have HO_9 := n0_; have BK160 := n1_; have HB := n2_; have HO169 := n3_; clear n0_ n1_ n2_ n3_; clear ho hb hg hat))
                                      go_roundg kj15
                                      case measure => have := HJ4.out; have := HK2.out; have := HJ8.out; have := HK4.out; have := HJ15.out; omega
                                      case rel => exact ⟨(y167), (wrap64 (x12_4 + 1)), (by first | rfl | (simp; done) | (simp [*]; done)), H', ⟨by have := HJ4.out; have := HK2.out; have := HJ8.out; have := HK4.out; have := HJ15.out; omega⟩, ⟨by (with_reducible repeat (first | apply Kd.S_alloc | apply Kd.S_drewN | apply Kd.S_drew)); exact Kd.S_mono HO_9.out (fun _ hk => hk.2)⟩, ⟨by (with_reducible repeat (first | apply Kd.R_alloc | apply Kd.R_drewN | apply Kd.R_drew)); exact HO169.out⟩, ⟨by repeat (first | (with_reducible first | exact HB.out | apply below_alloc | apply pw_below_drewN | apply below_drew1 | refine below_set ?_ GE160.out) | exact HB.out)⟩⟩
                                    · rw [if_neg c35] at H
                                      exact absurd H (by simp)
                                  · rw [if_neg c34] at H
                                    exact absurd H (by simp)
                                · rw [if_neg c33] at H
                                  have c33b0 : ((wrap64 (x10_2 - x15_15)) == x14_15) = false := beq_eq_false_iff_ne.mpr c33
                                  have c33b1 : ((wrap64 (x10_2 - x15_15)) != x14_15) = true := bne_iff_ne.mpr c33
                                  have H' := Aside0.mk H
                                  clear H
                                  go_wp2
                                  go_roundg kj15
                                  case measure => have := HJ4.out; have := HK2.out; have := HJ8.out; have := HK4.out; have := HJ15.out; omega
                                  case rel => exact ⟨(x11_4), (wrap64 (x12_4 + 1)), (by first | rfl | (simp; done) | (simp [*]; done)), H', ⟨by have := HJ4.out; have := HK2.out; have := HJ8.out; have := HK4.out; have := HJ15.out; omega⟩, ⟨by (with_reducible repeat (first | apply Kd.S_alloc | apply Kd.S_drewN | apply Kd.S_drew)); exact HO_9.out⟩, ⟨by (with_reducible repeat (first | apply Kd.R_alloc | apply Kd.R_drewN | apply Kd.R_drew)); exact HO_11.out⟩, ⟨by repeat (first | (with_reducible first | exact HB.out | apply below_alloc | apply pw_below_drewN | apply below_drew1 | refine below_set ?_ GE160.out) | exact HB.out)⟩⟩
                        · rw [if_neg c15] at H
                          exact absurd H (by simp)
                      · rw [if_neg c14] at H
                        have c14b0 : decide (x12_4 < (l1.length : Int)) = false := decide_eq_false c14
                        clear c14
                        by_cases c38 : x9_2.length < 5864062014805
                        · rw [if_pos c38] at H
                          have LMc38 := Aside0.mk c38
                          clear c38
                          obtain ⟨y156, hy156⟩ : ∃ y_ : List (List ByteArray), y_ = (x9_2 ++ [x11_4]) := ⟨_, rfl⟩
                          replace H : (parterreref16_Table.l0 k4 l0 l1 a2 a3 y156 (wrap64 (x10_2 + 1))) = some r := by first | (rw [hy156]; with_reducible exact H) | (have H2_ := (Option.bind_some _ _).symm.trans H; rw [hy156]; with_reducible exact H2_) | (have H2_ := (Option.bind_some _ _).symm.trans H; with_reducible exact H2_) | with_reducible exact H | (rw [hy156]; exact H) | exact H
                          have Ny156 := Aside0.mk hy156
                          clear hy156
                          have H' := Aside0.mk H
                          clear H
                          obtain ⟨Ao40, co40, eo40⟩ := Kd.R_slice HO_11.out
                          subst eo40
                          go_wp2_with (first | ((with_reducible refine gate_builtin (b := .append) (xs := #[.tmp 76, .tmp 78]) rfl ?_); at_builtin; refine Kd.S_append (Kd.slice 9 Kd.string) (w0 := w) w.heap.size rfl (.tmp 76) (.tmp 78) 22 28 (.slice none 0 0) 24 rfl Try.underlying22 info28 rfl (by decide) (by omega) u9 x9_2 x11_4 [.slice Ao40 x11_4.length co40] (fun _ => True) (fun k_ => some k_ = (.slice Ao40 x11_4.length co40 : Value).ownBlock) rfl rfl ?aP (fun k_ hk_ => ((Kd.R_mono (ok' := fun k_ => ((fun _ => True)) k_ ∧ some k_ ≠ (u9 : Value).ownBlock) (Kd.R_apart' (HO_11.out) (Kd.S_typed HO_9.out) (by decide)) (fun k_ hk => ⟨trivial, hk.2⟩))).1 k_ hk_.symm) ?aF ?aO ?aB ?aS ?aL ?_; (case aP => exact Kd.M_row (Kd.R_mono (Kd.R_tight rfl (Kd.R_mono (ok' := fun k_ => ((fun _ => True)) k_ ∧ some k_ ≠ (u9 : Value).ownBlock) (Kd.R_apart' (HO_11.out) (Kd.S_typed HO_9.out) (by decide)) (fun k_ hk => ⟨trivial, hk.2⟩))) (fun _ h_ => h_))); (case aB => exact (by repeat (first | (with_reducible first | exact HB.out | apply below_alloc | apply pw_below_drewN | apply below_drew1) | exact HB.out))); (case aF => exact (fun _ _ => trivial)); (case aO => exact (by (with_reducible repeat (first | apply Kd.S_alloc | apply Kd.S_drewN | apply Kd.S_drew)); exact Kd.S_mono HO_9.out (fun k_ hk => ⟨trivial, fun e_ => hk e_⟩))); (case aS => exact (below_size (by repeat (first | (with_reducible first | exact HB.out | apply below_alloc | apply pw_below_drewN | apply below_drew1) | exact HB.out)))); (case aL => have := LMc38.out; omega); intro v157 w39 ho hb hg hat; rw [← Ny156.out] at ho; have n0_ := Aside0.mk (hb); have n1_ := Aside0.mk (ho); clear HB; clear HO_9; clear HO_11; have HB := n0_; have HO158 := n1_; clear n0_ n1_; clear ho hb hg hat))
                          go_roundg k4
                          case measure => have := HJ4.out; have := HK2.out; have := HJ8.out; have := HK4.out; omega
                          case rel => exact ⟨(y156), (wrap64 (x10_2 + 1)), (by first | rfl | (simp; done) | (simp [*]; done)), H', ⟨by have := HJ4.out; have := HK2.out; have := HJ8.out; have := HK4.out; omega⟩, ⟨by (with_reducible repeat (first | apply Kd.S_alloc | apply Kd.S_drewN | apply Kd.S_drew)); exact HO158.out⟩, ⟨by repeat (first | (with_reducible first | exact HB.out | apply below_alloc | apply pw_below_drewN | apply below_drew1) | exact HB.out)⟩⟩
                        · rw [if_neg c38] at H
                          exact absurd H (by simp)
            · rw [if_neg c8] at H
              have c8b0 : decide (x10_2 ≤ a3) = false := decide_eq_false c8
              clear c8
              obtain rfl := Option.some.inj H
              go_wp2
              go_ret
              exact ⟨_, by first | rfl | (simp [errW_none, errW_some] <;> rfl) | (simp [*, errW_none, errW_some] <;> rfl), by (with_reducible repeat (first | apply Kd.S_alloc | apply Kd.S_drewN | apply Kd.S_drew)); exact HO_9.out, by repeat (first | (with_reducible first | exact HB.out | apply below_alloc | apply pw_below_drewN | apply below_drew1) | exact HB.out)⟩

end Go.Proofs.Ytaalmkkekbhpnaa.PNb
