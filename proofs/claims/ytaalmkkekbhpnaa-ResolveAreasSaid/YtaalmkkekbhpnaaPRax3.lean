-- Written by a program of this session (wip/p2) out of the translation; Lean checks it.
import Derived.Test.YtaalmkkekbhpnaaSq
import Derived.Test.YtaalmkkekbhpnaaPRax0
namespace Go.Proofs.Ytaalmkkekbhpnaa.PRa
open Go.RowKit Go.Proofs.YtaalmkkekbhpnaaW.PrintWords Go.Proofs.YtaalmkkekbhpnaaW.PrintLast Go.Proofs.YtaalmkkekbhpnaaW.PrintMore
attribute [local go_sem] max2_int min2_int max_two min_two max_three min_three max_four min_four   -- for this text's walks alone
set_option linter.unusedVariables false
set_option linter.unusedSimpArgs false
open Go.Proofs.Ytaalmkkekbhpnaa.Opn Go.Proofs.Ytaalmkkekbhpnaa.Giv

/-! ### names_Table: function 7 -/
mutual
def names_Table.j0 : Nat → List (List ByteArray) → List (S32) → Bool → Int → Bool → Option ((List (List ByteArray)))
 | 0, _, _, _, _, _ => none
 | k + 1, x0, x1, x2, x3, x22 => if x22 = true then (some ([] : List (List ByteArray))) else (if 0 ≤ (wrap64 (x3 + 1)) then (if (wrap64 (x3 + 1) : Int).toNat ≤ 11728124029610 then ((some (List.replicate (wrap64 (x3 + 1) : Int).toNat [] : List (List ByteArray))).bind fun y101 => (names_Table.l0 k x0 x1 x2 x3 y101 (y101.length : Int) 0)) else (none)) else (none))
def names_Table.l0 : Nat → List (List ByteArray) → List (S32) → Bool → Int → List (List ByteArray) → Int → Int → Option ((List (List ByteArray)))
 | 0, _, _, _, _, _, _, _ => none
 | k + 1, x0, x1, x2, x3, x9, x27, x28 => if x28 < x27 then (if x28 < (x0.length : Int) then (if 0 ≤ x28 then (if x28 < (x9.length : Int) then (if (rd_L1 x9 x28).length + (rd_L1 x0 x28).length < 8796093022208 then (names_Table.l0 k x0 x1 x2 x3 (x9.set (x28 : Int).toNat ((rd_L1 x9 x28) ++ (rd_L1 x0 x28))) x27 (wrap64 (x28 + 1))) else (none)) else (none)) else (none)) else (names_Table.l0 k x0 x1 x2 x3 x9 x27 (wrap64 (x28 + 1)))) else (names_Table.l1 k x2 x3 x9 x1 (x1.length : Int) 0)
def names_Table.l1 : Nat → Bool → Int → List (List ByteArray) → List (S32) → Int → Int → Option ((List (List ByteArray)))
 | 0, _, _, _, _, _, _ => none
 | k + 1, x2, x3, x9, x48, x49, x50 => if x50 < x49 then (if 0 ≤ x50 then (if x50 < (x48.length : Int) then (if x2 = true then (names_Table.j3 k x2 x3 x9 ((rd_T32 x48 x50).f1) ((rd_T32 x48 x50).f3) x48 x49 x50 ((rd_T32 x48 x50).f0) ((rd_T32 x48 x50).f1) ((rd_T32 x48 x50).f2) ((rd_T32 x48 x50).f3) ((rd_T32 x48 x50).f4)) else (names_Table.j3 k x2 x3 x9 ((rd_T32 x48 x50).f2) ((rd_T32 x48 x50).f4) x48 x49 x50 ((rd_T32 x48 x50).f0) ((rd_T32 x48 x50).f1) ((rd_T32 x48 x50).f2) ((rd_T32 x48 x50).f3) ((rd_T32 x48 x50).f4))) else (none)) else (none)) else (some x9)
def names_Table.j3 : Nat → Bool → Int → List (List ByteArray) → Int → Int → List (S32) → Int → Int → ByteArray → Int → Int → Int → Int → Option ((List (List ByteArray)))
 | 0, _, _, _, _, _, _, _, _, _, _, _, _, _ => none
 | k + 1, x2, x3, x9, x13, x14, x48, x49, x50, x112000, x112001, x112002, x112003, x112004 => if x112000.size + 6 ≤ 9223372036854775807 then (if x112000.size + 4 ≤ 9223372036854775807 then (if x13 ≥ 0 then (names_Table.j4 k x2 x3 x9 x13 x14 x48 x49 x50 (decide (x13 ≤ x3)) (x112000 ++ (⟨#[45, 115, 116, 97, 114, 116]⟩ : ByteArray)) (x112000 ++ (⟨#[45, 101, 110, 100]⟩ : ByteArray))) else (names_Table.j4 k x2 x3 x9 x13 x14 x48 x49 x50 false (x112000 ++ (⟨#[45, 115, 116, 97, 114, 116]⟩ : ByteArray)) (x112000 ++ (⟨#[45, 101, 110, 100]⟩ : ByteArray)))) else (none)) else (none)
def names_Table.j4 : Nat → Bool → Int → List (List ByteArray) → Int → Int → List (S32) → Int → Int → Bool → ByteArray → ByteArray → Option ((List (List ByteArray)))
 | 0, _, _, _, _, _, _, _, _, _, _, _ => none
 | k + 1, x2, x3, x9, x13, x14, x48, x49, x50, x76, x113000, x113001 => if x76 = true then (if 0 ≤ x13 then (if x13 < (x9.length : Int) then (if (rd_L1 x9 x13).length < 8796093022208 then (names_Table.j5 k x2 x3 (x9.set (x13 : Int).toNat ((rd_L1 x9 x13) ++ [x113000])) x13 x14 x48 x49 x50 x113000 x113001) else (none)) else (none)) else (none)) else (names_Table.j5 k x2 x3 x9 x13 x14 x48 x49 x50 x113000 x113001)
def names_Table.j5 : Nat → Bool → Int → List (List ByteArray) → Int → Int → List (S32) → Int → Int → ByteArray → ByteArray → Option ((List (List ByteArray)))
 | 0, _, _, _, _, _, _, _, _, _, _ => none
 | k + 1, x2, x3, x9, x13, x14, x48, x49, x50, x113000, x113001 => names_Table.l2 k x2 x3 x9 x13 x14 x48 x49 x50 (x9.length : Int) 0 x113000 x113001
def names_Table.l2 : Nat → Bool → Int → List (List ByteArray) → Int → Int → List (S32) → Int → Int → Int → Int → ByteArray → ByteArray → Option ((List (List ByteArray)))
 | 0, _, _, _, _, _, _, _, _, _, _, _, _ => none
 | k + 1, x2, x3, x9, x13, x14, x48, x49, x50, x89, x90, x113000, x113001 => if x90 < x89 then (if (wrap64 (x90 - x14)) = x13 then (if 0 ≤ x90 then (if x90 < (x9.length : Int) then (if (rd_L1 x9 x90).length < 8796093022208 then (names_Table.l2 k x2 x3 (x9.set (x90 : Int).toNat ((rd_L1 x9 x90) ++ [x113001])) x13 x14 x48 x49 x50 x89 (wrap64 (x90 + 1)) x113000 x113001) else (none)) else (none)) else (none)) else (names_Table.l2 k x2 x3 x9 x13 x14 x48 x49 x50 x89 (wrap64 (x90 + 1)) x113000 x113001)) else (names_Table.l1 k x2 x3 x9 x48 x49 (wrap64 (x50 + 1)))
end
def names_Table.f (k : Nat) (l0 : List (List ByteArray)) (l1 : List (S32)) (a2 : Bool) (a3 : Int) : Option ((List (List ByteArray))) := if a3 < 0 then (names_Table.j0 k l0 l1 a2 a3 true) else (names_Table.j0 k l0 l1 a2 a3 (decide (a3 > 10000)))
theorem names_Table.mono_l : ∀ k, (∀ y0 y1 y2 y3 y4, LeO (names_Table.j0 k y0 y1 y2 y3 y4) (names_Table.j0 (k + 1) y0 y1 y2 y3 y4)) ∧ (∀ y0 y1 y2 y3 y4 y5 y6, LeO (names_Table.l0 k y0 y1 y2 y3 y4 y5 y6) (names_Table.l0 (k + 1) y0 y1 y2 y3 y4 y5 y6)) ∧ (∀ y0 y1 y2 y3 y4 y5, LeO (names_Table.l1 k y0 y1 y2 y3 y4 y5) (names_Table.l1 (k + 1) y0 y1 y2 y3 y4 y5)) ∧ (∀ y0 y1 y2 y3 y4 y5 y6 y7 y8 y9 y10 y11 y12, LeO (names_Table.j3 k y0 y1 y2 y3 y4 y5 y6 y7 y8 y9 y10 y11 y12) (names_Table.j3 (k + 1) y0 y1 y2 y3 y4 y5 y6 y7 y8 y9 y10 y11 y12)) ∧ (∀ y0 y1 y2 y3 y4 y5 y6 y7 y8 y9 y10, LeO (names_Table.j4 k y0 y1 y2 y3 y4 y5 y6 y7 y8 y9 y10) (names_Table.j4 (k + 1) y0 y1 y2 y3 y4 y5 y6 y7 y8 y9 y10)) ∧ (∀ y0 y1 y2 y3 y4 y5 y6 y7 y8 y9, LeO (names_Table.j5 k y0 y1 y2 y3 y4 y5 y6 y7 y8 y9) (names_Table.j5 (k + 1) y0 y1 y2 y3 y4 y5 y6 y7 y8 y9)) ∧ (∀ y0 y1 y2 y3 y4 y5 y6 y7 y8 y9 y10 y11, LeO (names_Table.l2 k y0 y1 y2 y3 y4 y5 y6 y7 y8 y9 y10 y11) (names_Table.l2 (k + 1) y0 y1 y2 y3 y4 y5 y6 y7 y8 y9 y10 y11))
 | 0 => ⟨fun _ _ _ _ _ r h => by simp [names_Table.j0] at h, fun _ _ _ _ _ _ _ r h => by simp [names_Table.l0] at h, fun _ _ _ _ _ _ r h => by simp [names_Table.l1] at h, fun _ _ _ _ _ _ _ _ _ _ _ _ _ r h => by simp [names_Table.j3] at h, fun _ _ _ _ _ _ _ _ _ _ _ r h => by simp [names_Table.j4] at h, fun _ _ _ _ _ _ _ _ _ _ r h => by simp [names_Table.j5] at h, fun _ _ _ _ _ _ _ _ _ _ _ _ r h => by simp [names_Table.l2] at h⟩
 | k + 1 => by
  obtain ⟨ih0, ih1, ih2, ih3, ih4, ih5, ih6⟩ := names_Table.mono_l k
  refine ⟨?_, ?_, ?_, ?_, ?_, ?_, ?_⟩
  ·intro y0 y1 y2 y3 y4
   unfold names_Table.j0
   repeat' first
   | (with_reducible exact ih0 _ _ _ _ _)
   | (with_reducible exact ih1 _ _ _ _ _ _ _)
   | (with_reducible exact ih2 _ _ _ _ _ _)
   | (with_reducible exact ih3 _ _ _ _ _ _ _ _ _ _ _ _ _)
   | (with_reducible exact ih4 _ _ _ _ _ _ _ _ _ _ _)
   | (with_reducible exact ih5 _ _ _ _ _ _ _ _ _ _)
   | (with_reducible exact ih6 _ _ _ _ _ _ _ _ _ _ _ _)
   | (with_reducible exact LeO.refl _)
   | (with_reducible exact LeO.none _)
   | (with_reducible refine LeO.ite ?_ ?_)
   | (with_reducible refine LeO.bind ?_ (fun _ => ?_))
  ·intro y0 y1 y2 y3 y4 y5 y6
   unfold names_Table.l0
   repeat' first
   | (with_reducible exact ih0 _ _ _ _ _)
   | (with_reducible exact ih1 _ _ _ _ _ _ _)
   | (with_reducible exact ih2 _ _ _ _ _ _)
   | (with_reducible exact ih3 _ _ _ _ _ _ _ _ _ _ _ _ _)
   | (with_reducible exact ih4 _ _ _ _ _ _ _ _ _ _ _)
   | (with_reducible exact ih5 _ _ _ _ _ _ _ _ _ _)
   | (with_reducible exact ih6 _ _ _ _ _ _ _ _ _ _ _ _)
   | (with_reducible exact LeO.refl _)
   | (with_reducible exact LeO.none _)
   | (with_reducible refine LeO.ite ?_ ?_)
   | (with_reducible refine LeO.bind ?_ (fun _ => ?_))
  ·intro y0 y1 y2 y3 y4 y5
   unfold names_Table.l1
   repeat' first
   | (with_reducible exact ih0 _ _ _ _ _)
   | (with_reducible exact ih1 _ _ _ _ _ _ _)
   | (with_reducible exact ih2 _ _ _ _ _ _)
   | (with_reducible exact ih3 _ _ _ _ _ _ _ _ _ _ _ _ _)
   | (with_reducible exact ih4 _ _ _ _ _ _ _ _ _ _ _)
   | (with_reducible exact ih5 _ _ _ _ _ _ _ _ _ _)
   | (with_reducible exact ih6 _ _ _ _ _ _ _ _ _ _ _ _)
   | (with_reducible exact LeO.refl _)
   | (with_reducible exact LeO.none _)
   | (with_reducible refine LeO.ite ?_ ?_)
   | (with_reducible refine LeO.bind ?_ (fun _ => ?_))
  ·intro y0 y1 y2 y3 y4 y5 y6 y7 y8 y9 y10 y11 y12
   unfold names_Table.j3
   repeat' first
   | (with_reducible exact ih0 _ _ _ _ _)
   | (with_reducible exact ih1 _ _ _ _ _ _ _)
   | (with_reducible exact ih2 _ _ _ _ _ _)
   | (with_reducible exact ih3 _ _ _ _ _ _ _ _ _ _ _ _ _)
   | (with_reducible exact ih4 _ _ _ _ _ _ _ _ _ _ _)
   | (with_reducible exact ih5 _ _ _ _ _ _ _ _ _ _)
   | (with_reducible exact ih6 _ _ _ _ _ _ _ _ _ _ _ _)
   | (with_reducible exact LeO.refl _)
   | (with_reducible exact LeO.none _)
   | (with_reducible refine LeO.ite ?_ ?_)
   | (with_reducible refine LeO.bind ?_ (fun _ => ?_))
  ·intro y0 y1 y2 y3 y4 y5 y6 y7 y8 y9 y10
   unfold names_Table.j4
   repeat' first
   | (with_reducible exact ih0 _ _ _ _ _)
   | (with_reducible exact ih1 _ _ _ _ _ _ _)
   | (with_reducible exact ih2 _ _ _ _ _ _)
   | (with_reducible exact ih3 _ _ _ _ _ _ _ _ _ _ _ _ _)
   | (with_reducible exact ih4 _ _ _ _ _ _ _ _ _ _ _)
   | (with_reducible exact ih5 _ _ _ _ _ _ _ _ _ _)
   | (with_reducible exact ih6 _ _ _ _ _ _ _ _ _ _ _ _)
   | (with_reducible exact LeO.refl _)
   | (with_reducible exact LeO.none _)
   | (with_reducible refine LeO.ite ?_ ?_)
   | (with_reducible refine LeO.bind ?_ (fun _ => ?_))
  ·intro y0 y1 y2 y3 y4 y5 y6 y7 y8 y9
   unfold names_Table.j5
   repeat' first
   | (with_reducible exact ih0 _ _ _ _ _)
   | (with_reducible exact ih1 _ _ _ _ _ _ _)
   | (with_reducible exact ih2 _ _ _ _ _ _)
   | (with_reducible exact ih3 _ _ _ _ _ _ _ _ _ _ _ _ _)
   | (with_reducible exact ih4 _ _ _ _ _ _ _ _ _ _ _)
   | (with_reducible exact ih5 _ _ _ _ _ _ _ _ _ _)
   | (with_reducible exact ih6 _ _ _ _ _ _ _ _ _ _ _ _)
   | (with_reducible exact LeO.refl _)
   | (with_reducible exact LeO.none _)
   | (with_reducible refine LeO.ite ?_ ?_)
   | (with_reducible refine LeO.bind ?_ (fun _ => ?_))
  ·intro y0 y1 y2 y3 y4 y5 y6 y7 y8 y9 y10 y11
   unfold names_Table.l2
   repeat' first
   | (with_reducible exact ih0 _ _ _ _ _)
   | (with_reducible exact ih1 _ _ _ _ _ _ _)
   | (with_reducible exact ih2 _ _ _ _ _ _)
   | (with_reducible exact ih3 _ _ _ _ _ _ _ _ _ _ _ _ _)
   | (with_reducible exact ih4 _ _ _ _ _ _ _ _ _ _ _)
   | (with_reducible exact ih5 _ _ _ _ _ _ _ _ _ _)
   | (with_reducible exact ih6 _ _ _ _ _ _ _ _ _ _ _ _)
   | (with_reducible exact LeO.refl _)
   | (with_reducible exact LeO.none _)
   | (with_reducible refine LeO.ite ?_ ?_)
   | (with_reducible refine LeO.bind ?_ (fun _ => ?_))
theorem names_Table.mono : ∀ a0 a1 a2 a3 k, LeO (names_Table.f k a0 a1 a2 a3) (names_Table.f (k + 1) a0 a1 a2 a3) := by
 intro a0 a1 a2 a3 k
 obtain ⟨ih0, ih1, ih2, ih3, ih4, ih5, ih6⟩ := names_Table.mono_l k
 unfold names_Table.f
 repeat' first
   | (with_reducible exact ih0 _ _ _ _ _)
   | (with_reducible exact ih1 _ _ _ _ _ _ _)
   | (with_reducible exact ih2 _ _ _ _ _ _)
   | (with_reducible exact ih3 _ _ _ _ _ _ _ _ _ _ _ _ _)
   | (with_reducible exact ih4 _ _ _ _ _ _ _ _ _ _ _)
   | (with_reducible exact ih5 _ _ _ _ _ _ _ _ _ _)
   | (with_reducible exact ih6 _ _ _ _ _ _ _ _ _ _ _ _)
   | (with_reducible exact LeO.refl _)
   | (with_reducible exact LeO.none _)
   | (with_reducible refine LeO.ite ?_ ?_)
   | (with_reducible refine LeO.bind ?_ (fun _ => ?_))
def names_Table.T8 : Bool × List (List Nat × List Nat) := (true, [([], []), ([], []), ([], []), ([], []), ([2, 3], [2, 3]), ([4], [4]), ([], []), ([], []), ([6, 7], [6, 7]), ([8], [8]), ([5, 9], [5, 9]), ([0, 1, 0, 1, 2, 3, 4, 5, 6, 7, 8, 9, 10], [0, 1]), ([11, 10, 10, 0, 1, 2, 3, 4, 5, 6, 7, 8, 9, 10], [10, 11])])
def names_Table.B8 : List Nat := [0, 0, 0, 0, 12, 28, 0, 0, 192, 448, 1020, 2047, 4095]
theorem names_Table.tab8 : rtab .any (opsOf Try.f7 8) = names_Table.T8 := by kernel_rfl
theorem names_Table.bits8 : waitsOk names_Table.T8.2 names_Table.B8 = true := by kernel_rfl
def names_Table.T18 : Bool × List (List Nat × List Nat) := (true, [([], []), ([], []), ([], []), ([], []), ([2, 3], [2, 3]), ([4], [4]), ([], []), ([6], [6]), ([7], [7]), ([5, 8], [5, 8]), ([0, 1, 0, 1, 2, 3, 4, 5, 6, 7, 8, 9], [0, 1]), ([10, 9, 9, 0, 1, 2, 3, 4, 5, 6, 7, 8, 9], [9, 10])])
def names_Table.B18 : List Nat := [0, 0, 0, 0, 12, 28, 0, 64, 192, 508, 1023, 2047]
theorem names_Table.tab18 : rtab .any (opsOf Try.f7 18) = names_Table.T18 := by kernel_rfl
theorem names_Table.bits18 : waitsOk names_Table.T18.2 names_Table.B18 = true := by kernel_rfl
def names_Table.T23 : Bool × List (List Nat × List Nat) := (true, [([], []), ([], []), ([], []), ([], []), ([2, 3], [2, 3]), ([4], [4]), ([], []), ([6], [6]), ([7], [7]), ([5, 8], [5, 8]), ([0, 1, 0, 1, 2, 3, 4, 5, 6, 7, 8, 9], [0, 1]), ([10, 9, 9, 0, 1, 2, 3, 4, 5, 6, 7, 8, 9], [9, 10])])
def names_Table.B23 : List Nat := [0, 0, 0, 0, 12, 28, 0, 64, 192, 508, 1023, 2047]
theorem names_Table.tab23 : rtab .any (opsOf Try.f7 23) = names_Table.T23 := by kernel_rfl
theorem names_Table.bits23 : waitsOk names_Table.T23.2 names_Table.B23 = true := by kernel_rfl
set_option maxHeartbeats 8000000 in
set_option maxRecDepth 100000 in
theorem names_Table.calls (k : Nat) (A0 : Option Addr) (c0 : Nat) (l0 : List (List ByteArray)) (A1 : Option Addr) (c1 : Nat) (l1 : List (S32)) (a2 : Bool) (a3 : Int) (r : List (List ByteArray)) (w : World) (hr0 : Kd.C (Kd.slice 9 Kd.string) w A0 l0.length l0) (hc0 : l0.length ≤ c0) (hr1 : Kd.C k32 w A1 l1.length l1) (hc1 : l1.length ≤ c1) (h : names_Table.f k l0 l1 a2 a3 = some r) :
  Calls Try.prog 7 #[.slice A0 l0.length c0, .slice A1 l1.length c1, .bool a2, .int .i64 a3] w fun e w' => ∃ v0_ : Value, e = .returned (v0_) ∧ Kd.S (Kd.slice 9 Kd.string) 28 w' w.heap.size (fun _ => True) v0_ r ∧ Below w.heap.size w w' := by
 have hu32 := Try.underlying32
 have hu43 := Try.underlying43
 have HR0 := Aside0.mk hr0
 have HC0 := Aside0.mk hc0
 clear hr0 hc0
 have HR1 := Aside0.mk hr1
 have HC1 := Aside0.mk hc1
 clear hr1 hc1
 have HB := Aside0.mk (Below.refl w.heap.size w)
 have H : (if a3 < 0 then (names_Table.j0 k l0 l1 a2 a3 true) else (names_Table.j0 k l0 l1 a2 a3 (decide (a3 > 10000)))) = some r := h
 clear h
 have HC5 := Aside0.mk H
 clear H
 go_enter Try.func7, Try.ntmps7
 go_upto_region 1 with (fail)
 go_cut [22] (fun v22 wc => ∃ (kq : Nat) (x22_4 : Bool), v22 = .bool x22_4 ∧ Aside0 (names_Table.j0 kq l0 l1 a2 a3 x22_4 = some r) ∧ Aside0 (kq ≤ k) ∧ Aside0 (Below w.heap.size w wc))
 case first =>
  have H := HC5.out
  clear HC5
  by_cases c6 : a3 < 0
  ·rw [if_pos c6] at H
   have c6b0 : decide (a3 < 0) = true := decide_eq_true c6
   clear c6
   (first | rw [c6b0] | (simp only [i64_w, i32_w]; rw [c6b0]) | skip)
   have H' := Aside0.mk H
   clear H
   go_wp2
   go_meet
   case rel => exact ⟨_, (true), rfs_, (by first | exact H' | (subst_vars; exact H')), ⟨ole_⟩, ⟨bel_⟩⟩
  ·rw [if_neg c6] at H
   have c6b0 : decide (a3 < 0) = false := decide_eq_false c6
   clear c6
   (first | rw [c6b0] | (simp only [i64_w, i32_w]; rw [c6b0]) | skip)
   have H' := Aside0.mk H
   clear H
   go_wp2
   go_meet
   case rel => exact ⟨_, (decide (a3 > 10000)), rfs_, (by first | exact H' | (subst_vars; exact H')), ⟨ole_⟩, ⟨bel_⟩⟩
 case rest =>
  clear HC5
  try clear c1
  try clear p2
  try clear c6
  try clear c6b0
  obtain ⟨kq, x22_4, rfl, HA, HJ4, HB⟩ := hcut
  cases kq with
  | zero => exact absurd HA.out (by simp [names_Table.j0])
  | succ kj4 =>
   have H := HA.out
   clear HA
   simp only [names_Table.j0] at H
   by_cases c7 : x22_4 = true
   ·subst c7
    rw [if_pos rfl] at H
    obtain rfl := Option.some.inj H
    go_wp2
    go_ret
    exact ⟨_, rsl_, by first | exact Kd.S_nil _ _ _ _ _ | exact Kd.N_nil _ _ _ _ _ | exact Kd.V_nil _ _ _ _ _ | exact Kd.Q_nil _ _ _ _ _ | exact Kd.R_nil _ _ _ _ _, bel_⟩
   ·replace c7 := Bool.eq_false_iff.mpr c7
    subst c7
    rw [if_neg (show ¬ (false = true) by decide)] at H
    obtain ⟨ji8, hji8⟩ : ∃ j_ : Int, (wrap64 (a3 + 1)) = j_ := ⟨_, rfl⟩
    replace H : (if 0 ≤ (ji8) then (if (ji8 : Int).toNat ≤ 11728124029610 then ((some (List.replicate (ji8 : Int).toNat [] : List (List ByteArray))).bind fun y101 => (names_Table.l0 kj4 l0 l1 a2 a3 y101 (y101.length : Int) 0)) else (none)) else (none)) = some r := by first | (rw [hji8] at H; exact H) | (simp only [hji8] at H ⊢; exact H)
    have hji8w : (IntKind.i64.wrap (a3 + 1)) = ji8 := (i64_w _).trans hji8
    by_cases c9 : 0 ≤ (ji8)
    ·rw [if_pos c9] at H
     have c9b0 := eq_true c9
     have c9b1 : decide (0 ≤ (ji8)) = true := decide_eq_true c9
     clear c9
     by_cases c10 : (ji8 : Int).toNat ≤ 11728124029610
     ·rw [if_pos c10] at H
      have c10b0 := eq_true c10
      have c10b1 : decide ((ji8 : Int).toNat ≤ 11728124029610) = true := decide_eq_true c10
      clear c10
      obtain ⟨y101, hy101⟩ : ∃ y_ : List (List ByteArray), y_ = (List.replicate (ji8 : Int).toNat []) := ⟨_, rfl⟩
      replace H : (names_Table.l0 kj4 l0 l1 a2 a3 y101 (y101.length : Int) 0) = some r := by first | (rw [hy101]; with_reducible exact H) | (have H2_ := (Option.bind_some _ _).symm.trans H; rw [hy101]; with_reducible exact H2_) | (have H2_ := (Option.bind_some _ _).symm.trans H; with_reducible exact H2_) | with_reducible exact H | (rw [hy101]; exact H) | exact H
      have Ny101 := Aside0.mk hy101
      clear hy101
      have H' := Aside0.mk H
      clear H
      go_wp2_with (first | ((with_reducible refine gate_dst (N := 25) rfl ?_); refine Kd.S_make (Kd.slice 9 Kd.string) _ 28 rfl (N := 25) rfl 22 _ _ rfl ji8 rfl rfl Try.underlying22 (.slice none 0 0) 24 info28 rfl (by decide) (by omega) [] (ok := fun _ => True) (okp := fun _ => True) ⟨_, rfl, Kd.R_nil _ _ _ _ _⟩ (fun _ hk => hk) trivial (of_decide_eq_true (by first | (with_reducible assumption) | assumption)) (Nat.le_trans (Nat.mul_le_mul_right _ (of_decide_eq_true (by first | (with_reducible assumption) | assumption) : ji8.toNat ≤ 11728124029610)) (by omega)) (Below.refl _ _) (Nat.le_refl _) ?_; intro v102 w11 ho12 hb hg_ hnew_; clear hg_ hnew_; (first | rw [← Ny101.out] at ho12 | (simp only [Int.reduceToNat] at ho12; rw [← Ny101.out] at ho12)); have n0_ := Aside0.mk (Kd.S_lower ho12 (below_size bel_)); have n1_ := Aside0.mk (below_step bel_ hb); clear HB; have HO103 := n0_; have HB := n1_; clear n0_ n1_; clear hb ho12; obtain ⟨Ao13, co13, eo13⟩ := Kd.S_slice HO103.out; subst eo13))
      go_loopg [28] kj4 (fun kq v28 w' => ∃ (x9_2 : List (List ByteArray)) (x28_2 : Int), v28 = .int .i64 x28_2 ∧ Aside0 (names_Table.l0 kq l0 l1 a2 a3 x9_2 (y101.length : Int) x28_2 = some r) ∧ Aside0 (kq ≤ kj4) ∧ Aside0 (Kd.S (Kd.slice 9 Kd.string) 28 w' w.heap.size (fun _ => True) (.slice Ao13 y101.length co13) x9_2) ∧ Aside0 (Below w.heap.size w w'))
      case atStart => exact ⟨(y101), (0), rfs_, H', ⟨Nat.le_refl _⟩, ⟨by (with_reducible repeat (first | apply Kd.S_alloc | apply Kd.S_drewN | apply Kd.S_drew)); exact HO103.out⟩, ⟨bel_⟩⟩
      case round =>
       clear H'
       try clear c1
       try clear p2
       try clear c6
       try clear c6b0
       try clear p6
       try clear c7
       try clear c9
       try clear c9b0
       try clear c9b1
       try clear c10
       try clear c10b0
       try clear c10b1
       try clear p2
       obtain ⟨x9_2, x28_2, rfl, HA, HK2, HO_9, HB⟩ := hrel
       have hl9_2 := (Kd.S_reads' HO_9.out).1
       rw [hl9_2] at HO_9
       (try simp only [hl9_2])
       cases gk with
       | zero => exact absurd HA.out (by simp [names_Table.l0])
       | succ k2 =>
        have H := HA.out
        clear HA
        simp only [names_Table.l0] at H
        by_cases c14 : x28_2 < (y101.length : Int)
        ·rw [if_pos c14] at H
         have c14b0 : decide (x28_2 < (y101.length : Int)) = true := decide_eq_true c14
         have c14b9 := c14b0
         try rw [hl9_2] at c14b9
         clear c14
         by_cases c15 : x28_2 < (l0.length : Int)
         ·rw [if_pos c15] at H
          have c15b0 : decide (x28_2 < (l0.length : Int)) = true := decide_eq_true c15
          clear c15
          by_cases c16 : 0 ≤ x28_2
          ·rw [if_pos c16] at H
           have c16b0 : decide (0 ≤ x28_2) = true := decide_eq_true c16
           clear c16
           by_cases c17 : x28_2 < (x9_2.length : Int)
           ·rw [if_pos c17] at H
            have c17b0 : decide (x28_2 < (x9_2.length : Int)) = true := decide_eq_true c17
            have c17b9 := c17b0
            try rw [hl9_2] at c17b9
            clear c17
            by_cases c18 : (rd_L1 x9_2 x28_2).length + (rd_L1 l0 x28_2).length < 8796093022208
            ·rw [if_pos c18] at H
             have LMc18 := Aside0.mk c18
             clear c18
             obtain ⟨y106, hy106⟩ : ∃ y_ : List ByteArray, y_ = ((rd_L1 x9_2 x28_2) ++ (rd_L1 l0 x28_2)) := ⟨_, rfl⟩
             replace H : (names_Table.l0 k2 l0 l1 a2 a3 (x9_2.set (x28_2 : Int).toNat y106) (y101.length : Int) (wrap64 (x28_2 + 1))) = some r := by first | (rw [hy106]; with_reducible exact H) | (have H2_ := (Option.bind_some _ _).symm.trans H; rw [hy106]; with_reducible exact H2_) | (have H2_ := (Option.bind_some _ _).symm.trans H; with_reducible exact H2_) | with_reducible exact H | (rw [hy106]; exact H) | exact H
             have Ny106 := Aside0.mk hy106
             clear hy106
             obtain ⟨y109, hy109⟩ : ∃ y_ : List (List ByteArray), y_ = (x9_2.set (x28_2 : Int).toNat y106) := ⟨_, rfl⟩
             replace H : (names_Table.l0 k2 l0 l1 a2 a3 y109 (y101.length : Int) (wrap64 (x28_2 + 1))) = some r := by first | (rw [hy109]; with_reducible exact H) | (have H2_ := (Option.bind_some _ _).symm.trans H; rw [hy109]; with_reducible exact H2_) | (have H2_ := (Option.bind_some _ _).symm.trans H; with_reducible exact H2_) | with_reducible exact H | (rw [hy109]; exact H) | exact H
             have Ny109 := Aside0.mk hy109
             clear hy109
             have H' := Aside0.mk H
             clear H
             try go_wp2
             have n0_ := Aside0.mk (Kd.S_drew HO_9.out)
             have n1_ := Aside0.mk (below_drew1 HB.out)
             clear HO_9
             clear HB
             have HO_9 := n0_
             have HB := n1_
             clear n0_ n1_
             have p104 : 0 ≤ (x28_2 : Int) := of_decide_eq_true (by first | (with_reducible assumption) | assumption)
             have q104 : x28_2 < (x9_2.length : Int) := of_decide_eq_true (by first | (with_reducible assumption) | assumption)
             obtain ⟨ad104, A104_0, c104_0, e104, hx104_0, hl104_0, hi104_0⟩ := at_L1 (Kd.S_reads' HO_9.out).2.2 x28_2 p104 q104
             cases e104
             obtain ⟨ce104, hce104, hMe104, hcc104⟩ := Kd.S_get HO_9.out [] x28_2 p104 (by first | exact q104 | exact of_decide_eq_true (by first | (with_reducible assumption) | assumption) | (have e_ := (Kd.S_reads' HO_9.out).1; omega))
             obtain ⟨ve104_0, rfl, ge104_0⟩ := hMe104
             have hv104_0 := hcc104 0 _ rfl
             rw [Nat.add_zero, show ((Kd.slice 9 Kd.string)).sz = 1 from rfl, Nat.mul_one] at hv104_0
             replace hv104_0 := Option.some.inj (hv104_0.symm.trans hx104_0)
             rw [hv104_0] at ge104_0
             have HL104_0 := Aside0.mk (show Kd.R Kd.string 9 _ _ _ _ (rd_L1 x9_2 x28_2) from ge104_0)
             clear hv104_0 ge104_0
             have HX104_0 := Aside0.mk hx104_0
             clear hcc104 hce104
             have HR104_0 := Aside0.mk hi104_0
             have HC104_0 := Aside0.mk hl104_0
             clear hi104_0 hl104_0
             replace p104 := eq_true p104
             replace q104 := eq_true q104
             have p105 : 0 ≤ (x28_2 : Int) := of_decide_eq_true (by first | (with_reducible assumption) | assumption)
             have q105 : x28_2 < (l0.length : Int) := of_decide_eq_true (by first | (with_reducible assumption) | assumption)
             obtain ⟨ad105, A105_0, c105_0, e105, hx105_0, hl105_0, hi105_0⟩ := at_L1 HR0.out x28_2 p105 q105
             have hw105_0 := hx105_0
             cases e105
             replace hx105_0 := (HB.out.cell (World.block_lt_of_cell? w _ hx105_0)).trans hx105_0
             have HR105_0 := Aside0.mk hi105_0
             have HC105_0 := Aside0.mk hl105_0
             clear hi105_0 hl105_0
             replace p105 := eq_true p105
             replace q105 := eq_true q105
             obtain ⟨go21, co21, eo21, gb21, gl21, cl21, HG21⟩ := Kd.S_form HO_9.out (by have h_ : (x28_2 : Int) < ((x9_2.length : Int) : Int) := of_decide_eq_true (by first | (with_reducible assumption) | assumption); have h2_ : 0 ≤ (x28_2 : Int) := (of_decide_eq_true (by first | (with_reducible assumption) | assumption)); omega)
             (first | cases eo21 | (injection eo21 with ea_ en_ ec_; (first | subst ea_ | (injection ea_ with ea_; subst ea_)); subst ec_; clear en_))
             have GB21 := Aside0.mk gb21
             have GG21 := Aside0.mk HG21
             clear gb21 gl21 HG21
             (first | simp only [add_plain] at hx104_0 | skip)
             obtain ⟨oki21, ce21, hcl21, hM21, hcc21, _, _, hH21⟩ := Kd.S_elem HO_9.out [] (x28_2 : Int) (of_decide_eq_true (by first | (with_reducible assumption) | assumption)) (by have h_ : (x28_2 : Int) < ((x9_2.length : Int) : Int) := of_decide_eq_true (by first | (with_reducible assumption) | assumption); first | exact h_ | (have e_ := (Kd.S_reads' HO_9.out).1; omega) | simpa using h_)
             obtain ⟨ve21_0, rfl, ge21_0⟩ := hM21
             have hv21 := hcc21 0 _ rfl
             have hX21 := HX104_0.out
             (try simp only [add_plain] at hX21)
             (try simp only [Nat.add_zero] at hv21)
             (try rw [show ((Kd.slice 9 Kd.string)).sz = 1 from rfl, Nat.mul_one] at hv21)
             replace hv21 := Option.some.inj (hv21.symm.trans hX21)
             subst hv21
             clear hX21 hcc21 hcl21
             have UU21 := Aside0.mk (show Kd.R Kd.string 9 _ w.heap.size oki21 (.slice A104_0 (rd_L1 x9_2 x28_2).length c104_0) (rd_L1 x9_2 x28_2) from ge21_0)
             have HH21 := Aside0.mk hH21
             have HN21 := Aside0.mk (Kd.S_reads' HO_9.out).1
             clear hH21 ge21_0
             refine start_ (n := 13) (S := fun w' => w'.cell? ⟨go21, (x28_2).toNat, none⟩ = some (.slice A104_0 (rd_L1 x9_2 x28_2).length c104_0) ∧ w'.cell? (ad105.add (x28_2).toNat) = some (.slice A105_0 (rd_L1 l0 x28_2).length c105_0)) (ds := [12]) #[false, false, false, false, false, false, false, false, false, false, false, false, false] (by kernel_rfl) rfl rfl ⟨hx104_0, ((HB.out.cell (World.block_lt_of_cell? w _ hw105_0)).trans hw105_0)⟩ (fun hHeld => ?_); refine with_tabW names_Table.tab8 names_Table.bits8 (fun HT_ HW_ => ?_)
             generalize wr.drew = w20 at HO_9 HB GG21 HH21 HL104_0 HR104_0 HR105_0 HX104_0 UU21 hx104_0 hx105_0 hHeld ⊢
             refine pure_ (i := 0) (N := some 35) (v := ?_) (a' := ?_) #[true, false, false, false, false, false, false, false, false, false, false, false, false] rfl rfl (any_of HT_.out (by kernel_rfl)) (fun _ _ _ h => h) (Or.inl ⟨by rfl, ?_⟩) ?_ ?_
             rotate_left
             ·intro w'
              go_simp
              with_reducible rfl
             rotate_left
             ·simp only [Act.put, List.setIfInBounds_toArray, List.set_cons_zero, List.set_cons_succ, i64_w, i32_w]
              rfl
             refine pure_ (i := 1) (N := some 36) (v := ?_) (a' := ?_) #[true, true, false, false, false, false, false, false, false, false, false, false, false] rfl rfl (any_of HT_.out (by kernel_rfl)) (fun _ _ _ h => h) (Or.inl ⟨by rfl, ?_⟩) ?_ ?_
             rotate_left
             ·intro w'
              go_simp
              with_reducible rfl
             rotate_left
             ·simp only [Act.put, List.setIfInBounds_toArray, List.set_cons_zero, List.set_cons_succ, i64_w, i32_w]
              rfl
             refine pure_ (i := 2) (N := some 37) (v := ?_) (a' := ?_) #[true, true, true, false, false, false, false, false, false, false, false, false, false] rfl rfl (any_of HT_.out (by kernel_rfl)) (fun _ _ _ h => h) (Or.inl ⟨by rfl, ?_⟩) ?_ ?_
             rotate_left
             ·intro w'
              go_simp
              with_reducible rfl
             rotate_left
             ·simp only [Act.put, List.setIfInBounds_toArray, List.set_cons_zero, List.set_cons_succ, i64_w, i32_w]
              rfl
             refine pure_ (i := 3) (N := some 38) (v := ?_) (a' := ?_) #[true, true, true, true, false, false, false, false, false, false, false, false, false] rfl rfl (any_of HT_.out (by kernel_rfl)) (fun _ _ _ h => h) (Or.inl ⟨by rfl, ?_⟩) ?_ ?_
             rotate_left
             ·intro w'
              go_simp
              with_reducible rfl
             rotate_left
             ·simp only [Act.put, List.setIfInBounds_toArray, List.set_cons_zero, List.set_cons_succ, i64_w, i32_w]
              rfl
             refine pure_ (i := 4) (N := some 39) (v := ?_) (a' := ?_) #[true, true, true, true, true, false, false, false, false, false, false, false, false] rfl rfl (any_of HT_.out (by kernel_rfl)) (fun _ _ _ h => h) (Or.inl ⟨by rfl, ?_⟩) ?_ ?_
             rotate_left
             ·intro w'
              go_simp
              with_reducible rfl
             rotate_left
             ·simp only [Act.put, List.setIfInBounds_toArray, List.set_cons_zero, List.set_cons_succ, i64_w, i32_w]
              rfl
             refine pure_ (i := 6) (N := some 41) (v := ?_) (a' := ?_) #[true, true, true, true, true, false, true, false, false, false, false, false, false] rfl rfl (any_of HT_.out (by kernel_rfl)) (fun _ _ _ h => h) (Or.inl ⟨by rfl, ?_⟩) ?_ ?_
             rotate_left
             ·intro w'
              go_simp
              with_reducible rfl
             rotate_left
             ·simp only [Act.put, List.setIfInBounds_toArray, List.set_cons_zero, List.set_cons_succ, i64_w, i32_w]
              rfl
             refine pure_ (i := 7) (N := some 42) (v := ?_) (a' := ?_) #[true, true, true, true, true, false, true, true, false, false, false, false, false] rfl rfl (any_of HT_.out (by kernel_rfl)) (fun _ _ _ h => h) (Or.inl ⟨by rfl, ?_⟩) ?_ ?_
             rotate_left
             ·intro w'
              go_simp
              with_reducible rfl
             rotate_left
             ·simp only [Act.put, List.setIfInBounds_toArray, List.set_cons_zero, List.set_cons_succ, i64_w, i32_w]
              rfl
             refine pure_ (i := 8) (N := some 43) (v := ?_) (a' := ?_) #[true, true, true, true, true, false, true, true, true, false, false, false, false] rfl rfl (any_of HT_.out (by kernel_rfl)) (fun _ _ _ h => h) (Or.inl ⟨by rfl, ?_⟩) ?_ ?_
             rotate_left
             ·intro w'
              go_simp
              with_reducible rfl
             rotate_left
             ·simp only [Act.put, List.setIfInBounds_toArray, List.set_cons_zero, List.set_cons_succ, i64_w, i32_w]
              rfl
             refine take_ (i := 5) (N := some 40) (v := ?_) (a' := ?_) #[true, true, true, true, true, true, true, true, true, false, false, false, false] rfl rfl (take_ofW HT_.out HW_.out (by kernel_rfl)) (fun _ _ _ h => h) (Or.inl ⟨by rfl, ?_⟩) hHeld ?_ ?_
             rotate_left
             ·rintro w' ⟨s0, s1⟩
              go_simp
              with_reducible rfl
             rotate_left
             ·simp only [Act.put, List.setIfInBounds_toArray, List.set_cons_zero, List.set_cons_succ, i64_w, i32_w]
              rfl
             refine take_ (i := 9) (N := some 44) (v := ?_) (a' := ?_) #[true, true, true, true, true, true, true, true, true, true, false, false, false] rfl rfl (take_ofW HT_.out HW_.out (by kernel_rfl)) (fun _ _ _ h => h) (Or.inl ⟨by rfl, ?_⟩) hHeld ?_ ?_
             rotate_left
             ·rintro w' ⟨s0, s1⟩
              go_simp
              with_reducible rfl
             rotate_left
             ·simp only [Act.put, List.setIfInBounds_toArray, List.set_cons_zero, List.set_cons_succ, i64_w, i32_w]
              rfl
             refine one_ (i := 10) (N := some 45) #[true, true, true, true, true, true, true, true, true, true, true, false, false] rfl rfl (one_of HT_.out (by kernel_rfl)) (by decide) (fun K hK => ?_)
             refine Kd.R_append_rows_step Kd.string (w0 := w) w.heap.size (by rfl) (.tmp 40) (.tmp 44) 28 9 (.string ⟨#[]⟩) 16 rfl Try.underlying28 info9 rfl (by decide) (by omega) (.slice A104_0 (rd_L1 x9_2 x28_2).length c104_0) (rd_L1 x9_2 x28_2) (rd_L1 l0 x28_2) _ _ _ (fun k_ => oki21 k_ ∨ ((fun _ => True)) k_ ∧ w20.heap.size ≤ k_) (fun _ => False) rfl rfl ?aO ?aR (fun _ _ h => h) (fun _ h => h.elim) ?aF ?aB ?aS ?aL ?_
             (case aR => repeat (first | exact (Kd.C_below HR105_0.out HB.out) | (with_reducible refine Kd.C_alloc ?_ _) | (with_reducible refine Kd.C_drewN ?_ _) | (with_reducible refine Kd.C_drew ?_)))
             (case aB => exact bel_)
             (case aF => exact (fun k_ hk => .inr ⟨trivial, hk⟩))
             (case aO => exact (by (with_reducible repeat (first | apply Kd.R_alloc | apply Kd.R_drewN | apply Kd.R_drew)); exact Kd.R_mono UU21.out (fun _ hk => .inl hk)))
             (case aS => exact (below_size bel_))
             (case aL => have := LMc18.out; omega)
             intro v107 w22 ho hb hg hat
             (first | have HS0_ := cell_grown hg (hHeld.1) (by first | (rw [add_block]; exact (fun e_ => ((HL104_0.out.1 _ e_.symm).2) rfl)) | (show some (Addr.add _ _).block ≠ _; rw [add_block]; exact (fun e_ => ((HL104_0.out.1 _ e_.symm).2) rfl)) | exact (fun e_ => ((HL104_0.out.1 _ e_.symm).2) rfl)) | have HS0_ := cell_grown hg (cell_unalloc (hHeld.1) (by first | (rw [add_block]; exact Kd.S_lt HO_9.out _ rfl) | (show (Addr.add _ _).block < _; rw [add_block]; exact Kd.S_lt HO_9.out _ rfl) | exact Kd.S_lt HO_9.out _ rfl)) (by first | (rw [add_block]; exact (fun e_ => ((HL104_0.out.1 _ e_.symm).2) rfl)) | (show some (Addr.add _ _).block ≠ _; rw [add_block]; exact (fun e_ => ((HL104_0.out.1 _ e_.symm).2) rfl)) | exact (fun e_ => ((HL104_0.out.1 _ e_.symm).2) rfl)))
             rw [← Ny106.out] at ho
             have n0_ := Aside0.mk (hb)
             have n1_ := Aside0.mk (Kd.H_grown (Kd.H_widen (by repeat (first | exact HH21.out | refine Kd.H_alloc ?_ _ | refine Kd.H_drewN ?_ _ | refine Kd.H_drew ?_))) hg (fun k_ e_ => .inl (UU21.out.1 k_ e_)))
             have n2_ := Aside0.mk (ho)
             clear HB
             clear HH21
             clear HO_9
             clear UU21
             clear HL104_0
             have HB := n0_
             have HH21 := n1_
             have HO108 := n2_
             clear n0_ n1_ n2_
             clear ho hb hg hat
             have p19 : 0 ≤ (x28_2 : Int) := of_decide_eq_true (by first | (with_reducible assumption) | assumption)
             have q19 : (x28_2 : Int) < ((x9_2.length : Int) : Int) := of_decide_eq_true (by first | (with_reducible assumption) | assumption)
             replace p19 := eq_true p19
             replace q19 := eq_true q19
             obtain ⟨Ao25, co25, eo25⟩ := Kd.R_slice HO108.out
             (first | subst eo25 | (injection eo25 with f1_ f2_ f3_; have f4_ := f1_.symm; have f5_ := f3_.symm; clear f1_ f2_ f3_; subst f4_; subst f5_))
             obtain ⟨_, _, hraw23, _, _, hcc23, _⟩ := Kd.H_raw HH21.out (of_decide_eq_true (by first | (with_reducible assumption) | assumption)) (by have h_ : (x28_2 : Int) < ((x9_2.length : Int) : Int) := of_decide_eq_true (by first | (with_reducible assumption) | assumption); first | exact h_ | (have e_ := (HN21.out); omega) | simpa using h_)
             obtain ⟨_, hfr23⟩ := Kd.H_at HH21.out (of_decide_eq_true (by first | (with_reducible assumption) | assumption)) (by have h_ : (x28_2 : Int) < ((x9_2.length : Int) : Int) := of_decide_eq_true (by first | (with_reducible assumption) | assumption); first | exact h_ | (have e_ := (HN21.out); omega) | simpa using h_)
             have hx23_0 := hcc23 0 _ rfl
             have hf23_0 := hfr23 0
             (try simp only [Nat.add_zero] at hx23_0 hf23_0)
             (try rw [show ((Kd.slice 9 Kd.string)).sz = 1 from rfl, Nat.mul_one] at hx23_0)
             (try rw [show ((Kd.slice 9 Kd.string)).sz = 1 from rfl, Nat.mul_one] at hf23_0)
             have HP23 := Kd.S_seg0 HH21.out (of_decide_eq_true (by first | (with_reducible assumption) | assumption)) (by have h_ : (x28_2 : Int) < ((x9_2.length : Int) : Int) := of_decide_eq_true (by first | (with_reducible assumption) | assumption); first | exact h_ | (have e_ := (HN21.out); omega) | simpa using h_) (seg := [.slice Ao25 y106.length co25]) (j := 0) (show 1 ≤ 1 from by decide) (x' := y106) (Kd.M_row HO108.out) (fun _ hk => hk)
             (try simp only [show ((Kd.slice 9 Kd.string)).sz = 1 from rfl, Nat.mul_one, Nat.add_zero] at HP23)
             clear hcc23 hfr23
             have HS23 := HP23.1
             rw [← Ny109.out] at HS23
             have HQ23 := Aside0.mk HS23
             obtain ⟨_, hgg23⟩ := Kd.R_typed hraw23 go21 rfl
             have GG23_ := Aside0.mk hgg23
             clear HP23 HS23 hgg23
             refine hK.out _ _ ⟨HS0_, ((HB.out.cell (World.block_lt_of_cell? w _ hw105_0)).trans hw105_0)⟩ (fun hHeld => ?_)
             clear hK K
             refine norm_ (a' := ?_) ?_ ?_
             rotate_left
             ·show Act.put _ (some 45) _ = _
              simp only [Act.put, List.setIfInBounds_toArray, List.set_cons_zero, List.set_cons_succ, i64_w, i32_w]
              rfl
             refine pure_ (i := 11) (N := some 46) (v := ?_) (a' := ?_) #[true, true, true, true, true, true, true, true, true, true, true, true, false] rfl rfl (any_of HT_.out (by kernel_rfl)) (fun _ _ _ h => h) (Or.inl ⟨by rfl, ?_⟩) ?_ ?_
             rotate_left
             ·intro w'
              go_simp
              with_reducible rfl
             rotate_left
             ·simp only [Act.put, List.setIfInBounds_toArray, List.set_cons_zero, List.set_cons_succ, i64_w, i32_w]
              rfl
             refine last_ (i := 12) (N := none) #[true, true, true, true, true, true, true, true, true, true, true, true, true] rfl rfl (one_of HT_.out (by kernel_rfl)) (by decide) (fun K hK => ?_)
             refine skip_ (w1 := ?_) (by rfl) rfl ?_ ?_
             rotate_left
             ·go_simp
              rfl
             refine hK.out _ _ ?_
             clear hK K
             refine done_ (done_of HT_.out (by kernel_rfl)) ?_
             try go_wp2
             (try simp only [← hl9_2])
             go_roundg k2
             case measure => have := HJ4.out; have := HK2.out; omega
             case rel => exact ⟨(y109), (wrap64 (x28_2 + 1)), rfs_, H', ⟨by have := HJ4.out; have := HK2.out; omega⟩, ⟨by (try simp only [hl9_2]); (with_reducible repeat (first | apply Kd.S_alloc | apply Kd.S_drewN | apply Kd.S_drew)); exact HQ23.out⟩, ⟨by repeat (first | (with_reducible first | exact HB.out | apply below_alloc | apply pw_below_drewN | apply below_drew1 | refine below_set ?_ GB21.out) | exact HB.out)⟩⟩
            ·rw [if_neg c18] at H
             exact absurd H (by simp)
           ·rw [if_neg c17] at H
            exact absurd H (by simp)
          ·rw [if_neg c16] at H
           exact absurd H (by simp)
         ·rw [if_neg c15] at H
          have c15b0 : decide (x28_2 < (l0.length : Int)) = false := decide_eq_false c15
          clear c15
          have H' := Aside0.mk H
          clear H
          go_wp2
          (try simp only [← hl9_2])
          go_roundg k2
          case measure => have := HJ4.out; have := HK2.out; omega
          case rel => exact ⟨(x9_2), (wrap64 (x28_2 + 1)), rfs_, H', ⟨by have := HJ4.out; have := HK2.out; omega⟩, ⟨by (try simp only [hl9_2]); (with_reducible repeat (first | apply Kd.S_alloc | apply Kd.S_drewN | apply Kd.S_drew)); exact HO_9.out⟩, ⟨bel_⟩⟩
        ·rw [if_neg c14] at H
         have c14b0 : decide (x28_2 < (y101.length : Int)) = false := decide_eq_false c14
         have c14b9 := c14b0
         try rw [hl9_2] at c14b9
         clear c14
         have H' := Aside0.mk H
         clear H
         go_wp2
         go_loopg [50] k2 (fun kq v50 w' => ∃ (x9_3 : List (List ByteArray)) (x50_3 : Int), v50 = .int .i64 x50_3 ∧ Aside0 (names_Table.l1 kq a2 a3 x9_3 l1 (l1.length : Int) x50_3 = some r) ∧ Aside0 (kq ≤ k2) ∧ Aside0 (Kd.S (Kd.slice 9 Kd.string) 28 w' w.heap.size (fun _ => True) (.slice Ao13 x9_2.length co13) x9_3) ∧ Aside0 (Below w.heap.size w w'))
         case atStart => exact ⟨(x9_2), (0), rfs_, H', ⟨Nat.le_refl _⟩, ⟨by (try simp only [hl9_2]); (with_reducible repeat (first | apply Kd.S_alloc | apply Kd.S_drewN | apply Kd.S_drew)); exact HO_9.out⟩, ⟨bel_⟩⟩
         case round =>
          clear H'
          try clear c1
          try clear p1
          try clear q1
          try clear hx1
          try clear c2
          try clear p2
          try clear hx2
          try clear c6
          try clear c6b0
          try clear p6
          try clear c7
          try clear c9
          try clear c9b0
          try clear c9b1
          try clear c10
          try clear c10b0
          try clear c10b1
          try clear p10
          try clear q10
          try clear hx10
          try clear c14
          try clear c14b0
          try clear c15
          try clear c15b0
          try clear c16
          try clear c16b0
          try clear c17
          try clear c17b0
          try clear c18
          try clear p19
          try clear q19
          try clear c21
          try clear c23
          try clear hx23
          try clear hf23
          try clear hx104_0
          try clear hx105_0
          try clear hx23_0
          try clear p104
          try clear p105
          try clear p19
          try clear p2
          try clear p6
          try clear q104
          try clear q105
          try clear q19
          obtain ⟨x9_3, x50_3, rfl, HA, HK3, HO_9, HB⟩ := hrel
          have hl9_3 := (Kd.S_reads' HO_9.out).1
          rw [hl9_3] at HO_9
          (try simp only [hl9_3])
          cases gk with
          | zero => exact absurd HA.out (by simp [names_Table.l1])
          | succ k3 =>
           have H := HA.out
           clear HA
           simp only [names_Table.l1] at H
           by_cases c26 : x50_3 < (l1.length : Int)
           ·rw [if_pos c26] at H
            have c26b0 : decide (x50_3 < (l1.length : Int)) = true := decide_eq_true c26
            clear c26
            by_cases c27 : 0 ≤ x50_3
            ·rw [if_pos c27] at H
             have c27b0 : decide (0 ≤ x50_3) = true := decide_eq_true c27
             clear c27
             by_cases c28 : x50_3 < (l1.length : Int)
             ·rw [if_pos c28] at H
              have c28b0 : decide (x50_3 < (l1.length : Int)) = true := decide_eq_true c28
              clear c28
              have HC29 := Aside0.mk H
              clear H
              have p110 : 0 ≤ (x50_3 : Int) := of_decide_eq_true (by first | (with_reducible assumption) | assumption)
              have q110 : x50_3 < (l1.length : Int) := of_decide_eq_true (by first | (with_reducible assumption) | assumption)
              obtain ⟨ad110, e110, hx110_0, hx110_1, hx110_2, hx110_3, hx110_4⟩ := at_T32 HR1.out x50_3 p110 q110
              cases e110
              replace hx110_0 := (HB.out.cell (World.block_lt_of_cell? w _ hx110_0)).trans hx110_0
              replace hx110_1 := (HB.out.cell (World.block_lt_of_cell? w _ hx110_1)).trans hx110_1
              replace hx110_2 := (HB.out.cell (World.block_lt_of_cell? w _ hx110_2)).trans hx110_2
              replace hx110_3 := (HB.out.cell (World.block_lt_of_cell? w _ hx110_3)).trans hx110_3
              replace hx110_4 := (HB.out.cell (World.block_lt_of_cell? w _ hx110_4)).trans hx110_4
              replace p110 := eq_true p110
              replace q110 := eq_true q110
              try go_wp2_with (first | ((with_reducible refine gate_dst (N := 12) rfl ?_); refine box_event ?hg (N := 12) ?hd (cs := #[.string (⟨#[]⟩ : ByteArray), .int .i64 0, .int .i64 0, .int .i64 0, .int .i64 0]) (t := 32) ?hr ?_; (case hd => rfl); (case hg => rfl); (case hr => first | (go_simp; done) | (go_simp; rfl)); intro gb111 hg w30 hbox hb; have n0_ := Aside0.mk (Kd.S_below (by (with_reducible repeat (first | apply Kd.S_alloc | apply Kd.S_drewN | apply Kd.S_drew)); exact HO_9.out) hb); have n1_ := Aside0.mk (below_step bel_ hb); have n2_ := Aside0.mk (hbox); have n3_ := Aside0.mk ((bsz_ hg : w.heap.size ≤ gb111)); have n4_ := Aside0.mk ((bsz_ hg : w.heap.size ≤ gb111)); clear HO_9; clear HB; have HO_9 := n0_; have HB := n1_; have BK111 := n2_; have GW111 := n3_; have GE111 := n4_; clear n0_ n1_ n2_ n3_ n4_; clear hb hbox hg; have hcz31_0 : w30.cell? ⟨gb111, 0, none⟩ = some (.string (⟨#[]⟩ : ByteArray)) := (blk_cell BK111.out 0).trans rfl; have hcz31_1 : w30.cell? ⟨gb111, 1, none⟩ = some (.int .i64 0) := (blk_cell BK111.out 1).trans rfl; have hcz31_2 : w30.cell? ⟨gb111, 2, none⟩ = some (.int .i64 0) := (blk_cell BK111.out 2).trans rfl; have hcz31_3 : w30.cell? ⟨gb111, 3, none⟩ = some (.int .i64 0) := (blk_cell BK111.out 3).trans rfl; have hcz31_4 : w30.cell? ⟨gb111, 4, none⟩ = some (.int .i64 0) := (blk_cell BK111.out 4).trans rfl; have hfz31_0 := blk_frozen BK111.out 0; have hfz31_1 := blk_frozen BK111.out 1; have hfz31_2 := blk_frozen BK111.out 2; have hfz31_3 := blk_frozen BK111.out 3; have hfz31_4 := blk_frozen BK111.out 4))
              have n0_ : Aside0 (Kd.S (Kd.slice 9 Kd.string) 28 (((((w30.setCell ⟨gb111, 0, none⟩ (.string ((rd_T32 l1 x50_3).f0))).setCell ⟨gb111, 1, none⟩ (.int .i64 ((rd_T32 l1 x50_3).f1))).setCell ⟨gb111, 2, none⟩ (.int .i64 ((rd_T32 l1 x50_3).f2))).setCell ⟨gb111, 3, none⟩ (.int .i64 ((rd_T32 l1 x50_3).f3))).setCell ⟨gb111, 4, none⟩ (.int .i64 ((rd_T32 l1 x50_3).f4))) w.heap.size (fun _ => True) (.slice Ao13 x9_3.length co13) x9_3) := ⟨by (with_reducible repeat (first | apply Kd.S_alloc | apply Kd.S_drewN | apply Kd.S_drew)); exact Kd.S_mono (Kd.S_far (p := ⟨gb111, 4, none⟩) (Kd.S_far (p := ⟨gb111, 3, none⟩) (Kd.S_far (p := ⟨gb111, 2, none⟩) (Kd.S_far (p := ⟨gb111, 1, none⟩) (Kd.S_far (p := ⟨gb111, 0, none⟩) (Kd.S_types HO_9.out BK111.out (by decide)) (fun _ hk => hk.2) (.string ((rd_T32 l1 x50_3).f0))) (fun _ hk => hk.2) (.int .i64 ((rd_T32 l1 x50_3).f1))) (fun _ hk => hk.2) (.int .i64 ((rd_T32 l1 x50_3).f2))) (fun _ hk => hk.2) (.int .i64 ((rd_T32 l1 x50_3).f3))) (fun _ hk => hk.2) (.int .i64 ((rd_T32 l1 x50_3).f4))) (fun _ hk => trivial)⟩
              have n1_ : Aside0 ((((((w30.setCell ⟨gb111, 0, none⟩ (.string ((rd_T32 l1 x50_3).f0))).setCell ⟨gb111, 1, none⟩ (.int .i64 ((rd_T32 l1 x50_3).f1))).setCell ⟨gb111, 2, none⟩ (.int .i64 ((rd_T32 l1 x50_3).f2))).setCell ⟨gb111, 3, none⟩ (.int .i64 ((rd_T32 l1 x50_3).f3))).setCell ⟨gb111, 4, none⟩ (.int .i64 ((rd_T32 l1 x50_3).f4))).heap[gb111]? = some (.cells #[.string ((rd_T32 l1 x50_3).f0), .int .i64 ((rd_T32 l1 x50_3).f1), .int .i64 ((rd_T32 l1 x50_3).f2), .int .i64 ((rd_T32 l1 x50_3).f3), .int .i64 ((rd_T32 l1 x50_3).f4)] 32 (0, 0))) := ⟨by (with_reducible repeat (first | refine blk_drewN ?_ _ | refine blk_drew ?_ | refine blk_alloc ?_ _)); refine blk_put (cs := #[.string ((rd_T32 l1 x50_3).f0), .int .i64 ((rd_T32 l1 x50_3).f1), .int .i64 ((rd_T32 l1 x50_3).f2), .int .i64 ((rd_T32 l1 x50_3).f3), .int .i64 0]) ?_ 4 _ rfl; (with_reducible repeat (first | refine blk_drewN ?_ _ | refine blk_drew ?_ | refine blk_alloc ?_ _)); refine blk_put (cs := #[.string ((rd_T32 l1 x50_3).f0), .int .i64 ((rd_T32 l1 x50_3).f1), .int .i64 ((rd_T32 l1 x50_3).f2), .int .i64 0, .int .i64 0]) ?_ 3 _ rfl; (with_reducible repeat (first | refine blk_drewN ?_ _ | refine blk_drew ?_ | refine blk_alloc ?_ _)); refine blk_put (cs := #[.string ((rd_T32 l1 x50_3).f0), .int .i64 ((rd_T32 l1 x50_3).f1), .int .i64 0, .int .i64 0, .int .i64 0]) ?_ 2 _ rfl; (with_reducible repeat (first | refine blk_drewN ?_ _ | refine blk_drew ?_ | refine blk_alloc ?_ _)); refine blk_put (cs := #[.string ((rd_T32 l1 x50_3).f0), .int .i64 0, .int .i64 0, .int .i64 0, .int .i64 0]) ?_ 1 _ rfl; (with_reducible repeat (first | refine blk_drewN ?_ _ | refine blk_drew ?_ | refine blk_alloc ?_ _)); refine blk_put (cs := #[.string (⟨#[]⟩ : ByteArray), .int .i64 0, .int .i64 0, .int .i64 0, .int .i64 0]) ?_ 0 _ rfl; (with_reducible repeat (first | refine blk_drewN ?_ _ | refine blk_drew ?_ | refine blk_alloc ?_ _)); exact BK111.out⟩
              have n2_ : Aside0 (Below w.heap.size w (((((w30.setCell ⟨gb111, 0, none⟩ (.string ((rd_T32 l1 x50_3).f0))).setCell ⟨gb111, 1, none⟩ (.int .i64 ((rd_T32 l1 x50_3).f1))).setCell ⟨gb111, 2, none⟩ (.int .i64 ((rd_T32 l1 x50_3).f2))).setCell ⟨gb111, 3, none⟩ (.int .i64 ((rd_T32 l1 x50_3).f3))).setCell ⟨gb111, 4, none⟩ (.int .i64 ((rd_T32 l1 x50_3).f4)))) := ⟨bel_⟩
              (try clear HO_9)
              (try clear BK111)
              (try clear HB)
              generalize (((((w30.setCell ⟨gb111, 0, none⟩ (.string ((rd_T32 l1 x50_3).f0))).setCell ⟨gb111, 1, none⟩ (.int .i64 ((rd_T32 l1 x50_3).f1))).setCell ⟨gb111, 2, none⟩ (.int .i64 ((rd_T32 l1 x50_3).f2))).setCell ⟨gb111, 3, none⟩ (.int .i64 ((rd_T32 l1 x50_3).f3))).setCell ⟨gb111, 4, none⟩ (.int .i64 ((rd_T32 l1 x50_3).f4))) = w32 at n0_ n1_ n2_ ⊢
              have HO_9 := n0_
              have BK111 := n1_
              have HB := n2_
              clear n0_ n1_ n2_
              have n0_ := Aside0.mk (Kd.S_drew HO_9.out)
              have n1_ := Aside0.mk (blk_drew BK111.out)
              have n2_ := Aside0.mk (below_drew1 HB.out)
              clear HO_9
              clear BK111
              clear HB
              have HO_9 := n0_
              have BK111 := n1_
              have HB := n2_
              clear n0_ n1_ n2_
              refine start_ (n := 6) (S := fun w' => w'.cell? ⟨gb111, 0, none⟩ = some (.string ((rd_T32 l1 x50_3).f0)) ∧ w'.cell? ⟨gb111, 1, none⟩ = some (.int .i64 ((rd_T32 l1 x50_3).f1)) ∧ w'.cell? ⟨gb111, 2, none⟩ = some (.int .i64 ((rd_T32 l1 x50_3).f2)) ∧ w'.cell? ⟨gb111, 3, none⟩ = some (.int .i64 ((rd_T32 l1 x50_3).f3)) ∧ w'.cell? ⟨gb111, 4, none⟩ = some (.int .i64 ((rd_T32 l1 x50_3).f4))) (ds := []) #[false, false, false, false, false, false] (by kernel_rfl) rfl rfl ⟨(blk_cell BK111.out 0).trans rfl, (blk_cell BK111.out 1).trans rfl, (blk_cell BK111.out 2).trans rfl, (blk_cell BK111.out 3).trans rfl, (blk_cell BK111.out 4).trans rfl⟩ (fun hHeld => ?_)
              generalize w32.drew = w33 at HO_9 BK111 HB hHeld ⊢
              refine pure_ (i := 0) (N := some 54) (v := ?_) (a' := ?_) #[true, false, false, false, false, false] rfl rfl (by kernel_rfl) (fun _ _ _ h => h) (Or.inl ⟨by rfl, ?_⟩) ?_ ?_
              rotate_left
              ·intro w'
               go_simp
               with_reducible rfl
              rotate_left
              ·simp only [Act.put, List.setIfInBounds_toArray, List.set_cons_zero, List.set_cons_succ, i64_w, i32_w]
               rfl
              refine pure_ (i := 2) (N := some 56) (v := ?_) (a' := ?_) #[true, false, true, false, false, false] rfl rfl (by kernel_rfl) (fun _ _ _ h => h) (Or.inl ⟨by rfl, ?_⟩) ?_ ?_
              rotate_left
              ·intro w'
               go_simp
               with_reducible rfl
              rotate_left
              ·simp only [Act.put, List.setIfInBounds_toArray, List.set_cons_zero, List.set_cons_succ, i64_w, i32_w]
               rfl
              refine take_ (i := 1) (N := some 55) (v := ?_) (a' := ?_) #[true, true, true, false, false, false] rfl rfl (by kernel_rfl) (fun _ _ _ h => h) (Or.inl ⟨by rfl, ?_⟩) hHeld ?_ ?_
              rotate_left
              ·rintro w' ⟨s0, s1, s2, s3, s4⟩
               go_simp
               with_reducible rfl
              rotate_left
              ·simp only [Act.put, List.setIfInBounds_toArray, List.set_cons_zero, List.set_cons_succ, i64_w, i32_w]
               rfl
              refine pure_ (i := 4) (N := some 13) (v := ?_) (a' := ?_) #[true, true, true, false, true, false] rfl rfl (by kernel_rfl) (fun _ _ _ h => h) (Or.inl ⟨by rfl, ?_⟩) ?_ ?_
              rotate_left
              ·intro w'
               go_simp
               with_reducible rfl
              rotate_left
              ·simp only [Act.put, List.setIfInBounds_toArray, List.set_cons_zero, List.set_cons_succ, i64_w, i32_w]
               rfl
              refine take_ (i := 3) (N := some 57) (v := ?_) (a' := ?_) #[true, true, true, true, true, false] rfl rfl (by kernel_rfl) (fun _ _ _ h => h) (Or.inl ⟨by rfl, ?_⟩) hHeld ?_ ?_
              rotate_left
              ·rintro w' ⟨s0, s1, s2, s3, s4⟩
               go_simp
               with_reducible rfl
              rotate_left
              ·simp only [Act.put, List.setIfInBounds_toArray, List.set_cons_zero, List.set_cons_succ, i64_w, i32_w]
               rfl
              refine pure_ (i := 5) (N := some 14) (v := ?_) (a' := ?_) #[true, true, true, true, true, true] rfl rfl (by kernel_rfl) (fun _ _ _ h => h) (Or.inl ⟨by rfl, ?_⟩) ?_ ?_
              rotate_left
              ·intro w'
               go_simp
               with_reducible rfl
              rotate_left
              ·simp only [Act.put, List.setIfInBounds_toArray, List.set_cons_zero, List.set_cons_succ, i64_w, i32_w]
               rfl
              refine done_ (by kernel_rfl) ?_
              go_upto_if 58 with (fail)
              go_cut [13, 14] (fun v13 v14 wc => ∃ (kq : Nat) (x13_28 : Int) (x14_28 : Int), v13 = .int .i64 x13_28 ∧ v14 = .int .i64 x14_28 ∧ Aside0 (names_Table.j3 kq a2 a3 x9_3 x13_28 x14_28 l1 (l1.length : Int) x50_3 ((rd_T32 l1 x50_3).f0) ((rd_T32 l1 x50_3).f1) ((rd_T32 l1 x50_3).f2) ((rd_T32 l1 x50_3).f3) ((rd_T32 l1 x50_3).f4) = some r) ∧ Aside0 (kq ≤ k3) ∧ Aside0 (Kd.S (Kd.slice 9 Kd.string) 28 wc w.heap.size (fun _ => True) (.slice Ao13 x9_3.length co13) x9_3) ∧ Aside0 (wc.heap[gb111]? = some (.cells #[.string ((rd_T32 l1 x50_3).f0), .int .i64 ((rd_T32 l1 x50_3).f1), .int .i64 ((rd_T32 l1 x50_3).f2), .int .i64 ((rd_T32 l1 x50_3).f3), .int .i64 ((rd_T32 l1 x50_3).f4)] 32 (0, 0))) ∧ Aside0 (Below w.heap.size w wc))
              case first =>
               have H := HC29.out
               clear HC29
               by_cases c34 : a2 = true
               ·subst c34
                rw [if_pos rfl] at H
                have H' := Aside0.mk H
                clear H
                try go_wp2
                have n0_ := Aside0.mk (Kd.S_drew HO_9.out)
                have n1_ := Aside0.mk (blk_drew BK111.out)
                have n2_ := Aside0.mk (below_drew1 HB.out)
                clear HO_9
                clear BK111
                clear HB
                have HO_9 := n0_
                have BK111 := n1_
                have HB := n2_
                clear n0_ n1_ n2_
                refine start_ (n := 6) (S := fun w' => w'.cell? ⟨gb111, 0, none⟩ = some (.string ((rd_T32 l1 x50_3).f0)) ∧ w'.cell? ⟨gb111, 1, none⟩ = some (.int .i64 ((rd_T32 l1 x50_3).f1)) ∧ w'.cell? ⟨gb111, 2, none⟩ = some (.int .i64 ((rd_T32 l1 x50_3).f2)) ∧ w'.cell? ⟨gb111, 3, none⟩ = some (.int .i64 ((rd_T32 l1 x50_3).f3)) ∧ w'.cell? ⟨gb111, 4, none⟩ = some (.int .i64 ((rd_T32 l1 x50_3).f4))) (ds := []) #[false, false, false, false, false, false] (by kernel_rfl) rfl rfl ⟨(blk_cell BK111.out 0).trans rfl, (blk_cell BK111.out 1).trans rfl, (blk_cell BK111.out 2).trans rfl, (blk_cell BK111.out 3).trans rfl, (blk_cell BK111.out 4).trans rfl⟩ (fun hHeld => ?_)
                generalize w33.drew = w35 at HO_9 BK111 HB hHeld ⊢
                refine pure_ (i := 0) (N := some 59) (v := ?_) (a' := ?_) #[true, false, false, false, false, false] rfl rfl (by kernel_rfl) (fun _ _ _ h => h) (Or.inl ⟨by rfl, ?_⟩) ?_ ?_
                rotate_left
                ·intro w'
                 go_simp
                 with_reducible rfl
                rotate_left
                ·simp only [Act.put, List.setIfInBounds_toArray, List.set_cons_zero, List.set_cons_succ, i64_w, i32_w]
                 rfl
                refine pure_ (i := 2) (N := some 61) (v := ?_) (a' := ?_) #[true, false, true, false, false, false] rfl rfl (by kernel_rfl) (fun _ _ _ h => h) (Or.inl ⟨by rfl, ?_⟩) ?_ ?_
                rotate_left
                ·intro w'
                 go_simp
                 with_reducible rfl
                rotate_left
                ·simp only [Act.put, List.setIfInBounds_toArray, List.set_cons_zero, List.set_cons_succ, i64_w, i32_w]
                 rfl
                refine take_ (i := 1) (N := some 60) (v := ?_) (a' := ?_) #[true, true, true, false, false, false] rfl rfl (by kernel_rfl) (fun _ _ _ h => h) (Or.inl ⟨by rfl, ?_⟩) hHeld ?_ ?_
                rotate_left
                ·rintro w' ⟨s0, s1, s2, s3, s4⟩
                 go_simp
                 with_reducible rfl
                rotate_left
                ·simp only [Act.put, List.setIfInBounds_toArray, List.set_cons_zero, List.set_cons_succ, i64_w, i32_w]
                 rfl
                refine pure_ (i := 4) (N := some 13) (v := ?_) (a' := ?_) #[true, true, true, false, true, false] rfl rfl (by kernel_rfl) (fun _ _ _ h => h) (Or.inl ⟨by rfl, ?_⟩) ?_ ?_
                rotate_left
                ·intro w'
                 go_simp
                 with_reducible rfl
                rotate_left
                ·simp only [Act.put, List.setIfInBounds_toArray, List.set_cons_zero, List.set_cons_succ, i64_w, i32_w]
                 rfl
                refine take_ (i := 3) (N := some 62) (v := ?_) (a' := ?_) #[true, true, true, true, true, false] rfl rfl (by kernel_rfl) (fun _ _ _ h => h) (Or.inl ⟨by rfl, ?_⟩) hHeld ?_ ?_
                rotate_left
                ·rintro w' ⟨s0, s1, s2, s3, s4⟩
                 go_simp
                 with_reducible rfl
                rotate_left
                ·simp only [Act.put, List.setIfInBounds_toArray, List.set_cons_zero, List.set_cons_succ, i64_w, i32_w]
                 rfl
                refine pure_ (i := 5) (N := some 14) (v := ?_) (a' := ?_) #[true, true, true, true, true, true] rfl rfl (by kernel_rfl) (fun _ _ _ h => h) (Or.inl ⟨by rfl, ?_⟩) ?_ ?_
                rotate_left
                ·intro w'
                 go_simp
                 with_reducible rfl
                rotate_left
                ·simp only [Act.put, List.setIfInBounds_toArray, List.set_cons_zero, List.set_cons_succ, i64_w, i32_w]
                 rfl
                refine done_ (by kernel_rfl) ?_
                try go_wp2
                go_meet
                case rel => exact ⟨_, ((rd_T32 l1 x50_3).f1), ((rd_T32 l1 x50_3).f3), rfs_, rfs_, H', ⟨by have := HJ4.out; have := HK2.out; have := HK3.out; first | omega | exact Nat.le_refl _⟩, ⟨by (try simp only [hl9_2]); (try simp only [hl9_3]); (with_reducible repeat (first | apply Kd.S_alloc | apply Kd.S_drewN | apply Kd.S_drew)); exact HO_9.out⟩, ⟨by (try simp only [hl9_2]); (try simp only [hl9_3]); (with_reducible repeat (first | refine blk_drewN ?_ _ | refine blk_drew ?_ | refine blk_alloc ?_ _)); exact BK111.out⟩, ⟨bel_⟩⟩
               ·replace c34 := Bool.eq_false_iff.mpr c34
                subst c34
                rw [if_neg (show ¬ (false = true) by decide)] at H
                have H' := Aside0.mk H
                clear H
                go_wp2
                go_meet
                case rel => exact ⟨_, ((rd_T32 l1 x50_3).f2), ((rd_T32 l1 x50_3).f4), rfs_, rfs_, H', ⟨by have := HJ4.out; have := HK2.out; have := HK3.out; first | omega | exact Nat.le_refl _⟩, ⟨by (try simp only [hl9_2]); (try simp only [hl9_3]); (with_reducible repeat (first | apply Kd.S_alloc | apply Kd.S_drewN | apply Kd.S_drew)); exact HO_9.out⟩, ⟨by (try simp only [hl9_2]); (try simp only [hl9_3]); (with_reducible repeat (first | refine blk_drewN ?_ _ | refine blk_drew ?_ | refine blk_alloc ?_ _)); exact BK111.out⟩, ⟨bel_⟩⟩
              case rest =>
               clear HC29
               try clear c1
               try clear p1
               try clear q1
               try clear hx1
               try clear c2
               try clear p2
               try clear hx2
               try clear c3
               try clear c6
               try clear c6b0
               try clear p6
               try clear c7
               try clear c9
               try clear c9b0
               try clear c9b1
               try clear c10
               try clear c10b0
               try clear c10b1
               try clear p10
               try clear q10
               try clear hx10
               try clear p11
               try clear q11
               try clear hx11
               try clear c14
               try clear c14b0
               try clear c15
               try clear c15b0
               try clear c16
               try clear c16b0
               try clear c17
               try clear c17b0
               try clear c18
               try clear p19
               try clear q19
               try clear c21
               try clear c23
               try clear hx23
               try clear hf23
               try clear c26
               try clear c26b0
               try clear c27
               try clear c27b0
               try clear c28
               try clear c28b0
               try clear c34
               try clear hcz31_0
               try clear hcz31_1
               try clear hcz31_2
               try clear hcz31_3
               try clear hcz31_4
               try clear hfz31_0
               try clear hfz31_1
               try clear hfz31_2
               try clear hfz31_3
               try clear hfz31_4
               try clear hx104_0
               try clear hx105_0
               try clear hx110_0
               try clear hx110_1
               try clear hx110_2
               try clear hx110_3
               try clear hx110_4
               try clear hx23_0
               try clear p1
               try clear p10
               try clear p104
               try clear p105
               try clear p110
               try clear p19
               try clear p2
               try clear p6
               try clear q1
               try clear q10
               try clear q104
               try clear q105
               try clear q110
               try clear q19
               obtain ⟨kq, x13_28, x14_28, rfl, rfl, HA, HJ28, HO_9, BK111, HB⟩ := hcut
               cases kq with
               | zero => exact absurd HA.out (by simp [names_Table.j3])
               | succ kj28 =>
                have H := HA.out
                clear HA
                simp only [names_Table.j3] at H
                by_cases c36 : ((rd_T32 l1 x50_3).f0).size + 6 ≤ 9223372036854775807
                ·rw [if_pos c36] at H
                 have c36b0 := eq_true c36
                 have c36b1 : decide (((rd_T32 l1 x50_3).f0).size + 6 ≤ 9223372036854775807) = true := decide_eq_true c36
                 try have c36b2 : (9223372036854775807 < ((rd_T32 l1 x50_3).f0).size + 6) = False := eq_false (Nat.not_lt.2 c36)
                 by_cases c37 : ((rd_T32 l1 x50_3).f0).size + 4 ≤ 9223372036854775807
                 ·rw [if_pos c37] at H
                  have c37b0 := eq_true c37
                  have c37b1 : decide (((rd_T32 l1 x50_3).f0).size + 4 ≤ 9223372036854775807) = true := decide_eq_true c37
                  try have c37b2 : (9223372036854775807 < ((rd_T32 l1 x50_3).f0).size + 4) = False := eq_false (Nat.not_lt.2 c37)
                  have HC38 := Aside0.mk H
                  clear H
                  have hcz39_0 : wc.cell? ⟨gb111, 0, none⟩ = some (.string ((rd_T32 l1 x50_3).f0)) := (blk_cell BK111.out 0).trans rfl
                  have hcz39_1 : wc.cell? ⟨gb111, 1, none⟩ = some (.int .i64 ((rd_T32 l1 x50_3).f1)) := (blk_cell BK111.out 1).trans rfl
                  have hcz39_2 : wc.cell? ⟨gb111, 2, none⟩ = some (.int .i64 ((rd_T32 l1 x50_3).f2)) := (blk_cell BK111.out 2).trans rfl
                  have hcz39_3 : wc.cell? ⟨gb111, 3, none⟩ = some (.int .i64 ((rd_T32 l1 x50_3).f3)) := (blk_cell BK111.out 3).trans rfl
                  have hcz39_4 : wc.cell? ⟨gb111, 4, none⟩ = some (.int .i64 ((rd_T32 l1 x50_3).f4)) := (blk_cell BK111.out 4).trans rfl
                  have hfz39_0 := blk_frozen BK111.out 0
                  have hfz39_1 := blk_frozen BK111.out 1
                  have hfz39_2 := blk_frozen BK111.out 2
                  have hfz39_3 := blk_frozen BK111.out 3
                  have hfz39_4 := blk_frozen BK111.out 4
                  go_upto_region 17 with (first | ((with_reducible refine gate_dst (N := 15) rfl ?_); refine box_event ?hg (N := 15) ?hd (cs := #[.string (⟨#[]⟩ : ByteArray), .string (⟨#[]⟩ : ByteArray)]) (t := 43) ?hr ?_; (case hd => rfl); (case hg => rfl); (case hr => first | (go_simp; done) | (go_simp; rfl)); intro gb112 hg w40 hbox hb; have n0_ := Aside0.mk (Kd.S_below (by (with_reducible repeat (first | apply Kd.S_alloc | apply Kd.S_drewN | apply Kd.S_drew)); exact HO_9.out) hb); have n1_ := blb_ BK111 hb; have n2_ := Aside0.mk (below_step bel_ hb); have n3_ := Aside0.mk (hbox); have n4_ := Aside0.mk ((bsz_ hg : w.heap.size ≤ gb112)); have n5_ := Aside0.mk ((bsz_ hg : w.heap.size ≤ gb112)); have n6_ := Aside0.mk (bne_ BK111 hg : gb111 ≠ gb112); have n7_ := Aside0.mk (bng_ BK111 hg : gb112 ≠ gb111); clear HO_9; clear BK111; clear HB; have HO_9 := n0_; have BK111 := n1_; have HB := n2_; have BK112 := n3_; have GW112 := n4_; have GE112 := n5_; have NB111_112 := n6_; have NB112_111 := n7_; clear n0_ n1_ n2_ n3_ n4_ n5_ n6_ n7_; clear hb hbox hg; have hnb41 := NB112_111.out; have hnc41 := NB111_112.out; have hcz42_0 : w40.cell? ⟨gb112, 0, none⟩ = some (.string (⟨#[]⟩ : ByteArray)) := (blk_cell BK112.out 0).trans rfl; have hcz42_1 : w40.cell? ⟨gb112, 1, none⟩ = some (.string (⟨#[]⟩ : ByteArray)) := (blk_cell BK112.out 1).trans rfl; have hfz42_0 := blk_frozen BK112.out 0; have hfz42_1 := blk_frozen BK112.out 1))
                  (try simp only [Act.put, List.setIfInBounds_toArray, List.set_cons_zero, List.set_cons_succ])
                  go_cut [76] (fun v76 wc => ∃ (kq : Nat) (x76_37 : Bool), v76 = .bool x76_37 ∧ Aside0 (names_Table.j4 kq a2 a3 x9_3 x13_28 x14_28 l1 (l1.length : Int) x50_3 x76_37 (((rd_T32 l1 x50_3).f0) ++ (⟨#[45, 115, 116, 97, 114, 116]⟩ : ByteArray)) (((rd_T32 l1 x50_3).f0) ++ (⟨#[45, 101, 110, 100]⟩ : ByteArray)) = some r) ∧ Aside0 (kq ≤ kj28) ∧ Aside0 (Kd.S (Kd.slice 9 Kd.string) 28 wc w.heap.size (fun _ => True) (.slice Ao13 x9_3.length co13) x9_3) ∧ Aside0 (wc.heap[gb111]? = some (.cells #[.string ((rd_T32 l1 x50_3).f0), .int .i64 ((rd_T32 l1 x50_3).f1), .int .i64 ((rd_T32 l1 x50_3).f2), .int .i64 ((rd_T32 l1 x50_3).f3), .int .i64 ((rd_T32 l1 x50_3).f4)] 32 (0, 0))) ∧ Aside0 (wc.heap[gb112]? = some (.cells #[.string (((rd_T32 l1 x50_3).f0) ++ (⟨#[45, 115, 116, 97, 114, 116]⟩ : ByteArray)), .string (((rd_T32 l1 x50_3).f0) ++ (⟨#[45, 101, 110, 100]⟩ : ByteArray))] 43 (0, 0))) ∧ Aside0 (Below w.heap.size w wc))
                  case first =>
                   have H := HC38.out
                   clear HC38
                   by_cases c43 : x13_28 ≥ 0
                   ·rw [if_pos c43] at H
                    have c43b0 : decide (0 ≤ x13_28) = true := decide_eq_true c43
                    clear c43
                    (first | rw [c43b0] | (simp only [i64_w, i32_w]; rw [c43b0]) | skip)
                    have H' := Aside0.mk H
                    clear H
                    go_wp2
                    go_meet
                    case rel => exact ⟨_, (decide (x13_28 ≤ a3)), rfs_, H', ⟨by have := HJ4.out; have := HK2.out; have := HK3.out; have := HJ28.out; first | omega | exact Nat.le_refl _⟩, ⟨by (try simp only [hl9_2]); (try simp only [hl9_3]); (with_reducible repeat (first | apply Kd.S_alloc | apply Kd.S_drewN | apply Kd.S_drew)); exact Kd.S_mono (Kd.S_far (p := ⟨gb112, 1, none⟩) (Kd.S_far (p := ⟨gb112, 0, none⟩) (Kd.S_types HO_9.out BK112.out (by decide)) (fun _ hk => hk.2) (.string (((rd_T32 l1 x50_3).f0) ++ (⟨#[45, 115, 116, 97, 114, 116]⟩ : ByteArray)))) (fun _ hk => hk.2) (.string (((rd_T32 l1 x50_3).f0) ++ (⟨#[45, 101, 110, 100]⟩ : ByteArray)))) (fun _ hk => trivial)⟩, ⟨by (try simp only [hl9_2]); (try simp only [hl9_3]); (with_reducible repeat (first | refine blk_drewN ?_ _ | refine blk_drew ?_ | refine blk_alloc ?_ _)); refine blk_far ?_ NB111_112.out _; (with_reducible repeat (first | refine blk_drewN ?_ _ | refine blk_drew ?_ | refine blk_alloc ?_ _)); refine blk_far ?_ NB111_112.out _; (with_reducible repeat (first | refine blk_drewN ?_ _ | refine blk_drew ?_ | refine blk_alloc ?_ _)); exact BK111.out⟩, ⟨by (try simp only [hl9_2]); (try simp only [hl9_3]); (with_reducible repeat (first | refine blk_drewN ?_ _ | refine blk_drew ?_ | refine blk_alloc ?_ _)); refine blk_put (cs := #[.string (((rd_T32 l1 x50_3).f0) ++ (⟨#[45, 115, 116, 97, 114, 116]⟩ : ByteArray)), .string (⟨#[]⟩ : ByteArray)]) ?_ 1 _ rfl; (with_reducible repeat (first | refine blk_drewN ?_ _ | refine blk_drew ?_ | refine blk_alloc ?_ _)); refine blk_put (cs := #[.string (⟨#[]⟩ : ByteArray), .string (⟨#[]⟩ : ByteArray)]) ?_ 0 _ rfl; (with_reducible repeat (first | refine blk_drewN ?_ _ | refine blk_drew ?_ | refine blk_alloc ?_ _)); exact BK112.out⟩, ⟨bel_⟩⟩
                   ·rw [if_neg c43] at H
                    have c43b0 : decide (0 ≤ x13_28) = false := decide_eq_false c43
                    clear c43
                    (first | rw [c43b0] | (simp only [i64_w, i32_w]; rw [c43b0]) | skip)
                    have H' := Aside0.mk H
                    clear H
                    go_wp2
                    go_meet
                    case rel => exact ⟨_, (false), rfs_, H', ⟨by have := HJ4.out; have := HK2.out; have := HK3.out; have := HJ28.out; first | omega | exact Nat.le_refl _⟩, ⟨by (try simp only [hl9_2]); (try simp only [hl9_3]); (with_reducible repeat (first | apply Kd.S_alloc | apply Kd.S_drewN | apply Kd.S_drew)); exact Kd.S_mono (Kd.S_far (p := ⟨gb112, 1, none⟩) (Kd.S_far (p := ⟨gb112, 0, none⟩) (Kd.S_types HO_9.out BK112.out (by decide)) (fun _ hk => hk.2) (.string (((rd_T32 l1 x50_3).f0) ++ (⟨#[45, 115, 116, 97, 114, 116]⟩ : ByteArray)))) (fun _ hk => hk.2) (.string (((rd_T32 l1 x50_3).f0) ++ (⟨#[45, 101, 110, 100]⟩ : ByteArray)))) (fun _ hk => trivial)⟩, ⟨by (try simp only [hl9_2]); (try simp only [hl9_3]); (with_reducible repeat (first | refine blk_drewN ?_ _ | refine blk_drew ?_ | refine blk_alloc ?_ _)); refine blk_far ?_ NB111_112.out _; (with_reducible repeat (first | refine blk_drewN ?_ _ | refine blk_drew ?_ | refine blk_alloc ?_ _)); refine blk_far ?_ NB111_112.out _; (with_reducible repeat (first | refine blk_drewN ?_ _ | refine blk_drew ?_ | refine blk_alloc ?_ _)); exact BK111.out⟩, ⟨by (try simp only [hl9_2]); (try simp only [hl9_3]); (with_reducible repeat (first | refine blk_drewN ?_ _ | refine blk_drew ?_ | refine blk_alloc ?_ _)); refine blk_put (cs := #[.string (((rd_T32 l1 x50_3).f0) ++ (⟨#[45, 115, 116, 97, 114, 116]⟩ : ByteArray)), .string (⟨#[]⟩ : ByteArray)]) ?_ 1 _ rfl; (with_reducible repeat (first | refine blk_drewN ?_ _ | refine blk_drew ?_ | refine blk_alloc ?_ _)); refine blk_put (cs := #[.string (⟨#[]⟩ : ByteArray), .string (⟨#[]⟩ : ByteArray)]) ?_ 0 _ rfl; (with_reducible repeat (first | refine blk_drewN ?_ _ | refine blk_drew ?_ | refine blk_alloc ?_ _)); exact BK112.out⟩, ⟨bel_⟩⟩
                  case rest =>
                   clear HC38
                   try clear c1
                   try clear p1
                   try clear q1
                   try clear hx1
                   try clear c2
                   try clear p2
                   try clear hx2
                   try clear c3
                   try clear c4
                   try clear c6
                   try clear c6b0
                   try clear p6
                   try clear c7
                   try clear c9
                   try clear c9b0
                   try clear c9b1
                   try clear c10
                   try clear c10b0
                   try clear c10b1
                   try clear p10
                   try clear q10
                   try clear hx10
                   try clear p11
                   try clear q11
                   try clear hx11
                   try clear c14
                   try clear c14b0
                   try clear c15
                   try clear c15b0
                   try clear c16
                   try clear c16b0
                   try clear c17
                   try clear c17b0
                   try clear c18
                   try clear p19
                   try clear q19
                   try clear c21
                   try clear c23
                   try clear hx23
                   try clear hf23
                   try clear c26
                   try clear c26b0
                   try clear c27
                   try clear c27b0
                   try clear c28
                   try clear c28b0
                   try clear c34
                   try clear c36
                   try clear c36b0
                   try clear c36b1
                   try clear c36b2
                   try clear c37
                   try clear c37b0
                   try clear c37b1
                   try clear c37b2
                   try clear c41
                   try clear c43
                   try clear c43b0
                   try clear hcz31_0
                   try clear hcz31_1
                   try clear hcz31_2
                   try clear hcz31_3
                   try clear hcz31_4
                   try clear hcz39_0
                   try clear hcz39_1
                   try clear hcz39_2
                   try clear hcz39_3
                   try clear hcz39_4
                   try clear hcz42_0
                   try clear hcz42_1
                   try clear hfz31_0
                   try clear hfz31_1
                   try clear hfz31_2
                   try clear hfz31_3
                   try clear hfz31_4
                   try clear hfz39_0
                   try clear hfz39_1
                   try clear hfz39_2
                   try clear hfz39_3
                   try clear hfz39_4
                   try clear hfz42_0
                   try clear hfz42_1
                   try clear hx104_0
                   try clear hx105_0
                   try clear hx110_0
                   try clear hx110_1
                   try clear hx110_2
                   try clear hx110_3
                   try clear hx110_4
                   try clear hx23_0
                   try clear p1
                   try clear p10
                   try clear p104
                   try clear p105
                   try clear p11
                   try clear p110
                   try clear p19
                   try clear p2
                   try clear p6
                   try clear q1
                   try clear q10
                   try clear q104
                   try clear q105
                   try clear q11
                   try clear q110
                   try clear q19
                   obtain ⟨kq, x76_37, rfl, HA, HJ37, HO_9, BK111, BK112, HB⟩ := hcut
                   cases kq with
                   | zero => exact absurd HA.out (by simp [names_Table.j4])
                   | succ kj37 =>
                    have H := HA.out
                    clear HA
                    simp only [names_Table.j4] at H
                    have HC44 := Aside0.mk H
                    clear H
                    go_upto_if 76 with (fail)
                    go_cut [] (fun wc => ∃ (kq : Nat) (x9_43 : List (List ByteArray)), Aside0 (names_Table.j5 kq a2 a3 x9_43 x13_28 x14_28 l1 (l1.length : Int) x50_3 (((rd_T32 l1 x50_3).f0) ++ (⟨#[45, 115, 116, 97, 114, 116]⟩ : ByteArray)) (((rd_T32 l1 x50_3).f0) ++ (⟨#[45, 101, 110, 100]⟩ : ByteArray)) = some r) ∧ Aside0 (kq ≤ kj37) ∧ Aside0 (Kd.S (Kd.slice 9 Kd.string) 28 wc w.heap.size (fun _ => True) (.slice Ao13 x9_3.length co13) x9_43) ∧ Aside0 (wc.heap[gb111]? = some (.cells #[.string ((rd_T32 l1 x50_3).f0), .int .i64 ((rd_T32 l1 x50_3).f1), .int .i64 ((rd_T32 l1 x50_3).f2), .int .i64 ((rd_T32 l1 x50_3).f3), .int .i64 ((rd_T32 l1 x50_3).f4)] 32 (0, 0))) ∧ Aside0 (wc.heap[gb112]? = some (.cells #[.string (((rd_T32 l1 x50_3).f0) ++ (⟨#[45, 115, 116, 97, 114, 116]⟩ : ByteArray)), .string (((rd_T32 l1 x50_3).f0) ++ (⟨#[45, 101, 110, 100]⟩ : ByteArray))] 43 (0, 0))) ∧ Aside0 (Below w.heap.size w wc))
                    case first =>
                     have H := HC44.out
                     clear HC44
                     by_cases c45 : x76_37 = true
                     ·subst c45
                      rw [if_pos rfl] at H
                      by_cases c46 : 0 ≤ x13_28
                      ·rw [if_pos c46] at H
                       have c46b0 : decide (0 ≤ x13_28) = true := decide_eq_true c46
                       clear c46
                       (first | rw [c46b0] | (simp only [i64_w, i32_w]; rw [c46b0]) | skip)
                       by_cases c47 : x13_28 < (x9_3.length : Int)
                       ·rw [if_pos c47] at H
                        have c47b0 : decide (x13_28 < (x9_3.length : Int)) = true := decide_eq_true c47
                        have c47b9 := c47b0
                        try rw [hl9_3] at c47b9
                        clear c47
                        by_cases c48 : (rd_L1 x9_3 x13_28).length < 8796093022208
                        ·rw [if_pos c48] at H
                         have LMc48 := Aside0.mk c48
                         clear c48
                         obtain ⟨y114, hy114⟩ : ∃ y_ : List ByteArray, y_ = ((rd_L1 x9_3 x13_28) ++ [(((rd_T32 l1 x50_3).f0) ++ (⟨#[45, 115, 116, 97, 114, 116]⟩ : ByteArray))]) := ⟨_, rfl⟩
                         replace H : (names_Table.j5 kj37 a2 a3 (x9_3.set (x13_28 : Int).toNat y114) x13_28 x14_28 l1 (l1.length : Int) x50_3 (((rd_T32 l1 x50_3).f0) ++ (⟨#[45, 115, 116, 97, 114, 116]⟩ : ByteArray)) (((rd_T32 l1 x50_3).f0) ++ (⟨#[45, 101, 110, 100]⟩ : ByteArray))) = some r := by first | (rw [hy114]; with_reducible exact H) | (have H2_ := (Option.bind_some _ _).symm.trans H; rw [hy114]; with_reducible exact H2_) | (have H2_ := (Option.bind_some _ _).symm.trans H; with_reducible exact H2_) | with_reducible exact H | (rw [hy114]; exact H) | exact H
                         have Ny114 := Aside0.mk hy114
                         clear hy114
                         obtain ⟨y117, hy117⟩ : ∃ y_ : List (List ByteArray), y_ = (x9_3.set (x13_28 : Int).toNat y114) := ⟨_, rfl⟩
                         replace H : (names_Table.j5 kj37 a2 a3 y117 x13_28 x14_28 l1 (l1.length : Int) x50_3 (((rd_T32 l1 x50_3).f0) ++ (⟨#[45, 115, 116, 97, 114, 116]⟩ : ByteArray)) (((rd_T32 l1 x50_3).f0) ++ (⟨#[45, 101, 110, 100]⟩ : ByteArray))) = some r := by first | (rw [hy117]; with_reducible exact H) | (have H2_ := (Option.bind_some _ _).symm.trans H; rw [hy117]; with_reducible exact H2_) | (have H2_ := (Option.bind_some _ _).symm.trans H; with_reducible exact H2_) | with_reducible exact H | (rw [hy117]; exact H) | exact H
                         have Ny117 := Aside0.mk hy117
                         clear hy117
                         have H' := Aside0.mk H
                         clear H
                         try go_wp2
                         have n0_ := Aside0.mk (Kd.S_drew HO_9.out)
                         have n1_ := Aside0.mk (blk_drew BK111.out)
                         have n2_ := Aside0.mk (blk_drew BK112.out)
                         have n3_ := Aside0.mk (below_drew1 HB.out)
                         clear HO_9
                         clear BK111
                         clear BK112
                         clear HB
                         have HO_9 := n0_
                         have BK111 := n1_
                         have BK112 := n2_
                         have HB := n3_
                         clear n0_ n1_ n2_ n3_
                         have p113 : 0 ≤ (x13_28 : Int) := of_decide_eq_true (by first | (with_reducible assumption) | assumption)
                         have q113 : x13_28 < (x9_3.length : Int) := of_decide_eq_true (by first | (with_reducible assumption) | assumption)
                         obtain ⟨ad113, A113_0, c113_0, e113, hx113_0, hl113_0, hi113_0⟩ := at_L1 (Kd.S_reads' HO_9.out).2.2 x13_28 p113 q113
                         cases e113
                         obtain ⟨ce113, hce113, hMe113, hcc113⟩ := Kd.S_get HO_9.out [] x13_28 p113 (by first | exact q113 | exact of_decide_eq_true (by first | (with_reducible assumption) | assumption) | (have e_ := (Kd.S_reads' HO_9.out).1; omega))
                         obtain ⟨ve113_0, rfl, ge113_0⟩ := hMe113
                         have hv113_0 := hcc113 0 _ rfl
                         rw [Nat.add_zero, show ((Kd.slice 9 Kd.string)).sz = 1 from rfl, Nat.mul_one] at hv113_0
                         replace hv113_0 := Option.some.inj (hv113_0.symm.trans hx113_0)
                         rw [hv113_0] at ge113_0
                         have HL113_0 := Aside0.mk (show Kd.R Kd.string 9 _ _ _ _ (rd_L1 x9_3 x13_28) from ge113_0)
                         clear hv113_0 ge113_0
                         have HX113_0 := Aside0.mk hx113_0
                         clear hcc113 hce113
                         have HR113_0 := Aside0.mk hi113_0
                         have HC113_0 := Aside0.mk hl113_0
                         clear hi113_0 hl113_0
                         replace p113 := eq_true p113
                         replace q113 := eq_true q113
                         obtain ⟨go51, co51, eo51, gb51, gl51, cl51, HG51⟩ := Kd.S_form HO_9.out (by have h_ : (x13_28 : Int) < ((x9_3.length : Int) : Int) := of_decide_eq_true (by first | (with_reducible assumption) | assumption); have h2_ : 0 ≤ (x13_28 : Int) := (of_decide_eq_true (by first | (with_reducible assumption) | assumption)); omega)
                         (first | cases eo51 | (injection eo51 with ea_ en_ ec_; (first | subst ea_ | (injection ea_ with ea_; subst ea_)); subst ec_; clear en_))
                         have GB51 := Aside0.mk gb51
                         have GG51 := Aside0.mk HG51
                         clear gb51 gl51 HG51
                         (first | simp only [add_plain] at hx113_0 | skip)
                         obtain ⟨oki51, ce51, hcl51, hM51, hcc51, _, _, hH51⟩ := Kd.S_elem HO_9.out [] (x13_28 : Int) (of_decide_eq_true (by first | (with_reducible assumption) | assumption)) (by have h_ : (x13_28 : Int) < ((x9_3.length : Int) : Int) := of_decide_eq_true (by first | (with_reducible assumption) | assumption); first | exact h_ | (have e_ := (Kd.S_reads' HO_9.out).1; omega) | simpa using h_)
                         obtain ⟨ve51_0, rfl, ge51_0⟩ := hM51
                         have hv51 := hcc51 0 _ rfl
                         have hX51 := HX113_0.out
                         (try simp only [add_plain] at hX51)
                         (try simp only [Nat.add_zero] at hv51)
                         (try rw [show ((Kd.slice 9 Kd.string)).sz = 1 from rfl, Nat.mul_one] at hv51)
                         replace hv51 := Option.some.inj (hv51.symm.trans hX51)
                         subst hv51
                         clear hX51 hcc51 hcl51
                         have UU51 := Aside0.mk (show Kd.R Kd.string 9 _ w.heap.size oki51 (.slice A113_0 (rd_L1 x9_3 x13_28).length c113_0) (rd_L1 x9_3 x13_28) from ge51_0)
                         have HH51 := Aside0.mk hH51
                         have HN51 := Aside0.mk (Kd.S_reads' HO_9.out).1
                         clear hH51 ge51_0
                         refine start_ (n := 12) (S := fun w' => w'.cell? ⟨gb112, 0, none⟩ = some (.string (((rd_T32 l1 x50_3).f0) ++ (⟨#[45, 115, 116, 97, 114, 116]⟩ : ByteArray))) ∧ w'.cell? ⟨gb112, 1, none⟩ = some (.string (((rd_T32 l1 x50_3).f0) ++ (⟨#[45, 101, 110, 100]⟩ : ByteArray))) ∧ w'.cell? ⟨go51, (x13_28).toNat, none⟩ = some (.slice A113_0 (rd_L1 x9_3 x13_28).length c113_0)) (ds := [11]) #[false, false, false, false, false, false, false, false, false, false, false, false] (by kernel_rfl) rfl rfl ⟨(blk_cell BK112.out 0).trans rfl, (blk_cell BK112.out 1).trans rfl, hx113_0⟩ (fun hHeld => ?_); refine with_tabW names_Table.tab18 names_Table.bits18 (fun HT_ HW_ => ?_)
                         generalize wc.drew = w50 at HO_9 BK111 BK112 HB GG51 HH51 HL113_0 HR113_0 HX113_0 UU51 hx113_0 hHeld ⊢
                         refine pure_ (i := 0) (N := some 77) (v := ?_) (a' := ?_) #[true, false, false, false, false, false, false, false, false, false, false, false] rfl rfl (any_of HT_.out (by kernel_rfl)) (fun _ _ _ h => h) (Or.inl ⟨by rfl, ?_⟩) ?_ ?_
                         rotate_left
                         ·intro w'
                          go_simp
                          with_reducible rfl
                         rotate_left
                         ·simp only [Act.put, List.setIfInBounds_toArray, List.set_cons_zero, List.set_cons_succ, i64_w, i32_w]
                          rfl
                         refine pure_ (i := 1) (N := some 78) (v := ?_) (a' := ?_) #[true, true, false, false, false, false, false, false, false, false, false, false] rfl rfl (any_of HT_.out (by kernel_rfl)) (fun _ _ _ h => h) (Or.inl ⟨by rfl, ?_⟩) ?_ ?_
                         rotate_left
                         ·intro w'
                          go_simp
                          with_reducible rfl
                         rotate_left
                         ·simp only [Act.put, List.setIfInBounds_toArray, List.set_cons_zero, List.set_cons_succ, i64_w, i32_w]
                          rfl
                         refine pure_ (i := 2) (N := some 79) (v := ?_) (a' := ?_) #[true, true, true, false, false, false, false, false, false, false, false, false] rfl rfl (any_of HT_.out (by kernel_rfl)) (fun _ _ _ h => h) (Or.inl ⟨by rfl, ?_⟩) ?_ ?_
                         rotate_left
                         ·intro w'
                          go_simp
                          with_reducible rfl
                         rotate_left
                         ·simp only [Act.put, List.setIfInBounds_toArray, List.set_cons_zero, List.set_cons_succ, i64_w, i32_w]
                          rfl
                         refine pure_ (i := 3) (N := some 80) (v := ?_) (a' := ?_) #[true, true, true, true, false, false, false, false, false, false, false, false] rfl rfl (any_of HT_.out (by kernel_rfl)) (fun _ _ _ h => h) (Or.inl ⟨by rfl, ?_⟩) ?_ ?_
                         rotate_left
                         ·intro w'
                          go_simp
                          with_reducible rfl
                         rotate_left
                         ·simp only [Act.put, List.setIfInBounds_toArray, List.set_cons_zero, List.set_cons_succ, i64_w, i32_w]
                          rfl
                         refine pure_ (i := 4) (N := some 81) (v := ?_) (a' := ?_) #[true, true, true, true, true, false, false, false, false, false, false, false] rfl rfl (any_of HT_.out (by kernel_rfl)) (fun _ _ _ h => h) (Or.inl ⟨by rfl, ?_⟩) ?_ ?_
                         rotate_left
                         ·intro w'
                          go_simp
                          with_reducible rfl
                         rotate_left
                         ·simp only [Act.put, List.setIfInBounds_toArray, List.set_cons_zero, List.set_cons_succ, i64_w, i32_w]
                          rfl
                         refine pure_ (i := 6) (N := some 83) (v := ?_) (a' := ?_) #[true, true, true, true, true, false, true, false, false, false, false, false] rfl rfl (any_of HT_.out (by kernel_rfl)) (fun _ _ _ h => h) (Or.inl ⟨by rfl, ?_⟩) ?_ ?_
                         rotate_left
                         ·intro w'
                          go_simp
                          with_reducible rfl
                         rotate_left
                         ·simp only [Act.put, List.setIfInBounds_toArray, List.set_cons_zero, List.set_cons_succ, i64_w, i32_w]
                          rfl
                         refine take_ (i := 5) (N := some 82) (v := ?_) (a' := ?_) #[true, true, true, true, true, true, true, false, false, false, false, false] rfl rfl (take_ofW HT_.out HW_.out (by kernel_rfl)) (fun _ _ _ h => h) (Or.inl ⟨by rfl, ?_⟩) hHeld ?_ ?_
                         rotate_left
                         ·rintro w' ⟨s0, s1, s2⟩
                          go_simp
                          with_reducible rfl
                         rotate_left
                         ·simp only [Act.put, List.setIfInBounds_toArray, List.set_cons_zero, List.set_cons_succ, i64_w, i32_w]
                          rfl
                         refine take_ (i := 7) (N := some 84) (v := ?_) (a' := ?_) #[true, true, true, true, true, true, true, true, false, false, false, false] rfl rfl (take_ofW HT_.out HW_.out (by kernel_rfl)) (fun _ _ _ h => h) (Or.inl ⟨by rfl, ?_⟩) hHeld ?_ ?_
                         rotate_left
                         ·rintro w' ⟨s0, s1, s2⟩
                          go_simp
                          with_reducible rfl
                         rotate_left
                         ·simp only [Act.put, List.setIfInBounds_toArray, List.set_cons_zero, List.set_cons_succ, i64_w, i32_w]
                          rfl
                         refine one_ (i := 8) (N := some 85) #[true, true, true, true, true, true, true, true, true, false, false, false] rfl rfl (one_of HT_.out (by kernel_rfl)) (by decide) (fun K hK => ?_)
                         refine value_ (w1 := ?_) (v := ?_) (by rfl) rfl ?_ ?_
                         rotate_left 2
                         ·go_simp
                          constructor
                          ·rfl
                          ·rfl
                         refine hK.out _ _ ⟨(blk_cell (blk_alloc BK112.out _) 0).trans rfl, (blk_cell (blk_alloc BK112.out _) 1).trans rfl, (World.cell?_alloc_lt _ _ _ (World.block_lt_of_cell? _ _ (hHeld.2.2))).trans (hHeld.2.2)⟩ (fun hHeld => ?_)
                         clear hK K
                         refine norm_ (a' := ?_) ?_ ?_
                         rotate_left
                         ·show Act.put _ (some 85) _ = _
                          simp only [Act.put, List.setIfInBounds_toArray, List.set_cons_zero, List.set_cons_succ, i64_w, i32_w]
                          rfl
                         refine one_ (i := 9) (N := some 86) #[true, true, true, true, true, true, true, true, true, true, false, false] rfl rfl (one_of HT_.out (by kernel_rfl)) (by decide) (fun K hK => ?_)
                         refine Kd.R_append_step Kd.string (w0 := w) w.heap.size (by rfl) (.tmp 82) (.tmp 85) 28 9 (.string ⟨#[]⟩) 16 rfl Try.underlying28 info9 rfl (by decide) (by omega) (.slice A113_0 (rd_L1 x9_3 x13_28).length c113_0) (rd_L1 x9_3 x13_28) (((rd_T32 l1 x50_3).f0) ++ (⟨#[45, 115, 116, 97, 114, 116]⟩ : ByteArray)) [.string (((rd_T32 l1 x50_3).f0) ++ (⟨#[45, 115, 116, 97, 114, 116]⟩ : ByteArray))] (fun k_ => oki51 k_ ∨ ((fun _ => True)) k_ ∧ w50.heap.size ≤ k_) (fun _ => False) rfl rfl ?aP (fun _ hk => hk.elim) ?aF ?aO ?aB ?aS ?aL ?_
                         (case aP => exact rfl)
                         (case aB => exact bel_)
                         (case aF => exact (fun k_ hk => .inr ⟨trivial, hk⟩))
                         (case aO => exact (by (with_reducible repeat (first | apply Kd.R_alloc | apply Kd.R_drewN | apply Kd.R_drew)); exact Kd.R_mono UU51.out (fun _ hk => .inl hk)))
                         (case aS => exact (below_size bel_))
                         (case aL => have := LMc48.out; omega)
                         intro v115 w52 ho hb hg hat
                         (first | have HS2_ := cell_grown hg (hHeld.2.2) (by first | (rw [add_block]; exact (fun e_ => ((HL113_0.out.1 _ e_.symm).2) rfl)) | (show some (Addr.add _ _).block ≠ _; rw [add_block]; exact (fun e_ => ((HL113_0.out.1 _ e_.symm).2) rfl)) | exact (fun e_ => ((HL113_0.out.1 _ e_.symm).2) rfl)) | have HS2_ := cell_grown hg (cell_unalloc (hHeld.2.2) (by first | (rw [add_block]; exact Kd.S_lt HO_9.out _ rfl) | (show (Addr.add _ _).block < _; rw [add_block]; exact Kd.S_lt HO_9.out _ rfl) | exact Kd.S_lt HO_9.out _ rfl)) (by first | (rw [add_block]; exact (fun e_ => ((HL113_0.out.1 _ e_.symm).2) rfl)) | (show some (Addr.add _ _).block ≠ _; rw [add_block]; exact (fun e_ => ((HL113_0.out.1 _ e_.symm).2) rfl)) | exact (fun e_ => ((HL113_0.out.1 _ e_.symm).2) rfl)))
                         rw [← Ny114.out] at ho
                         have n0_ := Aside0.mk (blk_grown (g := gb111) (o := .cells #[.string ((rd_T32 l1 x50_3).f0), .int .i64 ((rd_T32 l1 x50_3).f1), .int .i64 ((rd_T32 l1 x50_3).f2), .int .i64 ((rd_T32 l1 x50_3).f3), .int .i64 ((rd_T32 l1 x50_3).f4)] 32 (0, 0)) blk_ hg (Kd.R_ne HL113_0.out BK111.out (by decide)))
                         have n1_ := Aside0.mk (blk_grown (g := gb112) (o := .cells #[.string (((rd_T32 l1 x50_3).f0) ++ (⟨#[45, 115, 116, 97, 114, 116]⟩ : ByteArray)), .string (((rd_T32 l1 x50_3).f0) ++ (⟨#[45, 101, 110, 100]⟩ : ByteArray))] 43 (0, 0)) blk_ hg (Kd.R_ne HL113_0.out BK112.out (by decide)))
                         have n2_ := Aside0.mk (hb)
                         have n3_ := Aside0.mk (Kd.H_grown (Kd.H_widen (by repeat (first | exact HH51.out | refine Kd.H_alloc ?_ _ | refine Kd.H_drewN ?_ _ | refine Kd.H_drew ?_))) hg (fun k_ e_ => .inl (UU51.out.1 k_ e_)))
                         have n4_ := Aside0.mk (ho)
                         clear BK111
                         clear BK112
                         clear HB
                         clear HH51
                         clear HO_9
                         clear UU51
                         clear HL113_0
                         have BK111 := n0_
                         have BK112 := n1_
                         have HB := n2_
                         have HH51 := n3_
                         have HO116 := n4_
                         clear n0_ n1_ n2_ n3_ n4_
                         clear ho hb hg hat
                         have p49 : 0 ≤ (x13_28 : Int) := of_decide_eq_true (by first | (with_reducible assumption) | assumption)
                         have q49 : (x13_28 : Int) < ((x9_3.length : Int) : Int) := of_decide_eq_true (by first | (with_reducible assumption) | assumption)
                         replace p49 := eq_true p49
                         replace q49 := eq_true q49
                         obtain ⟨Ao55, co55, eo55⟩ := Kd.R_slice HO116.out
                         (first | subst eo55 | (injection eo55 with f1_ f2_ f3_; have f4_ := f1_.symm; have f5_ := f3_.symm; clear f1_ f2_ f3_; subst f4_; subst f5_))
                         obtain ⟨_, _, hraw53, _, _, hcc53, _⟩ := Kd.H_raw HH51.out (of_decide_eq_true (by first | (with_reducible assumption) | assumption)) (by have h_ : (x13_28 : Int) < ((x9_3.length : Int) : Int) := of_decide_eq_true (by first | (with_reducible assumption) | assumption); first | exact h_ | (have e_ := (HN51.out); omega) | simpa using h_)
                         obtain ⟨_, hfr53⟩ := Kd.H_at HH51.out (of_decide_eq_true (by first | (with_reducible assumption) | assumption)) (by have h_ : (x13_28 : Int) < ((x9_3.length : Int) : Int) := of_decide_eq_true (by first | (with_reducible assumption) | assumption); first | exact h_ | (have e_ := (HN51.out); omega) | simpa using h_)
                         have hx53_0 := hcc53 0 _ rfl
                         have hf53_0 := hfr53 0
                         (try simp only [Nat.add_zero] at hx53_0 hf53_0)
                         (try rw [show ((Kd.slice 9 Kd.string)).sz = 1 from rfl, Nat.mul_one] at hx53_0)
                         (try rw [show ((Kd.slice 9 Kd.string)).sz = 1 from rfl, Nat.mul_one] at hf53_0)
                         have HP53 := Kd.S_seg0 HH51.out (of_decide_eq_true (by first | (with_reducible assumption) | assumption)) (by have h_ : (x13_28 : Int) < ((x9_3.length : Int) : Int) := of_decide_eq_true (by first | (with_reducible assumption) | assumption); first | exact h_ | (have e_ := (HN51.out); omega) | simpa using h_) (seg := [.slice Ao55 y114.length co55]) (j := 0) (show 1 ≤ 1 from by decide) (x' := y114) (Kd.M_row HO116.out) (fun _ hk => hk)
                         (try simp only [show ((Kd.slice 9 Kd.string)).sz = 1 from rfl, Nat.mul_one, Nat.add_zero] at HP53)
                         clear hcc53 hfr53
                         have HNB111_go51 := Aside0.mk (show gb111 ≠ go51 from by have h_ := Kd.R_ne hraw53 BK111.out (by decide); intro e_; exact h_ (by rw [e_]; rfl))
                         have HNB112_go51 := Aside0.mk (show gb112 ≠ go51 from by have h_ := Kd.R_ne hraw53 BK112.out (by decide); intro e_; exact h_ (by rw [e_]; rfl))
                         have HS53 := HP53.1
                         rw [← Ny117.out] at HS53
                         have HQ53 := Aside0.mk HS53
                         obtain ⟨_, hgg53⟩ := Kd.R_typed hraw53 go51 rfl
                         have GG53_ := Aside0.mk hgg53
                         clear HP53 HS53 hgg53
                         refine hK.out _ _ ⟨(blk_cell BK112.out 0).trans rfl, (blk_cell BK112.out 1).trans rfl, HS2_⟩ (fun hHeld => ?_)
                         clear hK K
                         refine norm_ (a' := ?_) ?_ ?_
                         rotate_left
                         ·show Act.put _ (some 86) _ = _
                          simp only [Act.put, List.setIfInBounds_toArray, List.set_cons_zero, List.set_cons_succ, i64_w, i32_w]
                          rfl
                         refine pure_ (i := 10) (N := some 87) (v := ?_) (a' := ?_) #[true, true, true, true, true, true, true, true, true, true, true, false] rfl rfl (any_of HT_.out (by kernel_rfl)) (fun _ _ _ h => h) (Or.inl ⟨by rfl, ?_⟩) ?_ ?_
                         rotate_left
                         ·intro w'
                          go_simp
                          with_reducible rfl
                         rotate_left
                         ·simp only [Act.put, List.setIfInBounds_toArray, List.set_cons_zero, List.set_cons_succ, i64_w, i32_w]
                          rfl
                         refine last_ (i := 11) (N := none) #[true, true, true, true, true, true, true, true, true, true, true, true] rfl rfl (one_of HT_.out (by kernel_rfl)) (by decide) (fun K hK => ?_)
                         refine skip_ (w1 := ?_) (by rfl) rfl ?_ ?_
                         rotate_left
                         ·go_simp
                          rfl
                         refine hK.out _ _ ?_
                         clear hK K
                         refine done_ (done_of HT_.out (by kernel_rfl)) ?_
                         try go_wp2
                         go_meet
                         case rel => exact ⟨_, (y117), H', ⟨by have := HJ4.out; have := HK2.out; have := HK3.out; have := HJ28.out; have := HJ37.out; first | omega | exact Nat.le_refl _⟩, ⟨by (try simp only [hl9_2]); (try simp only [hl9_3]); (with_reducible repeat (first | apply Kd.S_alloc | apply Kd.S_drewN | apply Kd.S_drew)); exact HQ53.out⟩, ⟨by (try simp only [hl9_2]); (try simp only [hl9_3]); (with_reducible repeat (first | refine blk_drewN ?_ _ | refine blk_drew ?_ | refine blk_alloc ?_ _)); refine blk_far ?_ HNB111_go51.out _; (with_reducible repeat (first | refine blk_drewN ?_ _ | refine blk_drew ?_ | refine blk_alloc ?_ _)); exact BK111.out⟩, ⟨by (try simp only [hl9_2]); (try simp only [hl9_3]); (with_reducible repeat (first | refine blk_drewN ?_ _ | refine blk_drew ?_ | refine blk_alloc ?_ _)); refine blk_far ?_ HNB112_go51.out _; (with_reducible repeat (first | refine blk_drewN ?_ _ | refine blk_drew ?_ | refine blk_alloc ?_ _)); exact BK112.out⟩, ⟨by repeat (first | (with_reducible first | exact HB.out | apply below_alloc | apply pw_below_drewN | apply below_drew1 | refine below_set ?_ GB51.out | refine below_set ?_ GE111.out | refine below_set ?_ GE112.out) | exact HB.out)⟩⟩
                        ·rw [if_neg c48] at H
                         exact absurd H (by simp)
                       ·rw [if_neg c47] at H
                        exact absurd H (by simp)
                      ·rw [if_neg c46] at H
                       exact absurd H (by simp)
                     ·replace c45 := Bool.eq_false_iff.mpr c45
                      subst c45
                      rw [if_neg (show ¬ (false = true) by decide)] at H
                      have H' := Aside0.mk H
                      clear H
                      go_wp2
                      go_meet
                      case rel => exact ⟨_, (x9_3), H', ⟨by have := HJ4.out; have := HK2.out; have := HK3.out; have := HJ28.out; have := HJ37.out; first | omega | exact Nat.le_refl _⟩, ⟨by (try simp only [hl9_2]); (try simp only [hl9_3]); (with_reducible repeat (first | apply Kd.S_alloc | apply Kd.S_drewN | apply Kd.S_drew)); exact HO_9.out⟩, ⟨by (try simp only [hl9_2]); (try simp only [hl9_3]); (with_reducible repeat (first | refine blk_drewN ?_ _ | refine blk_drew ?_ | refine blk_alloc ?_ _)); exact BK111.out⟩, ⟨by (try simp only [hl9_2]); (try simp only [hl9_3]); (with_reducible repeat (first | refine blk_drewN ?_ _ | refine blk_drew ?_ | refine blk_alloc ?_ _)); exact BK112.out⟩, ⟨bel_⟩⟩
                    case rest =>
                     clear HC44
                     try clear c1
                     try clear p1
                     try clear q1
                     try clear hx1
                     try clear c2
                     try clear p2
                     try clear hx2
                     try clear c3
                     try clear c4
                     try clear p4
                     try clear q4
                     try clear c5
                     try clear hx5
                     try clear hf5
                     try clear c6
                     try clear c6b0
                     try clear p6
                     try clear c7
                     try clear c9
                     try clear c9b0
                     try clear c9b1
                     try clear c10
                     try clear c10b0
                     try clear c10b1
                     try clear p10
                     try clear q10
                     try clear hx10
                     try clear c11
                     try clear p11
                     try clear q11
                     try clear hx11
                     try clear c14
                     try clear c14b0
                     try clear c15
                     try clear c15b0
                     try clear c16
                     try clear c16b0
                     try clear c17
                     try clear c17b0
                     try clear c18
                     try clear p19
                     try clear q19
                     try clear c21
                     try clear c23
                     try clear hx23
                     try clear hf23
                     try clear c26
                     try clear c26b0
                     try clear c27
                     try clear c27b0
                     try clear c28
                     try clear c28b0
                     try clear c34
                     try clear c36
                     try clear c36b0
                     try clear c36b1
                     try clear c36b2
                     try clear c37
                     try clear c37b0
                     try clear c37b1
                     try clear c37b2
                     try clear c41
                     try clear c43
                     try clear c43b0
                     try clear c45
                     try clear c46
                     try clear c46b0
                     try clear c47
                     try clear c47b0
                     try clear c48
                     try clear p49
                     try clear q49
                     try clear c51
                     try clear c53
                     try clear hx53
                     try clear hf53
                     try clear hcz31_0
                     try clear hcz31_1
                     try clear hcz31_2
                     try clear hcz31_3
                     try clear hcz31_4
                     try clear hcz39_0
                     try clear hcz39_1
                     try clear hcz39_2
                     try clear hcz39_3
                     try clear hcz39_4
                     try clear hcz42_0
                     try clear hcz42_1
                     try clear hfz31_0
                     try clear hfz31_1
                     try clear hfz31_2
                     try clear hfz31_3
                     try clear hfz31_4
                     try clear hfz39_0
                     try clear hfz39_1
                     try clear hfz39_2
                     try clear hfz39_3
                     try clear hfz39_4
                     try clear hfz42_0
                     try clear hfz42_1
                     try clear hx104_0
                     try clear hx105_0
                     try clear hx110_0
                     try clear hx110_1
                     try clear hx110_2
                     try clear hx110_3
                     try clear hx110_4
                     try clear hx113_0
                     try clear hx23_0
                     try clear hx53_0
                     try clear p1
                     try clear p10
                     try clear p104
                     try clear p105
                     try clear p11
                     try clear p110
                     try clear p113
                     try clear p19
                     try clear p2
                     try clear p49
                     try clear p6
                     try clear q1
                     try clear q10
                     try clear q104
                     try clear q105
                     try clear q11
                     try clear q110
                     try clear q113
                     try clear q19
                     try clear q49
                     obtain ⟨kq, x9_43, HA, HJ43, HO_9, BK111, BK112, HB⟩ := hcut
                     have hl9_43 := (Kd.S_reads' HO_9.out).1
                     rw [hl9_43] at HO_9
                     (try simp only [hl9_43])
                     (try simp only [hl9_43] at BK111)
                     (try simp only [hl9_43] at BK112)
                     cases kq with
                     | zero => exact absurd HA.out (by simp [names_Table.j5])
                     | succ kj43 =>
                      have H := HA.out
                      clear HA
                      simp only [names_Table.j5] at H
                      have H' := Aside0.mk H
                      clear H
                      go_wp2
                      go_loopg [90] kj43 (fun kq v90 w' => ∃ (x9_7 : List (List ByteArray)) (x90_7 : Int), v90 = .int .i64 x90_7 ∧ Aside0 (names_Table.l2 kq a2 a3 x9_7 x13_28 x14_28 l1 (l1.length : Int) x50_3 (x9_43.length : Int) x90_7 (((rd_T32 l1 x50_3).f0) ++ (⟨#[45, 115, 116, 97, 114, 116]⟩ : ByteArray)) (((rd_T32 l1 x50_3).f0) ++ (⟨#[45, 101, 110, 100]⟩ : ByteArray)) = some r) ∧ Aside0 (kq ≤ kj43) ∧ Aside0 (Kd.S (Kd.slice 9 Kd.string) 28 w' w.heap.size (fun _ => True) (.slice Ao13 x9_43.length co13) x9_7) ∧ Aside0 (w'.heap[gb111]? = some (.cells #[.string ((rd_T32 l1 x50_3).f0), .int .i64 ((rd_T32 l1 x50_3).f1), .int .i64 ((rd_T32 l1 x50_3).f2), .int .i64 ((rd_T32 l1 x50_3).f3), .int .i64 ((rd_T32 l1 x50_3).f4)] 32 (0, 0))) ∧ Aside0 (w'.heap[gb112]? = some (.cells #[.string (((rd_T32 l1 x50_3).f0) ++ (⟨#[45, 115, 116, 97, 114, 116]⟩ : ByteArray)), .string (((rd_T32 l1 x50_3).f0) ++ (⟨#[45, 101, 110, 100]⟩ : ByteArray))] 43 (0, 0))) ∧ Aside0 (Below w.heap.size w w'))
                      case atStart => exact ⟨(x9_43), (0), rfs_, H', ⟨Nat.le_refl _⟩, ⟨by (try simp only [hl9_2]); (try simp only [hl9_3]); (try simp only [hl9_43]); (with_reducible repeat (first | apply Kd.S_alloc | apply Kd.S_drewN | apply Kd.S_drew)); exact HO_9.out⟩, ⟨by (try simp only [hl9_2]); (try simp only [hl9_3]); (try simp only [hl9_43]); (with_reducible repeat (first | refine blk_drewN ?_ _ | refine blk_drew ?_ | refine blk_alloc ?_ _)); exact BK111.out⟩, ⟨by (try simp only [hl9_2]); (try simp only [hl9_3]); (try simp only [hl9_43]); (with_reducible repeat (first | refine blk_drewN ?_ _ | refine blk_drew ?_ | refine blk_alloc ?_ _)); exact BK112.out⟩, ⟨bel_⟩⟩
                      case round =>
                       clear H'
                       try clear c1
                       try clear p1
                       try clear q1
                       try clear hx1
                       try clear c2
                       try clear p2
                       try clear hx2
                       try clear c3
                       try clear c4
                       try clear p4
                       try clear q4
                       try clear c5
                       try clear hx5
                       try clear hf5
                       try clear c6
                       try clear c6b0
                       try clear p6
                       try clear c7
                       try clear c9
                       try clear c9b0
                       try clear c9b1
                       try clear c10
                       try clear c10b0
                       try clear c10b1
                       try clear p10
                       try clear q10
                       try clear hx10
                       try clear c11
                       try clear p11
                       try clear q11
                       try clear hx11
                       try clear c14
                       try clear c14b0
                       try clear c15
                       try clear c15b0
                       try clear c16
                       try clear c16b0
                       try clear c17
                       try clear c17b0
                       try clear c18
                       try clear p19
                       try clear q19
                       try clear c21
                       try clear c23
                       try clear hx23
                       try clear hf23
                       try clear c26
                       try clear c26b0
                       try clear c27
                       try clear c27b0
                       try clear c28
                       try clear c28b0
                       try clear c34
                       try clear c36
                       try clear c36b0
                       try clear c36b1
                       try clear c36b2
                       try clear c37
                       try clear c37b0
                       try clear c37b1
                       try clear c37b2
                       try clear c41
                       try clear c43
                       try clear c43b0
                       try clear c45
                       try clear c46
                       try clear c46b0
                       try clear c47
                       try clear c47b0
                       try clear c48
                       try clear p49
                       try clear q49
                       try clear c51
                       try clear c53
                       try clear hx53
                       try clear hf53
                       try clear hcz31_0
                       try clear hcz31_1
                       try clear hcz31_2
                       try clear hcz31_3
                       try clear hcz31_4
                       try clear hcz39_0
                       try clear hcz39_1
                       try clear hcz39_2
                       try clear hcz39_3
                       try clear hcz39_4
                       try clear hcz42_0
                       try clear hcz42_1
                       try clear hfz31_0
                       try clear hfz31_1
                       try clear hfz31_2
                       try clear hfz31_3
                       try clear hfz31_4
                       try clear hfz39_0
                       try clear hfz39_1
                       try clear hfz39_2
                       try clear hfz39_3
                       try clear hfz39_4
                       try clear hfz42_0
                       try clear hfz42_1
                       try clear hx104_0
                       try clear hx105_0
                       try clear hx110_0
                       try clear hx110_1
                       try clear hx110_2
                       try clear hx110_3
                       try clear hx110_4
                       try clear hx113_0
                       try clear hx23_0
                       try clear hx53_0
                       try clear p1
                       try clear p10
                       try clear p104
                       try clear p105
                       try clear p11
                       try clear p110
                       try clear p113
                       try clear p19
                       try clear p2
                       try clear p4
                       try clear p49
                       try clear p6
                       try clear q1
                       try clear q10
                       try clear q104
                       try clear q105
                       try clear q11
                       try clear q110
                       try clear q113
                       try clear q19
                       try clear q4
                       try clear q49
                       obtain ⟨x9_7, x90_7, rfl, HA, HK7, HO_9, BK111, BK112, HB⟩ := hrel
                       have hl9_7 := (Kd.S_reads' HO_9.out).1
                       rw [hl9_7] at HO_9
                       (try simp only [hl9_7])
                       (try simp only [hl9_7] at BK111)
                       (try simp only [hl9_7] at BK112)
                       cases gk with
                       | zero => exact absurd HA.out (by simp [names_Table.l2])
                       | succ k7 =>
                        have H := HA.out
                        clear HA
                        simp only [names_Table.l2] at H
                        by_cases c56 : x90_7 < (x9_43.length : Int)
                        ·rw [if_pos c56] at H
                         have c56b0 : decide (x90_7 < (x9_43.length : Int)) = true := decide_eq_true c56
                         have c56b9 := c56b0
                         try rw [hl9_7] at c56b9
                         clear c56
                         by_cases c57 : (wrap64 (x90_7 - x14_28)) = x13_28
                         ·rw [if_pos c57] at H
                          have c57b0 : ((wrap64 (x90_7 - x14_28)) == x13_28) = true := beq_iff_eq.mpr c57
                          have c57b1 : ((wrap64 (x90_7 - x14_28)) != x13_28) = false := bne_eq_false_iff_eq.mpr c57
                          clear c57
                          by_cases c58 : 0 ≤ x90_7
                          ·rw [if_pos c58] at H
                           have c58b0 : decide (0 ≤ x90_7) = true := decide_eq_true c58
                           clear c58
                           by_cases c59 : x90_7 < (x9_7.length : Int)
                           ·rw [if_pos c59] at H
                            have c59b0 : decide (x90_7 < (x9_7.length : Int)) = true := decide_eq_true c59
                            have c59b9 := c59b0
                            try rw [hl9_7] at c59b9
                            clear c59
                            by_cases c60 : (rd_L1 x9_7 x90_7).length < 8796093022208
                            ·rw [if_pos c60] at H
                             have LMc60 := Aside0.mk c60
                             clear c60
                             obtain ⟨y119, hy119⟩ : ∃ y_ : List ByteArray, y_ = ((rd_L1 x9_7 x90_7) ++ [(((rd_T32 l1 x50_3).f0) ++ (⟨#[45, 101, 110, 100]⟩ : ByteArray))]) := ⟨_, rfl⟩
                             replace H : (names_Table.l2 k7 a2 a3 (x9_7.set (x90_7 : Int).toNat y119) x13_28 x14_28 l1 (l1.length : Int) x50_3 (x9_43.length : Int) (wrap64 (x90_7 + 1)) (((rd_T32 l1 x50_3).f0) ++ (⟨#[45, 115, 116, 97, 114, 116]⟩ : ByteArray)) (((rd_T32 l1 x50_3).f0) ++ (⟨#[45, 101, 110, 100]⟩ : ByteArray))) = some r := by first | (rw [hy119]; with_reducible exact H) | (have H2_ := (Option.bind_some _ _).symm.trans H; rw [hy119]; with_reducible exact H2_) | (have H2_ := (Option.bind_some _ _).symm.trans H; with_reducible exact H2_) | with_reducible exact H | (rw [hy119]; exact H) | exact H
                             have Ny119 := Aside0.mk hy119
                             clear hy119
                             obtain ⟨y122, hy122⟩ : ∃ y_ : List (List ByteArray), y_ = (x9_7.set (x90_7 : Int).toNat y119) := ⟨_, rfl⟩
                             replace H : (names_Table.l2 k7 a2 a3 y122 x13_28 x14_28 l1 (l1.length : Int) x50_3 (x9_43.length : Int) (wrap64 (x90_7 + 1)) (((rd_T32 l1 x50_3).f0) ++ (⟨#[45, 115, 116, 97, 114, 116]⟩ : ByteArray)) (((rd_T32 l1 x50_3).f0) ++ (⟨#[45, 101, 110, 100]⟩ : ByteArray))) = some r := by first | (rw [hy122]; with_reducible exact H) | (have H2_ := (Option.bind_some _ _).symm.trans H; rw [hy122]; with_reducible exact H2_) | (have H2_ := (Option.bind_some _ _).symm.trans H; with_reducible exact H2_) | with_reducible exact H | (rw [hy122]; exact H) | exact H
                             have Ny122 := Aside0.mk hy122
                             clear hy122
                             have H' := Aside0.mk H
                             clear H
                             try go_wp2
                             have n0_ := Aside0.mk (Kd.S_drew HO_9.out)
                             have n1_ := Aside0.mk (blk_drew BK111.out)
                             have n2_ := Aside0.mk (blk_drew BK112.out)
                             have n3_ := Aside0.mk (below_drew1 HB.out)
                             clear HO_9
                             clear BK111
                             clear BK112
                             clear HB
                             have HO_9 := n0_
                             have BK111 := n1_
                             have BK112 := n2_
                             have HB := n3_
                             clear n0_ n1_ n2_ n3_
                             have p118 : 0 ≤ (x90_7 : Int) := of_decide_eq_true (by first | (with_reducible assumption) | assumption)
                             have q118 : x90_7 < (x9_7.length : Int) := of_decide_eq_true (by first | (with_reducible assumption) | assumption)
                             obtain ⟨ad118, A118_0, c118_0, e118, hx118_0, hl118_0, hi118_0⟩ := at_L1 (Kd.S_reads' HO_9.out).2.2 x90_7 p118 q118
                             cases e118
                             obtain ⟨ce118, hce118, hMe118, hcc118⟩ := Kd.S_get HO_9.out [] x90_7 p118 (by first | exact q118 | exact of_decide_eq_true (by first | (with_reducible assumption) | assumption) | (have e_ := (Kd.S_reads' HO_9.out).1; omega))
                             obtain ⟨ve118_0, rfl, ge118_0⟩ := hMe118
                             have hv118_0 := hcc118 0 _ rfl
                             rw [Nat.add_zero, show ((Kd.slice 9 Kd.string)).sz = 1 from rfl, Nat.mul_one] at hv118_0
                             replace hv118_0 := Option.some.inj (hv118_0.symm.trans hx118_0)
                             rw [hv118_0] at ge118_0
                             have HL118_0 := Aside0.mk (show Kd.R Kd.string 9 _ _ _ _ (rd_L1 x9_7 x90_7) from ge118_0)
                             clear hv118_0 ge118_0
                             have HX118_0 := Aside0.mk hx118_0
                             clear hcc118 hce118
                             have HR118_0 := Aside0.mk hi118_0
                             have HC118_0 := Aside0.mk hl118_0
                             clear hi118_0 hl118_0
                             replace p118 := eq_true p118
                             replace q118 := eq_true q118
                             obtain ⟨go63, co63, eo63, gb63, gl63, cl63, HG63⟩ := Kd.S_form HO_9.out (by have h_ : (x90_7 : Int) < ((x9_7.length : Int) : Int) := of_decide_eq_true (by first | (with_reducible assumption) | assumption); have h2_ : 0 ≤ (x90_7 : Int) := (of_decide_eq_true (by first | (with_reducible assumption) | assumption)); omega)
                             (first | cases eo63 | (injection eo63 with ea_ en_ ec_; (first | subst ea_ | (injection ea_ with ea_; subst ea_)); subst ec_; clear en_))
                             have GB63 := Aside0.mk gb63
                             have GG63 := Aside0.mk HG63
                             clear gb63 gl63 HG63
                             (first | simp only [add_plain] at hx118_0 | skip)
                             obtain ⟨oki63, ce63, hcl63, hM63, hcc63, _, _, hH63⟩ := Kd.S_elem HO_9.out [] (x90_7 : Int) (of_decide_eq_true (by first | (with_reducible assumption) | assumption)) (by have h_ : (x90_7 : Int) < ((x9_7.length : Int) : Int) := of_decide_eq_true (by first | (with_reducible assumption) | assumption); first | exact h_ | (have e_ := (Kd.S_reads' HO_9.out).1; omega) | simpa using h_)
                             obtain ⟨ve63_0, rfl, ge63_0⟩ := hM63
                             have hv63 := hcc63 0 _ rfl
                             have hX63 := HX118_0.out
                             (try simp only [add_plain] at hX63)
                             (try simp only [Nat.add_zero] at hv63)
                             (try rw [show ((Kd.slice 9 Kd.string)).sz = 1 from rfl, Nat.mul_one] at hv63)
                             replace hv63 := Option.some.inj (hv63.symm.trans hX63)
                             subst hv63
                             clear hX63 hcc63 hcl63
                             have UU63 := Aside0.mk (show Kd.R Kd.string 9 _ w.heap.size oki63 (.slice A118_0 (rd_L1 x9_7 x90_7).length c118_0) (rd_L1 x9_7 x90_7) from ge63_0)
                             have HH63 := Aside0.mk hH63
                             have HN63 := Aside0.mk (Kd.S_reads' HO_9.out).1
                             clear hH63 ge63_0
                             refine start_ (n := 12) (S := fun w' => w'.cell? ⟨gb112, 0, none⟩ = some (.string (((rd_T32 l1 x50_3).f0) ++ (⟨#[45, 115, 116, 97, 114, 116]⟩ : ByteArray))) ∧ w'.cell? ⟨gb112, 1, none⟩ = some (.string (((rd_T32 l1 x50_3).f0) ++ (⟨#[45, 101, 110, 100]⟩ : ByteArray))) ∧ w'.cell? ⟨go63, (x90_7).toNat, none⟩ = some (.slice A118_0 (rd_L1 x9_7 x90_7).length c118_0)) (ds := [11]) #[false, false, false, false, false, false, false, false, false, false, false, false] (by kernel_rfl) rfl rfl ⟨(blk_cell BK112.out 0).trans rfl, (blk_cell BK112.out 1).trans rfl, hx118_0⟩ (fun hHeld => ?_); refine with_tabW names_Table.tab23 names_Table.bits23 (fun HT_ HW_ => ?_)
                             generalize wr.drew = w62 at HO_9 BK111 BK112 HB GG63 HH63 HL118_0 HR118_0 HX118_0 UU63 hx118_0 hHeld ⊢
                             refine pure_ (i := 0) (N := some 98) (v := ?_) (a' := ?_) #[true, false, false, false, false, false, false, false, false, false, false, false] rfl rfl (any_of HT_.out (by kernel_rfl)) (fun _ _ _ h => h) (Or.inl ⟨by rfl, ?_⟩) ?_ ?_
                             rotate_left
                             ·intro w'
                              go_simp
                              with_reducible rfl
                             rotate_left
                             ·simp only [Act.put, List.setIfInBounds_toArray, List.set_cons_zero, List.set_cons_succ, i64_w, i32_w]
                              rfl
                             refine pure_ (i := 1) (N := some 99) (v := ?_) (a' := ?_) #[true, true, false, false, false, false, false, false, false, false, false, false] rfl rfl (any_of HT_.out (by kernel_rfl)) (fun _ _ _ h => h) (Or.inl ⟨by rfl, ?_⟩) ?_ ?_
                             rotate_left
                             ·intro w'
                              go_simp
                              with_reducible rfl
                             rotate_left
                             ·simp only [Act.put, List.setIfInBounds_toArray, List.set_cons_zero, List.set_cons_succ, i64_w, i32_w]
                              rfl
                             refine pure_ (i := 2) (N := some 100) (v := ?_) (a' := ?_) #[true, true, true, false, false, false, false, false, false, false, false, false] rfl rfl (any_of HT_.out (by kernel_rfl)) (fun _ _ _ h => h) (Or.inl ⟨by rfl, ?_⟩) ?_ ?_
                             rotate_left
                             ·intro w'
                              go_simp
                              with_reducible rfl
                             rotate_left
                             ·simp only [Act.put, List.setIfInBounds_toArray, List.set_cons_zero, List.set_cons_succ, i64_w, i32_w]
                              rfl
                             refine pure_ (i := 3) (N := some 101) (v := ?_) (a' := ?_) #[true, true, true, true, false, false, false, false, false, false, false, false] rfl rfl (any_of HT_.out (by kernel_rfl)) (fun _ _ _ h => h) (Or.inl ⟨by rfl, ?_⟩) ?_ ?_
                             rotate_left
                             ·intro w'
                              go_simp
                              with_reducible rfl
                             rotate_left
                             ·simp only [Act.put, List.setIfInBounds_toArray, List.set_cons_zero, List.set_cons_succ, i64_w, i32_w]
                              rfl
                             refine pure_ (i := 4) (N := some 102) (v := ?_) (a' := ?_) #[true, true, true, true, true, false, false, false, false, false, false, false] rfl rfl (any_of HT_.out (by kernel_rfl)) (fun _ _ _ h => h) (Or.inl ⟨by rfl, ?_⟩) ?_ ?_
                             rotate_left
                             ·intro w'
                              go_simp
                              with_reducible rfl
                             rotate_left
                             ·simp only [Act.put, List.setIfInBounds_toArray, List.set_cons_zero, List.set_cons_succ, i64_w, i32_w]
                              rfl
                             refine pure_ (i := 6) (N := some 104) (v := ?_) (a' := ?_) #[true, true, true, true, true, false, true, false, false, false, false, false] rfl rfl (any_of HT_.out (by kernel_rfl)) (fun _ _ _ h => h) (Or.inl ⟨by rfl, ?_⟩) ?_ ?_
                             rotate_left
                             ·intro w'
                              go_simp
                              with_reducible rfl
                             rotate_left
                             ·simp only [Act.put, List.setIfInBounds_toArray, List.set_cons_zero, List.set_cons_succ, i64_w, i32_w]
                              rfl
                             refine take_ (i := 5) (N := some 103) (v := ?_) (a' := ?_) #[true, true, true, true, true, true, true, false, false, false, false, false] rfl rfl (take_ofW HT_.out HW_.out (by kernel_rfl)) (fun _ _ _ h => h) (Or.inl ⟨by rfl, ?_⟩) hHeld ?_ ?_
                             rotate_left
                             ·rintro w' ⟨s0, s1, s2⟩
                              go_simp
                              with_reducible rfl
                             rotate_left
                             ·simp only [Act.put, List.setIfInBounds_toArray, List.set_cons_zero, List.set_cons_succ, i64_w, i32_w]
                              rfl
                             refine take_ (i := 7) (N := some 105) (v := ?_) (a' := ?_) #[true, true, true, true, true, true, true, true, false, false, false, false] rfl rfl (take_ofW HT_.out HW_.out (by kernel_rfl)) (fun _ _ _ h => h) (Or.inl ⟨by rfl, ?_⟩) hHeld ?_ ?_
                             rotate_left
                             ·rintro w' ⟨s0, s1, s2⟩
                              go_simp
                              with_reducible rfl
                             rotate_left
                             ·simp only [Act.put, List.setIfInBounds_toArray, List.set_cons_zero, List.set_cons_succ, i64_w, i32_w]
                              rfl
                             refine one_ (i := 8) (N := some 106) #[true, true, true, true, true, true, true, true, true, false, false, false] rfl rfl (one_of HT_.out (by kernel_rfl)) (by decide) (fun K hK => ?_)
                             refine value_ (w1 := ?_) (v := ?_) (by rfl) rfl ?_ ?_
                             rotate_left 2
                             ·go_simp
                              constructor
                              ·rfl
                              ·rfl
                             refine hK.out _ _ ⟨(blk_cell (blk_alloc BK112.out _) 0).trans rfl, (blk_cell (blk_alloc BK112.out _) 1).trans rfl, (World.cell?_alloc_lt _ _ _ (World.block_lt_of_cell? _ _ (hHeld.2.2))).trans (hHeld.2.2)⟩ (fun hHeld => ?_)
                             clear hK K
                             refine norm_ (a' := ?_) ?_ ?_
                             rotate_left
                             ·show Act.put _ (some 106) _ = _
                              simp only [Act.put, List.setIfInBounds_toArray, List.set_cons_zero, List.set_cons_succ, i64_w, i32_w]
                              rfl
                             refine one_ (i := 9) (N := some 107) #[true, true, true, true, true, true, true, true, true, true, false, false] rfl rfl (one_of HT_.out (by kernel_rfl)) (by decide) (fun K hK => ?_)
                             refine Kd.R_append_step Kd.string (w0 := w) w.heap.size (by rfl) (.tmp 103) (.tmp 106) 28 9 (.string ⟨#[]⟩) 16 rfl Try.underlying28 info9 rfl (by decide) (by omega) (.slice A118_0 (rd_L1 x9_7 x90_7).length c118_0) (rd_L1 x9_7 x90_7) (((rd_T32 l1 x50_3).f0) ++ (⟨#[45, 101, 110, 100]⟩ : ByteArray)) [.string (((rd_T32 l1 x50_3).f0) ++ (⟨#[45, 101, 110, 100]⟩ : ByteArray))] (fun k_ => oki63 k_ ∨ ((fun _ => True)) k_ ∧ w62.heap.size ≤ k_) (fun _ => False) rfl rfl ?aP (fun _ hk => hk.elim) ?aF ?aO ?aB ?aS ?aL ?_
                             (case aP => exact rfl)
                             (case aB => exact bel_)
                             (case aF => exact (fun k_ hk => .inr ⟨trivial, hk⟩))
                             (case aO => exact (by (with_reducible repeat (first | apply Kd.R_alloc | apply Kd.R_drewN | apply Kd.R_drew)); exact Kd.R_mono UU63.out (fun _ hk => .inl hk)))
                             (case aS => exact (below_size bel_))
                             (case aL => have := LMc60.out; omega)
                             intro v120 w64 ho hb hg hat
                             (first | have HS2_ := cell_grown hg (hHeld.2.2) (by first | (rw [add_block]; exact (fun e_ => ((HL118_0.out.1 _ e_.symm).2) rfl)) | (show some (Addr.add _ _).block ≠ _; rw [add_block]; exact (fun e_ => ((HL118_0.out.1 _ e_.symm).2) rfl)) | exact (fun e_ => ((HL118_0.out.1 _ e_.symm).2) rfl)) | have HS2_ := cell_grown hg (cell_unalloc (hHeld.2.2) (by first | (rw [add_block]; exact Kd.S_lt HO_9.out _ rfl) | (show (Addr.add _ _).block < _; rw [add_block]; exact Kd.S_lt HO_9.out _ rfl) | exact Kd.S_lt HO_9.out _ rfl)) (by first | (rw [add_block]; exact (fun e_ => ((HL118_0.out.1 _ e_.symm).2) rfl)) | (show some (Addr.add _ _).block ≠ _; rw [add_block]; exact (fun e_ => ((HL118_0.out.1 _ e_.symm).2) rfl)) | exact (fun e_ => ((HL118_0.out.1 _ e_.symm).2) rfl)))
                             rw [← Ny119.out] at ho
                             have n0_ := Aside0.mk (blk_grown (g := gb111) (o := .cells #[.string ((rd_T32 l1 x50_3).f0), .int .i64 ((rd_T32 l1 x50_3).f1), .int .i64 ((rd_T32 l1 x50_3).f2), .int .i64 ((rd_T32 l1 x50_3).f3), .int .i64 ((rd_T32 l1 x50_3).f4)] 32 (0, 0)) blk_ hg (Kd.R_ne HL118_0.out BK111.out (by decide)))
                             have n1_ := Aside0.mk (blk_grown (g := gb112) (o := .cells #[.string (((rd_T32 l1 x50_3).f0) ++ (⟨#[45, 115, 116, 97, 114, 116]⟩ : ByteArray)), .string (((rd_T32 l1 x50_3).f0) ++ (⟨#[45, 101, 110, 100]⟩ : ByteArray))] 43 (0, 0)) blk_ hg (Kd.R_ne HL118_0.out BK112.out (by decide)))
                             have n2_ := Aside0.mk (hb)
                             have n3_ := Aside0.mk (Kd.H_grown (Kd.H_widen (by repeat (first | exact HH63.out | refine Kd.H_alloc ?_ _ | refine Kd.H_drewN ?_ _ | refine Kd.H_drew ?_))) hg (fun k_ e_ => .inl (UU63.out.1 k_ e_)))
                             have n4_ := Aside0.mk (ho)
                             clear BK111
                             clear BK112
                             clear HB
                             clear HH63
                             clear HO_9
                             clear UU63
                             clear HL118_0
                             have BK111 := n0_
                             have BK112 := n1_
                             have HB := n2_
                             have HH63 := n3_
                             have HO121 := n4_
                             clear n0_ n1_ n2_ n3_ n4_
                             clear ho hb hg hat
                             have p61 : 0 ≤ (x90_7 : Int) := of_decide_eq_true (by first | (with_reducible assumption) | assumption)
                             have q61 : (x90_7 : Int) < ((x9_7.length : Int) : Int) := of_decide_eq_true (by first | (with_reducible assumption) | assumption)
                             replace p61 := eq_true p61
                             replace q61 := eq_true q61
                             obtain ⟨Ao67, co67, eo67⟩ := Kd.R_slice HO121.out
                             (first | subst eo67 | (injection eo67 with f1_ f2_ f3_; have f4_ := f1_.symm; have f5_ := f3_.symm; clear f1_ f2_ f3_; subst f4_; subst f5_))
                             obtain ⟨_, _, hraw65, _, _, hcc65, _⟩ := Kd.H_raw HH63.out (of_decide_eq_true (by first | (with_reducible assumption) | assumption)) (by have h_ : (x90_7 : Int) < ((x9_7.length : Int) : Int) := of_decide_eq_true (by first | (with_reducible assumption) | assumption); first | exact h_ | (have e_ := (HN63.out); omega) | simpa using h_)
                             obtain ⟨_, hfr65⟩ := Kd.H_at HH63.out (of_decide_eq_true (by first | (with_reducible assumption) | assumption)) (by have h_ : (x90_7 : Int) < ((x9_7.length : Int) : Int) := of_decide_eq_true (by first | (with_reducible assumption) | assumption); first | exact h_ | (have e_ := (HN63.out); omega) | simpa using h_)
                             have hx65_0 := hcc65 0 _ rfl
                             have hf65_0 := hfr65 0
                             (try simp only [Nat.add_zero] at hx65_0 hf65_0)
                             (try rw [show ((Kd.slice 9 Kd.string)).sz = 1 from rfl, Nat.mul_one] at hx65_0)
                             (try rw [show ((Kd.slice 9 Kd.string)).sz = 1 from rfl, Nat.mul_one] at hf65_0)
                             have HP65 := Kd.S_seg0 HH63.out (of_decide_eq_true (by first | (with_reducible assumption) | assumption)) (by have h_ : (x90_7 : Int) < ((x9_7.length : Int) : Int) := of_decide_eq_true (by first | (with_reducible assumption) | assumption); first | exact h_ | (have e_ := (HN63.out); omega) | simpa using h_) (seg := [.slice Ao67 y119.length co67]) (j := 0) (show 1 ≤ 1 from by decide) (x' := y119) (Kd.M_row HO121.out) (fun _ hk => hk)
                             (try simp only [show ((Kd.slice 9 Kd.string)).sz = 1 from rfl, Nat.mul_one, Nat.add_zero] at HP65)
                             clear hcc65 hfr65
                             have HNB111_go63 := Aside0.mk (show gb111 ≠ go63 from by have h_ := Kd.R_ne hraw65 BK111.out (by decide); intro e_; exact h_ (by rw [e_]; rfl))
                             have HNB112_go63 := Aside0.mk (show gb112 ≠ go63 from by have h_ := Kd.R_ne hraw65 BK112.out (by decide); intro e_; exact h_ (by rw [e_]; rfl))
                             have HS65 := HP65.1
                             rw [← Ny122.out] at HS65
                             have HQ65 := Aside0.mk HS65
                             obtain ⟨_, hgg65⟩ := Kd.R_typed hraw65 go63 rfl
                             have GG65_ := Aside0.mk hgg65
                             clear HP65 HS65 hgg65
                             refine hK.out _ _ ⟨(blk_cell BK112.out 0).trans rfl, (blk_cell BK112.out 1).trans rfl, HS2_⟩ (fun hHeld => ?_)
                             clear hK K
                             refine norm_ (a' := ?_) ?_ ?_
                             rotate_left
                             ·show Act.put _ (some 107) _ = _
                              simp only [Act.put, List.setIfInBounds_toArray, List.set_cons_zero, List.set_cons_succ, i64_w, i32_w]
                              rfl
                             refine pure_ (i := 10) (N := some 108) (v := ?_) (a' := ?_) #[true, true, true, true, true, true, true, true, true, true, true, false] rfl rfl (any_of HT_.out (by kernel_rfl)) (fun _ _ _ h => h) (Or.inl ⟨by rfl, ?_⟩) ?_ ?_
                             rotate_left
                             ·intro w'
                              go_simp
                              with_reducible rfl
                             rotate_left
                             ·simp only [Act.put, List.setIfInBounds_toArray, List.set_cons_zero, List.set_cons_succ, i64_w, i32_w]
                              rfl
                             refine last_ (i := 11) (N := none) #[true, true, true, true, true, true, true, true, true, true, true, true] rfl rfl (one_of HT_.out (by kernel_rfl)) (by decide) (fun K hK => ?_)
                             refine skip_ (w1 := ?_) (by rfl) rfl ?_ ?_
                             rotate_left
                             ·go_simp
                              rfl
                             refine hK.out _ _ ?_
                             clear hK K
                             refine done_ (done_of HT_.out (by kernel_rfl)) ?_
                             try go_wp2
                             (try simp only [← hl9_7])
                             go_roundg k7
                             case measure => have := HJ4.out; have := HK2.out; have := HK3.out; have := HJ28.out; have := HJ37.out; have := HJ43.out; have := HK7.out; omega
                             case rel => exact ⟨(y122), (wrap64 (x90_7 + 1)), rfs_, H', ⟨by have := HJ4.out; have := HK2.out; have := HK3.out; have := HJ28.out; have := HJ37.out; have := HJ43.out; have := HK7.out; omega⟩, ⟨by (try simp only [hl9_2]); (try simp only [hl9_3]); (try simp only [hl9_43]); (try simp only [hl9_7]); (with_reducible repeat (first | apply Kd.S_alloc | apply Kd.S_drewN | apply Kd.S_drew)); exact HQ65.out⟩, ⟨by (try simp only [hl9_2]); (try simp only [hl9_3]); (try simp only [hl9_43]); (try simp only [hl9_7]); (with_reducible repeat (first | refine blk_drewN ?_ _ | refine blk_drew ?_ | refine blk_alloc ?_ _)); refine blk_far ?_ HNB111_go63.out _; (with_reducible repeat (first | refine blk_drewN ?_ _ | refine blk_drew ?_ | refine blk_alloc ?_ _)); exact BK111.out⟩, ⟨by (try simp only [hl9_2]); (try simp only [hl9_3]); (try simp only [hl9_43]); (try simp only [hl9_7]); (with_reducible repeat (first | refine blk_drewN ?_ _ | refine blk_drew ?_ | refine blk_alloc ?_ _)); refine blk_far ?_ HNB112_go63.out _; (with_reducible repeat (first | refine blk_drewN ?_ _ | refine blk_drew ?_ | refine blk_alloc ?_ _)); exact BK112.out⟩, ⟨by repeat (first | (with_reducible first | exact HB.out | apply below_alloc | apply pw_below_drewN | apply below_drew1 | refine below_set ?_ GB63.out | refine below_set ?_ GE111.out | refine below_set ?_ GE112.out) | exact HB.out)⟩⟩
                            ·rw [if_neg c60] at H
                             exact absurd H (by simp)
                           ·rw [if_neg c59] at H
                            exact absurd H (by simp)
                          ·rw [if_neg c58] at H
                           exact absurd H (by simp)
                         ·rw [if_neg c57] at H
                          have c57b0 : ((wrap64 (x90_7 - x14_28)) == x13_28) = false := beq_eq_false_iff_ne.mpr c57
                          have c57b1 : ((wrap64 (x90_7 - x14_28)) != x13_28) = true := bne_iff_ne.mpr c57
                          have H' := Aside0.mk H
                          clear H
                          go_wp2
                          (try simp only [← hl9_7])
                          go_roundg k7
                          case measure => have := HJ4.out; have := HK2.out; have := HK3.out; have := HJ28.out; have := HJ37.out; have := HJ43.out; have := HK7.out; omega
                          case rel => exact ⟨(x9_7), (wrap64 (x90_7 + 1)), rfs_, H', ⟨by have := HJ4.out; have := HK2.out; have := HK3.out; have := HJ28.out; have := HJ37.out; have := HJ43.out; have := HK7.out; omega⟩, ⟨by (try simp only [hl9_2]); (try simp only [hl9_3]); (try simp only [hl9_43]); (try simp only [hl9_7]); (with_reducible repeat (first | apply Kd.S_alloc | apply Kd.S_drewN | apply Kd.S_drew)); exact HO_9.out⟩, ⟨by (try simp only [hl9_2]); (try simp only [hl9_3]); (try simp only [hl9_43]); (try simp only [hl9_7]); (with_reducible repeat (first | refine blk_drewN ?_ _ | refine blk_drew ?_ | refine blk_alloc ?_ _)); exact BK111.out⟩, ⟨by (try simp only [hl9_2]); (try simp only [hl9_3]); (try simp only [hl9_43]); (try simp only [hl9_7]); (with_reducible repeat (first | refine blk_drewN ?_ _ | refine blk_drew ?_ | refine blk_alloc ?_ _)); exact BK112.out⟩, ⟨bel_⟩⟩
                        ·rw [if_neg c56] at H
                         have c56b0 : decide (x90_7 < (x9_43.length : Int)) = false := decide_eq_false c56
                         have c56b9 := c56b0
                         try rw [hl9_7] at c56b9
                         clear c56
                         have H' := Aside0.mk H
                         clear H
                         go_wp2
                         (try simp only [← hl9_3, ← hl9_43, ← hl9_7])
                         go_roundg k7
                         case measure => have := HJ4.out; have := HK2.out; have := HK3.out; have := HJ28.out; have := HJ37.out; have := HJ43.out; have := HK7.out; omega
                         case rel => exact ⟨(x9_7), (wrap64 (x50_3 + 1)), rfs_, H', ⟨by have := HJ4.out; have := HK2.out; have := HK3.out; have := HJ28.out; have := HJ37.out; have := HJ43.out; have := HK7.out; omega⟩, ⟨by (try simp only [hl9_2]); (try simp only [hl9_3]); (try simp only [hl9_43]); (try simp only [hl9_7]); (with_reducible repeat (first | apply Kd.S_alloc | apply Kd.S_drewN | apply Kd.S_drew)); exact HO_9.out⟩, ⟨bel_⟩⟩
                 ·rw [if_neg c37] at H
                  exact absurd H (by simp)
                ·rw [if_neg c36] at H
                 exact absurd H (by simp)
             ·rw [if_neg c28] at H
              exact absurd H (by simp)
            ·rw [if_neg c27] at H
             exact absurd H (by simp)
           ·rw [if_neg c26] at H
            have c26b0 : decide (x50_3 < (l1.length : Int)) = false := decide_eq_false c26
            clear c26
            obtain rfl := Option.some.inj H
            go_wp2
            go_ret
            exact ⟨_, by first | rfl | (simp [errW_none, errW_some] <;> rfl) | (simp only [← hji8]; first | rfl | (simp [errW_none, errW_some] <;> rfl)) | (simp [*, errW_none, errW_some] <;> rfl), by (with_reducible repeat (first | apply Kd.S_alloc | apply Kd.S_drewN | apply Kd.S_drew)); exact HO_9.out, bel_⟩
     ·rw [if_neg c10] at H
      exact absurd H (by simp)
    ·rw [if_neg c9] at H
     exact absurd H (by simp)

end Go.Proofs.Ytaalmkkekbhpnaa.PRa
