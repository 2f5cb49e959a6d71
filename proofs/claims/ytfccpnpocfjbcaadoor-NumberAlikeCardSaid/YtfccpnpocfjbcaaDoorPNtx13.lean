-- Written by a program of this session (wip/p2) out of the translation; Lean checks it.
import Derived.Test.YtfccpnpocfjbcaaDoorPNtx0
import Derived.Test.YtfccpnpocfjbcaaDoorPNtx6
import Derived.Test.YtfccpnpocfjbcaaDoorPNtx8
import Derived.Test.YtfccpnpocfjbcaaDoorPNtx9
namespace Go.Proofs.YtfccpnpocfjbcaaDoor.PNt
open Go.RowKit Go.Proofs.YtfccpnpocfjbcaaDoorW.PrintWords Go.Proofs.YtfccpnpocfjbcaaDoorW.PrintLast Go.Proofs.YtfccpnpocfjbcaaDoorW.PrintMore
attribute [local go_sem] max2_int min2_int max_two min_two max_three min_three max_four min_four   -- for this text's walks alone
set_option linter.unusedVariables false
set_option linter.unusedSimpArgs false
open Go.Proofs.YtfccpnpocfjbcaaDoor.Opn Go.Proofs.YtfccpnpocfjbcaaDoor.Giv

/-! ### parterrelaw02_NumberAlike: function 7 -/
mutual
def parterrelaw02_NumberAlike.j0 : Nat → Int → Int → Int → Bool → Option (Bool)
  | 0, _, _, _, _ => none
  | k + 1, x0, x7, x8, x34 => if x34 = true then ((parterrelaw02_lives.f k).bind fun t169 => (some t169)) else (parterrelaw02_NumberAlike.l0 k x0 x7 x8 (⟨#[]⟩ : ByteArray) x8 0)
def parterrelaw02_NumberAlike.l0 : Nat → Int → Int → Int → ByteArray → Int → Int → Option (Bool)
  | 0, _, _, _, _, _, _ => none
  | k + 1, x0, x7, x8, x9, x36, x37 => if x37 < x36 then (if x9.size + 1 ≤ 9223372036854775807 then (parterrelaw02_NumberAlike.l0 k x0 x7 x8 (x9 ++ (⟨#[48]⟩ : ByteArray)) x36 (wrap64 (x37 + 1))) else (none)) else ((number_Text.f k x0 1).bind fun t170 => ((number_Value.f k t170 x7).bind fun bt171 => (if x9.size + t170.size ≤ 9223372036854775807 then (if t170.size + 2 ≤ 9223372036854775807 then (if (t170 ++ (⟨#[46, 48]⟩ : ByteArray)).size + x9.size ≤ 9223372036854775807 then (if 1 + t170.size ≤ 9223372036854775807 then (if t170.size + x9.size ≤ 9223372036854775807 then (if (t170 ++ x9).size + 2 ≤ 9223372036854775807 then ((number_Text.f k x8 1).bind fun t173 => (if ((t170 ++ x9) ++ (⟨#[101, 45]⟩ : ByteArray)).size + t173.size ≤ 9223372036854775807 then (if x9.size + 1 ≤ 9223372036854775807 then (if (x9 ++ (⟨#[46]⟩ : ByteArray)).size + x9.size ≤ 9223372036854775807 then (if ((x9 ++ (⟨#[46]⟩ : ByteArray)) ++ x9).size + t170.size ≤ 9223372036854775807 then (if (((x9 ++ (⟨#[46]⟩ : ByteArray)) ++ x9) ++ t170).size + 1 ≤ 9223372036854775807 then ((number_Text.f k (wrap64 (x8 + (t170.size : Int))) 1).bind fun t174 => (if ((((x9 ++ (⟨#[46]⟩ : ByteArray)) ++ x9) ++ t170) ++ (⟨#[69]⟩ : ByteArray)).size + t174.size ≤ 9223372036854775807 then (if (t170 ++ (⟨#[101, 48]⟩ : ByteArray)).size + x9.size ≤ 9223372036854775807 then ((some (([x9 ++ t170, (t170 ++ (⟨#[46, 48]⟩ : ByteArray)) ++ x9, (⟨#[43]⟩ : ByteArray) ++ t170, ((t170 ++ x9) ++ (⟨#[101, 45]⟩ : ByteArray)) ++ t173, ((((x9 ++ (⟨#[46]⟩ : ByteArray)) ++ x9) ++ t170) ++ (⟨#[69]⟩ : ByteArray)) ++ t174, (t170 ++ (⟨#[101, 48]⟩ : ByteArray)) ++ x9] : List ByteArray) : List ByteArray)).bind fun y175 => (parterrelaw02_NumberAlike.l1 k x7 t170 bt171.1 bt171.2 y175 (y175.length : Int) 0)) else (none)) else (none))) else (none)) else (none)) else (none)) else (none)) else (none))) else (none)) else (none)) else (none)) else (none)) else (none)) else (none))))
def parterrelaw02_NumberAlike.l1 : Nat → Int → ByteArray → Int → Int → List ByteArray → Int → Int → Option (Bool)
  | 0, _, _, _, _, _, _, _ => none
  | k + 1, x7, x10, x11, x12, x83, x84, x85 => if x85 < x84 then (if 0 ≤ x85 then (if x85 < (x83.length : Int) then ((number_Value.f k (rdOf ByteArray.empty x83 x85) x7).bind fun bt179 => (if x12 = bt179.2 then (if bt179.1 = x11 then (parterrelaw02_NumberAlike.l1 k x7 x10 x11 x12 x83 x84 (wrap64 (x85 + 1))) else (some false)) else (some false))) else (none)) else (none)) else (if 1 + x10.size ≤ 9223372036854775807 then ((number_Value.f k ((⟨#[45]⟩ : ByteArray) ++ x10) x7).bind fun bt181 => (if x12 = bt181.2 then (if bt181.1 = (wrap64 (-x11)) then ((parterrelaw02_lives.f k).bind fun t183 => (some t183)) else (some false)) else (some false))) else (none))
def parterrelaw02_NumberAlike.j3 : Nat → Int → Int → Int → Bool → Option (Bool)
  | 0, _, _, _, _ => none
  | k + 1, x0, x7, x8, x34 => if x34 = true then ((parterrelaw02_lives.f k).bind fun t184 => (some t184)) else (parterrelaw02_NumberAlike.l0 k x0 x7 x8 (⟨#[]⟩ : ByteArray) x8 0)
def parterrelaw02_NumberAlike.j4 : Nat → Int → Int → Int → Bool → Option (Bool)
  | 0, _, _, _, _ => none
  | k + 1, x0, x7, x8, x34 => if x34 = true then ((parterrelaw02_lives.f k).bind fun t185 => (some t185)) else (parterrelaw02_NumberAlike.l0 k x0 x7 x8 (⟨#[]⟩ : ByteArray) x8 0)
end
def parterrelaw02_NumberAlike.f (k : Nat) (a0 : Int) (a1 : Int) (a2 : Int) : Option (Bool) := if (wrap64 (Int.tmod (IntKind.u64.wrap (a2)) 3)) = 0 then (if a0 < 0 then (parterrelaw02_NumberAlike.j0 k a0 1 (wrap64 (Int.tmod (IntKind.u64.wrap (a1)) 20)) true) else (parterrelaw02_NumberAlike.j0 k a0 1 (wrap64 (Int.tmod (IntKind.u64.wrap (a1)) 20)) (decide (a0 > 1000000)))) else (if (wrap64 (Int.tmod (IntKind.u64.wrap (a2)) 3)) = 1 then (if a0 < 0 then (parterrelaw02_NumberAlike.j3 k a0 64 (wrap64 (Int.tmod (IntKind.u64.wrap (a1)) 20)) true) else (parterrelaw02_NumberAlike.j3 k a0 64 (wrap64 (Int.tmod (IntKind.u64.wrap (a1)) 20)) (decide (a0 > 1000000)))) else (if (wrap64 (Int.tmod (IntKind.u64.wrap (a2)) 3)) = 2 then (if a0 < 0 then (parterrelaw02_NumberAlike.j4 k a0 1000 (wrap64 (Int.tmod (IntKind.u64.wrap (a1)) 20)) true) else (parterrelaw02_NumberAlike.j4 k a0 1000 (wrap64 (Int.tmod (IntKind.u64.wrap (a1)) 20)) (decide (a0 > 1000000)))) else (none)))
theorem parterrelaw02_NumberAlike.mono_l : ∀ k, (∀ y0 y1 y2 y3, LeO (parterrelaw02_NumberAlike.j0 k y0 y1 y2 y3) (parterrelaw02_NumberAlike.j0 (k + 1) y0 y1 y2 y3)) ∧ (∀ y0 y1 y2 y3 y4 y5, LeO (parterrelaw02_NumberAlike.l0 k y0 y1 y2 y3 y4 y5) (parterrelaw02_NumberAlike.l0 (k + 1) y0 y1 y2 y3 y4 y5)) ∧ (∀ y0 y1 y2 y3 y4 y5 y6, LeO (parterrelaw02_NumberAlike.l1 k y0 y1 y2 y3 y4 y5 y6) (parterrelaw02_NumberAlike.l1 (k + 1) y0 y1 y2 y3 y4 y5 y6)) ∧ (∀ y0 y1 y2 y3, LeO (parterrelaw02_NumberAlike.j3 k y0 y1 y2 y3) (parterrelaw02_NumberAlike.j3 (k + 1) y0 y1 y2 y3)) ∧ (∀ y0 y1 y2 y3, LeO (parterrelaw02_NumberAlike.j4 k y0 y1 y2 y3) (parterrelaw02_NumberAlike.j4 (k + 1) y0 y1 y2 y3))
  | 0 => ⟨fun _ _ _ _ r h => by simp [parterrelaw02_NumberAlike.j0] at h, fun _ _ _ _ _ _ r h => by simp [parterrelaw02_NumberAlike.l0] at h, fun _ _ _ _ _ _ _ r h => by simp [parterrelaw02_NumberAlike.l1] at h, fun _ _ _ _ r h => by simp [parterrelaw02_NumberAlike.j3] at h, fun _ _ _ _ r h => by simp [parterrelaw02_NumberAlike.j4] at h⟩
  | k + 1 => by
    obtain ⟨ih0, ih1, ih2, ih3, ih4⟩ := parterrelaw02_NumberAlike.mono_l k
    refine ⟨?_, ?_, ?_, ?_, ?_⟩
    · intro y0 y1 y2 y3
      unfold parterrelaw02_NumberAlike.j0
      repeat' first
      | (with_reducible exact ih0 _ _ _ _)
      | (with_reducible exact ih1 _ _ _ _ _ _)
      | (with_reducible exact ih2 _ _ _ _ _ _ _)
      | (with_reducible exact ih3 _ _ _ _)
      | (with_reducible exact ih4 _ _ _ _)
      | (with_reducible exact number_Text.mono _ _ _)
      | (with_reducible exact number_Value.mono _ _ _)
      | (with_reducible exact parterrelaw02_lives.mono _)
      | (with_reducible exact LeO.refl _)
      | (with_reducible exact LeO.none _)
      | (with_reducible refine LeO.ite ?_ ?_)
      | (with_reducible refine LeO.bind ?_ (fun _ => ?_))
      | exact ih0 _ _ _ _
      | exact ih1 _ _ _ _ _ _
      | exact ih2 _ _ _ _ _ _ _
      | exact ih3 _ _ _ _
      | exact ih4 _ _ _ _
      | exact number_Text.mono _ _ _
      | exact number_Value.mono _ _ _
      | exact parterrelaw02_lives.mono _
      | exact LeO.none _
      | refine LeO.ite ?_ ?_
      | refine LeO.bind ?_ (fun _ => ?_)
    · intro y0 y1 y2 y3 y4 y5
      unfold parterrelaw02_NumberAlike.l0
      repeat' first
      | (with_reducible exact ih0 _ _ _ _)
      | (with_reducible exact ih1 _ _ _ _ _ _)
      | (with_reducible exact ih2 _ _ _ _ _ _ _)
      | (with_reducible exact ih3 _ _ _ _)
      | (with_reducible exact ih4 _ _ _ _)
      | (with_reducible exact number_Text.mono _ _ _)
      | (with_reducible exact number_Value.mono _ _ _)
      | (with_reducible exact parterrelaw02_lives.mono _)
      | (with_reducible exact LeO.refl _)
      | (with_reducible exact LeO.none _)
      | (with_reducible refine LeO.ite ?_ ?_)
      | (with_reducible refine LeO.bind ?_ (fun _ => ?_))
      | exact ih0 _ _ _ _
      | exact ih1 _ _ _ _ _ _
      | exact ih2 _ _ _ _ _ _ _
      | exact ih3 _ _ _ _
      | exact ih4 _ _ _ _
      | exact number_Text.mono _ _ _
      | exact number_Value.mono _ _ _
      | exact parterrelaw02_lives.mono _
      | exact LeO.none _
      | refine LeO.ite ?_ ?_
      | refine LeO.bind ?_ (fun _ => ?_)
    · intro y0 y1 y2 y3 y4 y5 y6
      unfold parterrelaw02_NumberAlike.l1
      repeat' first
      | (with_reducible exact ih0 _ _ _ _)
      | (with_reducible exact ih1 _ _ _ _ _ _)
      | (with_reducible exact ih2 _ _ _ _ _ _ _)
      | (with_reducible exact ih3 _ _ _ _)
      | (with_reducible exact ih4 _ _ _ _)
      | (with_reducible exact number_Text.mono _ _ _)
      | (with_reducible exact number_Value.mono _ _ _)
      | (with_reducible exact parterrelaw02_lives.mono _)
      | (with_reducible exact LeO.refl _)
      | (with_reducible exact LeO.none _)
      | (with_reducible refine LeO.ite ?_ ?_)
      | (with_reducible refine LeO.bind ?_ (fun _ => ?_))
      | exact ih0 _ _ _ _
      | exact ih1 _ _ _ _ _ _
      | exact ih2 _ _ _ _ _ _ _
      | exact ih3 _ _ _ _
      | exact ih4 _ _ _ _
      | exact number_Text.mono _ _ _
      | exact number_Value.mono _ _ _
      | exact parterrelaw02_lives.mono _
      | exact LeO.none _
      | refine LeO.ite ?_ ?_
      | refine LeO.bind ?_ (fun _ => ?_)
    · intro y0 y1 y2 y3
      unfold parterrelaw02_NumberAlike.j3
      repeat' first
      | (with_reducible exact ih0 _ _ _ _)
      | (with_reducible exact ih1 _ _ _ _ _ _)
      | (with_reducible exact ih2 _ _ _ _ _ _ _)
      | (with_reducible exact ih3 _ _ _ _)
      | (with_reducible exact ih4 _ _ _ _)
      | (with_reducible exact number_Text.mono _ _ _)
      | (with_reducible exact number_Value.mono _ _ _)
      | (with_reducible exact parterrelaw02_lives.mono _)
      | (with_reducible exact LeO.refl _)
      | (with_reducible exact LeO.none _)
      | (with_reducible refine LeO.ite ?_ ?_)
      | (with_reducible refine LeO.bind ?_ (fun _ => ?_))
      | exact ih0 _ _ _ _
      | exact ih1 _ _ _ _ _ _
      | exact ih2 _ _ _ _ _ _ _
      | exact ih3 _ _ _ _
      | exact ih4 _ _ _ _
      | exact number_Text.mono _ _ _
      | exact number_Value.mono _ _ _
      | exact parterrelaw02_lives.mono _
      | exact LeO.none _
      | refine LeO.ite ?_ ?_
      | refine LeO.bind ?_ (fun _ => ?_)
    · intro y0 y1 y2 y3
      unfold parterrelaw02_NumberAlike.j4
      repeat' first
      | (with_reducible exact ih0 _ _ _ _)
      | (with_reducible exact ih1 _ _ _ _ _ _)
      | (with_reducible exact ih2 _ _ _ _ _ _ _)
      | (with_reducible exact ih3 _ _ _ _)
      | (with_reducible exact ih4 _ _ _ _)
      | (with_reducible exact number_Text.mono _ _ _)
      | (with_reducible exact number_Value.mono _ _ _)
      | (with_reducible exact parterrelaw02_lives.mono _)
      | (with_reducible exact LeO.refl _)
      | (with_reducible exact LeO.none _)
      | (with_reducible refine LeO.ite ?_ ?_)
      | (with_reducible refine LeO.bind ?_ (fun _ => ?_))
      | exact ih0 _ _ _ _
      | exact ih1 _ _ _ _ _ _
      | exact ih2 _ _ _ _ _ _ _
      | exact ih3 _ _ _ _
      | exact ih4 _ _ _ _
      | exact number_Text.mono _ _ _
      | exact number_Value.mono _ _ _
      | exact parterrelaw02_lives.mono _
      | exact LeO.none _
      | refine LeO.ite ?_ ?_
      | refine LeO.bind ?_ (fun _ => ?_)
theorem parterrelaw02_NumberAlike.mono : ∀ a0 a1 a2 k, LeO (parterrelaw02_NumberAlike.f k a0 a1 a2) (parterrelaw02_NumberAlike.f (k + 1) a0 a1 a2) := by
  intro a0 a1 a2 k
  obtain ⟨ih0, ih1, ih2, ih3, ih4⟩ := parterrelaw02_NumberAlike.mono_l k
  unfold parterrelaw02_NumberAlike.f
  repeat' first
      | (with_reducible exact ih0 _ _ _ _)
      | (with_reducible exact ih1 _ _ _ _ _ _)
      | (with_reducible exact ih2 _ _ _ _ _ _ _)
      | (with_reducible exact ih3 _ _ _ _)
      | (with_reducible exact ih4 _ _ _ _)
      | (with_reducible exact number_Text.mono _ _ _)
      | (with_reducible exact number_Value.mono _ _ _)
      | (with_reducible exact parterrelaw02_lives.mono _)
      | (with_reducible exact LeO.refl _)
      | (with_reducible exact LeO.none _)
      | (with_reducible refine LeO.ite ?_ ?_)
      | (with_reducible refine LeO.bind ?_ (fun _ => ?_))
      | exact ih0 _ _ _ _
      | exact ih1 _ _ _ _ _ _
      | exact ih2 _ _ _ _ _ _ _
      | exact ih3 _ _ _ _
      | exact ih4 _ _ _ _
      | exact number_Text.mono _ _ _
      | exact number_Value.mono _ _ _
      | exact parterrelaw02_lives.mono _
      | exact LeO.none _
      | refine LeO.ite ?_ ?_
      | refine LeO.bind ?_ (fun _ => ?_)
set_option maxHeartbeats 8000000 in
set_option maxRecDepth 100000 in
theorem parterrelaw02_NumberAlike.calls (k : Nat) (a0 : Int) (a1 : Int) (a2 : Int) (r : Bool) (w : World) (h : parterrelaw02_NumberAlike.f k a0 a1 a2 = some r) (htab : Tbl.Tab0 w) :
    Calls Tryd.prog 7 #[.int .i64 a0, .int .i64 a1, .int .i64 a2] w fun e w' => e = .returned (.bool r) ∧ Below w.heap.size w w' := by
  have HTB := Aside0.mk htab
  clear htab
  have hu33 := Tryd.underlying33
  have HB := Aside0.mk (Below.refl w.heap.size w)
  have H : (if (wrap64 (Int.tmod (IntKind.u64.wrap (a2)) 3)) = 0 then (if a0 < 0 then (parterrelaw02_NumberAlike.j0 k a0 1 (wrap64 (Int.tmod (IntKind.u64.wrap (a1)) 20)) true) else (parterrelaw02_NumberAlike.j0 k a0 1 (wrap64 (Int.tmod (IntKind.u64.wrap (a1)) 20)) (decide (a0 > 1000000)))) else (if (wrap64 (Int.tmod (IntKind.u64.wrap (a2)) 3)) = 1 then (if a0 < 0 then (parterrelaw02_NumberAlike.j3 k a0 64 (wrap64 (Int.tmod (IntKind.u64.wrap (a1)) 20)) true) else (parterrelaw02_NumberAlike.j3 k a0 64 (wrap64 (Int.tmod (IntKind.u64.wrap (a1)) 20)) (decide (a0 > 1000000)))) else (if (wrap64 (Int.tmod (IntKind.u64.wrap (a2)) 3)) = 2 then (if a0 < 0 then (parterrelaw02_NumberAlike.j4 k a0 1000 (wrap64 (Int.tmod (IntKind.u64.wrap (a1)) 20)) true) else (parterrelaw02_NumberAlike.j4 k a0 1000 (wrap64 (Int.tmod (IntKind.u64.wrap (a1)) 20)) (decide (a0 > 1000000)))) else (none)))) = some r := h
  clear h
  by_cases c4 : (wrap64 (Int.tmod (IntKind.u64.wrap (a2)) 3)) = 0
  · rw [if_pos c4] at H
    have c4b0 : ((wrap64 (Int.tmod (IntKind.u64.wrap (a2)) 3)) == 0) = true := beq_iff_eq.mpr c4
    have c4b1 : ((wrap64 (Int.tmod (IntKind.u64.wrap (a2)) 3)) != 0) = false := bne_eq_false_iff_eq.mpr c4
    clear c4
    have HC6 := Aside0.mk H
    clear H
    have hix5 : ∀ W : World, (Instr.index 33 (.agg #[.int .i64 1, .int .i64 64, .int .i64 1000]) (.int .i64 (wrap64 (Int.tmod (IntKind.u64.wrap (a2)) 3)))).run Tryd.prog W = .ok (.int .i64 1) W := (by intro W; have hj_ : (wrap64 (Int.tmod (IntKind.u64.wrap (a2)) 3)) = 0 := beq_iff_eq.1 (by assumption); rw [hj_]; simp [go_sem, Tryd.underlying33, Tryd.sizeOf3, Instr.index])
    go_enter Tryd.func7, Tryd.ntmps7
    go_upto_region 3 with (fail)
    go_cut [34] (fun v34 wc => ∃ (kq : Nat) (x34_5 : Bool), v34 = .bool x34_5 ∧ Aside0 (parterrelaw02_NumberAlike.j0 kq a0 1 (wrap64 (Int.tmod (IntKind.u64.wrap (a1)) 20)) x34_5 = some r) ∧ Aside0 (kq ≤ k) ∧ Aside0 (Below w.heap.size w wc))
    case first =>
      have H := HC6.out
      clear HC6
      by_cases c7 : a0 < 0
      · rw [if_pos c7] at H
        have c7b0 : decide (a0 < 0) = true := decide_eq_true c7
        clear c7
        (first | rw [c7b0] | (simp only [i64_w, i32_w]; rw [c7b0]) | skip)
        have H' := Aside0.mk H
        clear H
        go_wp2
        go_meet
        case rel => exact ⟨_, (true), (by first | rfl | (simp; done) | (simp [*]; done)), (by first | exact H' | (subst_vars; exact H')), ⟨by first | omega | exact Nat.le_refl _⟩, ⟨by repeat (first | (with_reducible first | exact HB.out | apply below_alloc | apply pw_below_drewN | apply below_drew1) | exact HB.out)⟩⟩
      · rw [if_neg c7] at H
        have c7b0 : decide (a0 < 0) = false := decide_eq_false c7
        clear c7
        (first | rw [c7b0] | (simp only [i64_w, i32_w]; rw [c7b0]) | skip)
        have H' := Aside0.mk H
        clear H
        go_wp2
        go_meet
        case rel => exact ⟨_, (decide (a0 > 1000000)), (by first | rfl | (simp; done) | (simp [*]; done)), (by first | exact H' | (subst_vars; exact H')), ⟨by first | omega | exact Nat.le_refl _⟩, ⟨by repeat (first | (with_reducible first | exact HB.out | apply below_alloc | apply pw_below_drewN | apply below_drew1) | exact HB.out)⟩⟩
    case rest =>
      clear HC6
      try clear p2
      try clear c4
      try clear c4b0
      try clear c4b1
      try clear p6
      try clear c7
      try clear c7b0
      obtain ⟨kq, x34_5, rfl, HA, HJ5, HB⟩ := hcut
      cases kq with
      | zero => exact absurd HA.out (by simp [parterrelaw02_NumberAlike.j0])
      | succ kj5 =>
        have H := HA.out
        clear HA
        simp only [parterrelaw02_NumberAlike.j0] at H
        by_cases c8 : x34_5 = true
        · subst c8
          have H1 : ((parterrelaw02_lives.f kj5).bind fun t169 => (some t169)) = some r := by rw [if_pos rfl] at H; exact H
          clear H
          have H := H1
          clear H1
          replace H := Option.bind_eq_some_iff.mp H
          obtain ⟨t169, A90, H⟩ := H
          replace H : (some t169) = some r := H
          have A9 := Aside0.mk A90
          clear A90
          obtain rfl := Option.some.inj H
          go_wp2_with (first | ((with_reducible refine gate_callee (f := 10) rfl ?_); refine goesL_ (some 35) rfl rfl Tryd.func10 (by kernel_rfl) rfl #[] rfl (by (try simp only [List.map_toArray, List.map_cons, List.map_nil]); first | done | rfl | (simp only [List.length_drop, List.length_take]; rfl)) ?_; (with_reducible refine (parterrelaw02_lives.calls kj5  t169 _ A9.out (Tbl.tab0_stays HTB.out (by repeat (first | (with_reducible first | exact HB.out | apply below_alloc | apply pw_below_drewN | apply below_drew1) | exact HB.out)))).mono ?_); rintro e w10 ⟨rfl, hb⟩; refine ⟨_, rfl, ?_⟩; have n0_ := Aside0.mk (below_step (by repeat (first | (with_reducible first | exact HB.out | apply below_alloc | apply pw_below_drewN | apply below_drew1) | exact HB.out)) hb); clear HB; have HB := n0_; clear n0_; (try clear hb); (try clear hb2); (try clear hk); (try clear hi)))
          go_ret
          exact ⟨by first | rfl | (simp [errW_none, errW_some] <;> rfl) | (simp [*, errW_none, errW_some] <;> rfl), by repeat (first | (with_reducible first | exact HB.out | apply below_alloc | apply pw_below_drewN | apply below_drew1) | exact HB.out)⟩
        · replace c8 := Bool.eq_false_iff.mpr c8
          subst c8
          have H1 : (parterrelaw02_NumberAlike.l0 kj5 a0 1 (wrap64 (Int.tmod (IntKind.u64.wrap (a1)) 20)) (⟨#[]⟩ : ByteArray) (wrap64 (Int.tmod (IntKind.u64.wrap (a1)) 20)) 0) = some r := by rw [if_neg (show ¬ (false = true) by decide)] at H; exact H
          clear H
          have H := H1
          clear H1
          have H' := Aside0.mk H
          clear H
          go_wp2
          go_loopg [9, 37] kj5 (fun kq v9 v37 w' => ∃ (x9_2 : ByteArray) (x37_2 : Int), v9 = .string x9_2 ∧ v37 = .int .i64 x37_2 ∧ Aside0 (parterrelaw02_NumberAlike.l0 kq a0 1 (wrap64 (Int.tmod (IntKind.u64.wrap (a1)) 20)) x9_2 (wrap64 (Int.tmod (IntKind.u64.wrap (a1)) 20)) x37_2 = some r) ∧ Aside0 (kq ≤ kj5) ∧ Aside0 (Below w.heap.size w w'))
          case atStart => exact ⟨((⟨#[]⟩ : ByteArray)), (0), (by first | rfl | (simp; done) | (simp [*]; done)), (by first | rfl | (simp; done) | (simp [*]; done)), H', ⟨Nat.le_refl _⟩, ⟨by repeat (first | (with_reducible first | exact HB.out | apply below_alloc | apply pw_below_drewN | apply below_drew1) | exact HB.out)⟩⟩
          case round =>
            clear H'
            try clear c1
            try clear p2
            try clear c4
            try clear c4b0
            try clear c4b1
            try clear p6
            try clear c7
            try clear c7b0
            try clear c8
            try clear c10
            try clear p2
            try clear p6
            obtain ⟨x9_2, x37_2, rfl, rfl, HA, HK2, HB⟩ := hrel
            cases gk with
            | zero => exact absurd HA.out (by simp [parterrelaw02_NumberAlike.l0])
            | succ k2 =>
              have H := HA.out
              clear HA
              simp only [parterrelaw02_NumberAlike.l0] at H
              by_cases c11 : x37_2 < (wrap64 (Int.tmod (IntKind.u64.wrap (a1)) 20))
              · rw [if_pos c11] at H
                have c11b0 : decide (x37_2 < (wrap64 (Int.tmod (IntKind.u64.wrap (a1)) 20))) = true := decide_eq_true c11
                clear c11
                by_cases c12 : x9_2.size + 1 ≤ 9223372036854775807
                · rw [if_pos c12] at H
                  have c12b0 := eq_true c12
                  have c12b1 : decide (x9_2.size + 1 ≤ 9223372036854775807) = true := decide_eq_true c12
                  try have c12b2 : (9223372036854775807 < x9_2.size + 1) = False := eq_false (Nat.not_lt.2 c12)
                  have H' := Aside0.mk H
                  clear H
                  go_wp2
                  go_roundg k2
                  case measure => have := HJ5.out; have := HK2.out; omega
                  case rel => exact ⟨(x9_2 ++ (⟨#[48]⟩ : ByteArray)), (wrap64 (x37_2 + 1)), (by first | rfl | (simp; done) | (simp [*]; done)), (by first | rfl | (simp; done) | (simp [*]; done)), H', ⟨by have := HJ5.out; have := HK2.out; omega⟩, ⟨by repeat (first | (with_reducible first | exact HB.out | apply below_alloc | apply pw_below_drewN | apply below_drew1) | exact HB.out)⟩⟩
                · rw [if_neg c12] at H
                  exact absurd H (by simp)
              · rw [if_neg c11] at H
                have c11b0 : decide (x37_2 < (wrap64 (Int.tmod (IntKind.u64.wrap (a1)) 20))) = false := decide_eq_false c11
                clear c11
                replace H := Option.bind_eq_some_iff.mp H
                obtain ⟨t170, A130, H⟩ := H
                replace H : ((number_Value.f k2 t170 1).bind fun bt171 => (if x9_2.size + t170.size ≤ 9223372036854775807 then (if t170.size + 2 ≤ 9223372036854775807 then (if (t170 ++ (⟨#[46, 48]⟩ : ByteArray)).size + x9_2.size ≤ 9223372036854775807 then (if 1 + t170.size ≤ 9223372036854775807 then (if t170.size + x9_2.size ≤ 9223372036854775807 then (if (t170 ++ x9_2).size + 2 ≤ 9223372036854775807 then ((number_Text.f k2 (wrap64 (Int.tmod (IntKind.u64.wrap (a1)) 20)) 1).bind fun t173 => (if ((t170 ++ x9_2) ++ (⟨#[101, 45]⟩ : ByteArray)).size + t173.size ≤ 9223372036854775807 then (if x9_2.size + 1 ≤ 9223372036854775807 then (if (x9_2 ++ (⟨#[46]⟩ : ByteArray)).size + x9_2.size ≤ 9223372036854775807 then (if ((x9_2 ++ (⟨#[46]⟩ : ByteArray)) ++ x9_2).size + t170.size ≤ 9223372036854775807 then (if (((x9_2 ++ (⟨#[46]⟩ : ByteArray)) ++ x9_2) ++ t170).size + 1 ≤ 9223372036854775807 then ((number_Text.f k2 (wrap64 ((wrap64 (Int.tmod (IntKind.u64.wrap (a1)) 20)) + (t170.size : Int))) 1).bind fun t174 => (if ((((x9_2 ++ (⟨#[46]⟩ : ByteArray)) ++ x9_2) ++ t170) ++ (⟨#[69]⟩ : ByteArray)).size + t174.size ≤ 9223372036854775807 then (if (t170 ++ (⟨#[101, 48]⟩ : ByteArray)).size + x9_2.size ≤ 9223372036854775807 then ((some (([x9_2 ++ t170, (t170 ++ (⟨#[46, 48]⟩ : ByteArray)) ++ x9_2, (⟨#[43]⟩ : ByteArray) ++ t170, ((t170 ++ x9_2) ++ (⟨#[101, 45]⟩ : ByteArray)) ++ t173, ((((x9_2 ++ (⟨#[46]⟩ : ByteArray)) ++ x9_2) ++ t170) ++ (⟨#[69]⟩ : ByteArray)) ++ t174, (t170 ++ (⟨#[101, 48]⟩ : ByteArray)) ++ x9_2] : List ByteArray) : List ByteArray)).bind fun y175 => (parterrelaw02_NumberAlike.l1 k2 1 t170 bt171.1 bt171.2 y175 (y175.length : Int) 0)) else (none)) else (none))) else (none)) else (none)) else (none)) else (none)) else (none))) else (none)) else (none)) else (none)) else (none)) else (none)) else (none))) = some r := H
                have A13 := Aside0.mk A130
                clear A130
                replace H := Option.bind_eq_some_iff.mp H
                obtain ⟨⟨t171, t172⟩, A140, H⟩ := H
                replace H : (if x9_2.size + t170.size ≤ 9223372036854775807 then (if t170.size + 2 ≤ 9223372036854775807 then (if (t170 ++ (⟨#[46, 48]⟩ : ByteArray)).size + x9_2.size ≤ 9223372036854775807 then (if 1 + t170.size ≤ 9223372036854775807 then (if t170.size + x9_2.size ≤ 9223372036854775807 then (if (t170 ++ x9_2).size + 2 ≤ 9223372036854775807 then ((number_Text.f k2 (wrap64 (Int.tmod (IntKind.u64.wrap (a1)) 20)) 1).bind fun t173 => (if ((t170 ++ x9_2) ++ (⟨#[101, 45]⟩ : ByteArray)).size + t173.size ≤ 9223372036854775807 then (if x9_2.size + 1 ≤ 9223372036854775807 then (if (x9_2 ++ (⟨#[46]⟩ : ByteArray)).size + x9_2.size ≤ 9223372036854775807 then (if ((x9_2 ++ (⟨#[46]⟩ : ByteArray)) ++ x9_2).size + t170.size ≤ 9223372036854775807 then (if (((x9_2 ++ (⟨#[46]⟩ : ByteArray)) ++ x9_2) ++ t170).size + 1 ≤ 9223372036854775807 then ((number_Text.f k2 (wrap64 ((wrap64 (Int.tmod (IntKind.u64.wrap (a1)) 20)) + (t170.size : Int))) 1).bind fun t174 => (if ((((x9_2 ++ (⟨#[46]⟩ : ByteArray)) ++ x9_2) ++ t170) ++ (⟨#[69]⟩ : ByteArray)).size + t174.size ≤ 9223372036854775807 then (if (t170 ++ (⟨#[101, 48]⟩ : ByteArray)).size + x9_2.size ≤ 9223372036854775807 then ((some (([x9_2 ++ t170, (t170 ++ (⟨#[46, 48]⟩ : ByteArray)) ++ x9_2, (⟨#[43]⟩ : ByteArray) ++ t170, ((t170 ++ x9_2) ++ (⟨#[101, 45]⟩ : ByteArray)) ++ t173, ((((x9_2 ++ (⟨#[46]⟩ : ByteArray)) ++ x9_2) ++ t170) ++ (⟨#[69]⟩ : ByteArray)) ++ t174, (t170 ++ (⟨#[101, 48]⟩ : ByteArray)) ++ x9_2] : List ByteArray) : List ByteArray)).bind fun y175 => (parterrelaw02_NumberAlike.l1 k2 1 t170 t171 t172 y175 (y175.length : Int) 0)) else (none)) else (none))) else (none)) else (none)) else (none)) else (none)) else (none))) else (none)) else (none)) else (none)) else (none)) else (none)) else (none)) = some r := H
                have A14 := Aside0.mk A140
                clear A140
                by_cases c15 : x9_2.size + t170.size ≤ 9223372036854775807
                · rw [if_pos c15] at H
                  have c15b0 := eq_true c15
                  have c15b1 : decide (x9_2.size + t170.size ≤ 9223372036854775807) = true := decide_eq_true c15
                  try have c15b2 : (9223372036854775807 < x9_2.size + t170.size) = False := eq_false (Nat.not_lt.2 c15)
                  by_cases c16 : t170.size + 2 ≤ 9223372036854775807
                  · rw [if_pos c16] at H
                    have c16b0 := eq_true c16
                    have c16b1 : decide (t170.size + 2 ≤ 9223372036854775807) = true := decide_eq_true c16
                    try have c16b2 : (9223372036854775807 < t170.size + 2) = False := eq_false (Nat.not_lt.2 c16)
                    by_cases c17 : (t170 ++ (⟨#[46, 48]⟩ : ByteArray)).size + x9_2.size ≤ 9223372036854775807
                    · rw [if_pos c17] at H
                      have c17b0 := eq_true c17
                      have c17b1 : decide ((t170 ++ (⟨#[46, 48]⟩ : ByteArray)).size + x9_2.size ≤ 9223372036854775807) = true := decide_eq_true c17
                      try have c17b2 : (9223372036854775807 < (t170 ++ (⟨#[46, 48]⟩ : ByteArray)).size + x9_2.size) = False := eq_false (Nat.not_lt.2 c17)
                      try have c17b3 : (9223372036854775807 < t170.size + 2 + x9_2.size) = False := eq_false (Nat.not_lt.2 (by have h_ := c17; simp only [ByteArray.size_append] at h_; exact h_))
                      by_cases c18 : 1 + t170.size ≤ 9223372036854775807
                      · rw [if_pos c18] at H
                        have c18b0 := eq_true c18
                        have c18b1 : decide (1 + t170.size ≤ 9223372036854775807) = true := decide_eq_true c18
                        try have c18b2 : (9223372036854775807 < 1 + t170.size) = False := eq_false (Nat.not_lt.2 c18)
                        by_cases c19 : t170.size + x9_2.size ≤ 9223372036854775807
                        · rw [if_pos c19] at H
                          have c19b0 := eq_true c19
                          have c19b1 : decide (t170.size + x9_2.size ≤ 9223372036854775807) = true := decide_eq_true c19
                          try have c19b2 : (9223372036854775807 < t170.size + x9_2.size) = False := eq_false (Nat.not_lt.2 c19)
                          by_cases c20 : (t170 ++ x9_2).size + 2 ≤ 9223372036854775807
                          · rw [if_pos c20] at H
                            have c20b0 := eq_true c20
                            have c20b1 : decide ((t170 ++ x9_2).size + 2 ≤ 9223372036854775807) = true := decide_eq_true c20
                            try have c20b2 : (9223372036854775807 < (t170 ++ x9_2).size + 2) = False := eq_false (Nat.not_lt.2 c20)
                            try have c20b3 : (9223372036854775807 < t170.size + x9_2.size + 2) = False := eq_false (Nat.not_lt.2 (by rw [← ByteArray.size_append]; exact c20))
                            try have c20b3 : (9223372036854775807 < t170.size + x9_2.size + 2) = False := eq_false (Nat.not_lt.2 (by rw [← ByteArray.size_append]; exact c20))
                            replace H := Option.bind_eq_some_iff.mp H
                            obtain ⟨t173, A210, H⟩ := H
                            replace H : (if ((t170 ++ x9_2) ++ (⟨#[101, 45]⟩ : ByteArray)).size + t173.size ≤ 9223372036854775807 then (if x9_2.size + 1 ≤ 9223372036854775807 then (if (x9_2 ++ (⟨#[46]⟩ : ByteArray)).size + x9_2.size ≤ 9223372036854775807 then (if ((x9_2 ++ (⟨#[46]⟩ : ByteArray)) ++ x9_2).size + t170.size ≤ 9223372036854775807 then (if (((x9_2 ++ (⟨#[46]⟩ : ByteArray)) ++ x9_2) ++ t170).size + 1 ≤ 9223372036854775807 then ((number_Text.f k2 (wrap64 ((wrap64 (Int.tmod (IntKind.u64.wrap (a1)) 20)) + (t170.size : Int))) 1).bind fun t174 => (if ((((x9_2 ++ (⟨#[46]⟩ : ByteArray)) ++ x9_2) ++ t170) ++ (⟨#[69]⟩ : ByteArray)).size + t174.size ≤ 9223372036854775807 then (if (t170 ++ (⟨#[101, 48]⟩ : ByteArray)).size + x9_2.size ≤ 9223372036854775807 then ((some (([x9_2 ++ t170, (t170 ++ (⟨#[46, 48]⟩ : ByteArray)) ++ x9_2, (⟨#[43]⟩ : ByteArray) ++ t170, ((t170 ++ x9_2) ++ (⟨#[101, 45]⟩ : ByteArray)) ++ t173, ((((x9_2 ++ (⟨#[46]⟩ : ByteArray)) ++ x9_2) ++ t170) ++ (⟨#[69]⟩ : ByteArray)) ++ t174, (t170 ++ (⟨#[101, 48]⟩ : ByteArray)) ++ x9_2] : List ByteArray) : List ByteArray)).bind fun y175 => (parterrelaw02_NumberAlike.l1 k2 1 t170 t171 t172 y175 (y175.length : Int) 0)) else (none)) else (none))) else (none)) else (none)) else (none)) else (none)) else (none)) = some r := H
                            have A21 := Aside0.mk A210
                            clear A210
                            by_cases c22 : ((t170 ++ x9_2) ++ (⟨#[101, 45]⟩ : ByteArray)).size + t173.size ≤ 9223372036854775807
                            · rw [if_pos c22] at H
                              have c22b0 := eq_true c22
                              have c22b1 : decide (((t170 ++ x9_2) ++ (⟨#[101, 45]⟩ : ByteArray)).size + t173.size ≤ 9223372036854775807) = true := decide_eq_true c22
                              try have c22b2 : (9223372036854775807 < ((t170 ++ x9_2) ++ (⟨#[101, 45]⟩ : ByteArray)).size + t173.size) = False := eq_false (Nat.not_lt.2 c22)
                              try have c22b3 : (9223372036854775807 < t170.size + x9_2.size + 2 + t173.size) = False := eq_false (Nat.not_lt.2 (by have h_ := c22; simp only [ByteArray.size_append] at h_; exact h_))
                              by_cases c23 : x9_2.size + 1 ≤ 9223372036854775807
                              · rw [if_pos c23] at H
                                have c23b0 := eq_true c23
                                have c23b1 : decide (x9_2.size + 1 ≤ 9223372036854775807) = true := decide_eq_true c23
                                try have c23b2 : (9223372036854775807 < x9_2.size + 1) = False := eq_false (Nat.not_lt.2 c23)
                                by_cases c24 : (x9_2 ++ (⟨#[46]⟩ : ByteArray)).size + x9_2.size ≤ 9223372036854775807
                                · rw [if_pos c24] at H
                                  have c24b0 := eq_true c24
                                  have c24b1 : decide ((x9_2 ++ (⟨#[46]⟩ : ByteArray)).size + x9_2.size ≤ 9223372036854775807) = true := decide_eq_true c24
                                  try have c24b2 : (9223372036854775807 < (x9_2 ++ (⟨#[46]⟩ : ByteArray)).size + x9_2.size) = False := eq_false (Nat.not_lt.2 c24)
                                  try have c24b3 : (9223372036854775807 < x9_2.size + 1 + x9_2.size) = False := eq_false (Nat.not_lt.2 (by have h_ := c24; simp only [ByteArray.size_append] at h_; exact h_))
                                  by_cases c25 : ((x9_2 ++ (⟨#[46]⟩ : ByteArray)) ++ x9_2).size + t170.size ≤ 9223372036854775807
                                  · rw [if_pos c25] at H
                                    have c25b0 := eq_true c25
                                    have c25b1 : decide (((x9_2 ++ (⟨#[46]⟩ : ByteArray)) ++ x9_2).size + t170.size ≤ 9223372036854775807) = true := decide_eq_true c25
                                    try have c25b2 : (9223372036854775807 < ((x9_2 ++ (⟨#[46]⟩ : ByteArray)) ++ x9_2).size + t170.size) = False := eq_false (Nat.not_lt.2 c25)
                                    try have c25b3 : (9223372036854775807 < x9_2.size + 1 + x9_2.size + t170.size) = False := eq_false (Nat.not_lt.2 (by have h_ := c25; simp only [ByteArray.size_append] at h_; exact h_))
                                    by_cases c26 : (((x9_2 ++ (⟨#[46]⟩ : ByteArray)) ++ x9_2) ++ t170).size + 1 ≤ 9223372036854775807
                                    · rw [if_pos c26] at H
                                      have c26b0 := eq_true c26
                                      have c26b1 : decide ((((x9_2 ++ (⟨#[46]⟩ : ByteArray)) ++ x9_2) ++ t170).size + 1 ≤ 9223372036854775807) = true := decide_eq_true c26
                                      try have c26b2 : (9223372036854775807 < (((x9_2 ++ (⟨#[46]⟩ : ByteArray)) ++ x9_2) ++ t170).size + 1) = False := eq_false (Nat.not_lt.2 c26)
                                      try have c26b3 : (9223372036854775807 < x9_2.size + 1 + x9_2.size + t170.size + 1) = False := eq_false (Nat.not_lt.2 (by have h_ := c26; simp only [ByteArray.size_append] at h_; exact h_))
                                      replace H := Option.bind_eq_some_iff.mp H
                                      obtain ⟨t174, A270, H⟩ := H
                                      replace H : (if ((((x9_2 ++ (⟨#[46]⟩ : ByteArray)) ++ x9_2) ++ t170) ++ (⟨#[69]⟩ : ByteArray)).size + t174.size ≤ 9223372036854775807 then (if (t170 ++ (⟨#[101, 48]⟩ : ByteArray)).size + x9_2.size ≤ 9223372036854775807 then ((some (([x9_2 ++ t170, (t170 ++ (⟨#[46, 48]⟩ : ByteArray)) ++ x9_2, (⟨#[43]⟩ : ByteArray) ++ t170, ((t170 ++ x9_2) ++ (⟨#[101, 45]⟩ : ByteArray)) ++ t173, ((((x9_2 ++ (⟨#[46]⟩ : ByteArray)) ++ x9_2) ++ t170) ++ (⟨#[69]⟩ : ByteArray)) ++ t174, (t170 ++ (⟨#[101, 48]⟩ : ByteArray)) ++ x9_2] : List ByteArray) : List ByteArray)).bind fun y175 => (parterrelaw02_NumberAlike.l1 k2 1 t170 t171 t172 y175 (y175.length : Int) 0)) else (none)) else (none)) = some r := H
                                      have A27 := Aside0.mk A270
                                      clear A270
                                      by_cases c28 : ((((x9_2 ++ (⟨#[46]⟩ : ByteArray)) ++ x9_2) ++ t170) ++ (⟨#[69]⟩ : ByteArray)).size + t174.size ≤ 9223372036854775807
                                      · rw [if_pos c28] at H
                                        have c28b0 := eq_true c28
                                        have c28b1 : decide (((((x9_2 ++ (⟨#[46]⟩ : ByteArray)) ++ x9_2) ++ t170) ++ (⟨#[69]⟩ : ByteArray)).size + t174.size ≤ 9223372036854775807) = true := decide_eq_true c28
                                        try have c28b2 : (9223372036854775807 < ((((x9_2 ++ (⟨#[46]⟩ : ByteArray)) ++ x9_2) ++ t170) ++ (⟨#[69]⟩ : ByteArray)).size + t174.size) = False := eq_false (Nat.not_lt.2 c28)
                                        try have c28b3 : (9223372036854775807 < x9_2.size + 1 + x9_2.size + t170.size + 1 + t174.size) = False := eq_false (Nat.not_lt.2 (by have h_ := c28; simp only [ByteArray.size_append] at h_; exact h_))
                                        by_cases c29 : (t170 ++ (⟨#[101, 48]⟩ : ByteArray)).size + x9_2.size ≤ 9223372036854775807
                                        · rw [if_pos c29] at H
                                          have c29b0 := eq_true c29
                                          have c29b1 : decide ((t170 ++ (⟨#[101, 48]⟩ : ByteArray)).size + x9_2.size ≤ 9223372036854775807) = true := decide_eq_true c29
                                          try have c29b2 : (9223372036854775807 < (t170 ++ (⟨#[101, 48]⟩ : ByteArray)).size + x9_2.size) = False := eq_false (Nat.not_lt.2 c29)
                                          try have c29b3 : (9223372036854775807 < t170.size + 2 + x9_2.size) = False := eq_false (Nat.not_lt.2 (by have h_ := c29; simp only [ByteArray.size_append] at h_; exact h_))
                                          obtain ⟨y175, hy175⟩ : ∃ y_ : List ByteArray, y_ = (([x9_2 ++ t170, (t170 ++ (⟨#[46, 48]⟩ : ByteArray)) ++ x9_2, (⟨#[43]⟩ : ByteArray) ++ t170, ((t170 ++ x9_2) ++ (⟨#[101, 45]⟩ : ByteArray)) ++ t173, ((((x9_2 ++ (⟨#[46]⟩ : ByteArray)) ++ x9_2) ++ t170) ++ (⟨#[69]⟩ : ByteArray)) ++ t174, (t170 ++ (⟨#[101, 48]⟩ : ByteArray)) ++ x9_2] : List ByteArray)) := ⟨_, rfl⟩
                                          replace H : (parterrelaw02_NumberAlike.l1 k2 1 t170 t171 t172 y175 (y175.length : Int) 0) = some r := by first | (rw [hy175]; with_reducible exact H) | (have H2_ := (Option.bind_some _ _).symm.trans H; rw [hy175]; with_reducible exact H2_) | (have H2_ := (Option.bind_some _ _).symm.trans H; with_reducible exact H2_) | with_reducible exact H | (rw [hy175]; exact H) | exact H
                                          have Ny175 := Aside0.mk hy175
                                          clear hy175
                                          have H' := Aside0.mk H
                                          clear H
                                          go_wp2_with (first | ((with_reducible refine gate_callee (f := 15) rfl ?_); refine goesL_ (some 43) rfl rfl Tryd.func15 (by kernel_rfl) rfl #[.int .i64 a0, .int .i64 1] rfl (by (try simp only [List.map_toArray, List.map_cons, List.map_nil]); first | done | rfl | (simp only [List.length_drop, List.length_take]; rfl)) ?_; (with_reducible refine (number_Text.calls k2 a0 1 t170 _ A13.out (Tbl.tab0_stays HTB.out (by repeat (first | (with_reducible first | exact HB.out | apply below_alloc | apply pw_below_drewN | apply below_drew1) | exact HB.out)))).mono ?_); rintro e w30 ⟨rfl, hb⟩; refine ⟨_, rfl, ?_⟩; have n0_ := Aside0.mk (below_step (by repeat (first | (with_reducible first | exact HB.out | apply below_alloc | apply pw_below_drewN | apply below_drew1) | exact HB.out)) hb); clear HB; have HB := n0_; clear n0_; (try clear hb); (try clear hb2); (try clear hk); (try clear hi)) | ((with_reducible refine gate_callee (f := 13) rfl ?_); refine goesL_ (some 47) rfl rfl Tryd.func13 (by kernel_rfl) rfl #[.string t170, .int .i64 1] rfl (by (try simp only [List.map_toArray, List.map_cons, List.map_nil]); first | done | rfl | (simp only [List.length_drop, List.length_take]; rfl)) ?_; (with_reducible refine (number_Value.calls k2 t170 1 t171 t172 _ A14.out).mono ?_); rintro e w31 ⟨rfl, hb⟩; refine ⟨_, rfl, ?_⟩; have n0_ := Aside0.mk (below_step (by repeat (first | (with_reducible first | exact HB.out | apply below_alloc | apply pw_below_drewN | apply below_drew1) | exact HB.out)) hb); clear HB; have HB := n0_; clear n0_; (try clear hb); (try clear hb2); (try clear hk); (try clear hi)) | ((with_reducible refine gate_callee (f := 15) rfl ?_); refine goesL_ (some 64) rfl rfl Tryd.func15 (by kernel_rfl) rfl #[.int .i64 (wrap64 (Int.tmod (IntKind.u64.wrap (a1)) 20)), .int .i64 1] rfl (by (try simp only [List.map_toArray, List.map_cons, List.map_nil]); first | done | rfl | (simp only [List.length_drop, List.length_take]; rfl)) ?_; (with_reducible refine (number_Text.calls k2 (wrap64 (Int.tmod (IntKind.u64.wrap (a1)) 20)) 1 t173 _ A21.out (Tbl.tab0_stays HTB.out (by repeat (first | (with_reducible first | exact HB.out | apply below_alloc | apply pw_below_drewN | apply below_drew1) | exact HB.out)))).mono ?_); rintro e w32 ⟨rfl, hb⟩; refine ⟨_, rfl, ?_⟩; have n0_ := Aside0.mk (below_step (by repeat (first | (with_reducible first | exact HB.out | apply below_alloc | apply pw_below_drewN | apply below_drew1) | exact HB.out)) hb); clear HB; have HB := n0_; clear n0_; (try clear hb); (try clear hb2); (try clear hk); (try clear hi)) | ((with_reducible refine gate_callee (f := 15) rfl ?_); refine goesL_ (some 77) rfl rfl Tryd.func15 (by kernel_rfl) rfl #[.int .i64 (wrap64 ((wrap64 (Int.tmod (IntKind.u64.wrap (a1)) 20)) + (t170.size : Int))), .int .i64 1] rfl (by (try simp only [List.map_toArray, List.map_cons, List.map_nil]); first | done | rfl | (simp only [List.length_drop, List.length_take]; rfl)) ?_; (with_reducible refine (number_Text.calls k2 (wrap64 ((wrap64 (Int.tmod (IntKind.u64.wrap (a1)) 20)) + (t170.size : Int))) 1 t174 _ A27.out (Tbl.tab0_stays HTB.out (by repeat (first | (with_reducible first | exact HB.out | apply below_alloc | apply pw_below_drewN | apply below_drew1) | exact HB.out)))).mono ?_); rintro e w33 ⟨rfl, hb⟩; refine ⟨_, rfl, ?_⟩; have n0_ := Aside0.mk (below_step (by repeat (first | (with_reducible first | exact HB.out | apply below_alloc | apply pw_below_drewN | apply below_drew1) | exact HB.out)) hb); clear HB; have HB := n0_; clear n0_; (try clear hb); (try clear hb2); (try clear hk); (try clear hi)) | ((with_reducible refine gate_dst (N := 83) rfl ?_); refine Kd.R_lit Kd.string _ 9 ?hg (N := 83) ?hd (xs := ([x9_2 ++ t170, (t170 ++ (⟨#[46, 48]⟩ : ByteArray)) ++ x9_2, (⟨#[43]⟩ : ByteArray) ++ t170, ((t170 ++ x9_2) ++ (⟨#[101, 45]⟩ : ByteArray)) ++ t173, ((((x9_2 ++ (⟨#[46]⟩ : ByteArray)) ++ x9_2) ++ t170) ++ (⟨#[69]⟩ : ByteArray)) ++ t174, (t170 ++ (⟨#[101, 48]⟩ : ByteArray)) ++ x9_2] : List ByteArray)) (inner := [.string (x9_2 ++ t170), .string ((t170 ++ (⟨#[46, 48]⟩ : ByteArray)) ++ x9_2), .string ((⟨#[43]⟩ : ByteArray) ++ t170), .string (((t170 ++ x9_2) ++ (⟨#[101, 45]⟩ : ByteArray)) ++ t173), .string (((((x9_2 ++ (⟨#[46]⟩ : ByteArray)) ++ x9_2) ++ t170) ++ (⟨#[69]⟩ : ByteArray)) ++ t174), .string ((t170 ++ (⟨#[101, 48]⟩ : ByteArray)) ++ x9_2)]) (ok := fun _ => True) (okp := fun _ => True) ?hr ?hp (fun _ hk => hk) trivial (Below.refl _ _) (Nat.le_refl _) (by simp) ?_; (case hd => rfl); (case hg => rfl); (case hr => first | (go_simp; done) | (go_simp; rfl)); (case hp => exact (Reps.one (show Kd.M Kd.string _ _ _ (x9_2 ++ t170) [.string (x9_2 ++ t170)] from rfl) (Reps.one (show Kd.M Kd.string _ _ _ ((t170 ++ (⟨#[46, 48]⟩ : ByteArray)) ++ x9_2) [.string ((t170 ++ (⟨#[46, 48]⟩ : ByteArray)) ++ x9_2)] from rfl) (Reps.one (show Kd.M Kd.string _ _ _ ((⟨#[43]⟩ : ByteArray) ++ t170) [.string ((⟨#[43]⟩ : ByteArray) ++ t170)] from rfl) (Reps.one (show Kd.M Kd.string _ _ _ (((t170 ++ x9_2) ++ (⟨#[101, 45]⟩ : ByteArray)) ++ t173) [.string (((t170 ++ x9_2) ++ (⟨#[101, 45]⟩ : ByteArray)) ++ t173)] from rfl) (Reps.one (show Kd.M Kd.string _ _ _ (((((x9_2 ++ (⟨#[46]⟩ : ByteArray)) ++ x9_2) ++ t170) ++ (⟨#[69]⟩ : ByteArray)) ++ t174) [.string (((((x9_2 ++ (⟨#[46]⟩ : ByteArray)) ++ x9_2) ++ t170) ++ (⟨#[69]⟩ : ByteArray)) ++ t174)] from rfl) (Reps.one (show Kd.M Kd.string _ _ _ ((t170 ++ (⟨#[101, 48]⟩ : ByteArray)) ++ x9_2) [.string ((t170 ++ (⟨#[101, 48]⟩ : ByteArray)) ++ x9_2)] from rfl) (Reps.none _ _)))))))); intro v176 w34 ho35 hb hg_ hnew_; clear hg_ hnew_; (first | rw [← Ny175.out] at ho35 | (simp only [Int.reduceToNat] at ho35; rw [← Ny175.out] at ho35)); have n0_ := Aside0.mk (Kd.R_lower ho35 (below_size (by repeat (first | (with_reducible first | exact HB.out | apply below_alloc | apply pw_below_drewN | apply below_drew1) | exact HB.out)))); have n1_ := Aside0.mk (below_step (by repeat (first | (with_reducible first | exact HB.out | apply below_alloc | apply pw_below_drewN | apply below_drew1) | exact HB.out)) hb); clear HB; have HO177 := n0_; have HB := n1_; clear n0_ n1_; clear hb ho35; obtain ⟨Ao36, co36, eo36⟩ := Kd.R_slice HO177.out; subst eo36))
                                          go_loopg [85] k2 (fun kq v85 w' => ∃ (x85_3 : Int), v85 = .int .i64 x85_3 ∧ Aside0 (parterrelaw02_NumberAlike.l1 kq 1 t170 t171 t172 y175 (y175.length : Int) x85_3 = some r) ∧ Aside0 (kq ≤ k2) ∧ Aside0 (Kd.R Kd.string 9 w' w.heap.size (fun _ => True) (.slice Ao36 y175.length co36) y175) ∧ Aside0 (Below w.heap.size w w'))
                                          case atStart => exact ⟨(0), (by first | rfl | (simp; done) | (simp [*]; done)), H', ⟨Nat.le_refl _⟩, ⟨by (with_reducible repeat (first | apply Kd.R_alloc | apply Kd.R_drewN | apply Kd.R_drew)); exact HO177.out⟩, ⟨by repeat (first | (with_reducible first | exact HB.out | apply below_alloc | apply pw_below_drewN | apply below_drew1) | exact HB.out)⟩⟩
                                          case round =>
                                            clear H'
                                            try clear c1
                                            try clear c2
                                            try clear p2
                                            try clear c4
                                            try clear c4b0
                                            try clear c4b1
                                            try clear p6
                                            try clear c7
                                            try clear c7b0
                                            try clear c8
                                            try clear c10
                                            try clear c11
                                            try clear c11b0
                                            try clear c12
                                            try clear c12b0
                                            try clear c12b1
                                            try clear c12b2
                                            try clear c13
                                            try clear c15
                                            try clear c15b0
                                            try clear c15b1
                                            try clear c15b2
                                            try clear c16
                                            try clear c16b0
                                            try clear c16b1
                                            try clear c16b2
                                            try clear c17
                                            try clear c17b0
                                            try clear c17b1
                                            try clear c17b2
                                            try clear c18
                                            try clear c18b0
                                            try clear c18b1
                                            try clear c18b2
                                            try clear c19
                                            try clear c19b0
                                            try clear c19b1
                                            try clear c19b2
                                            try clear c20
                                            try clear c20b0
                                            try clear c20b1
                                            try clear c20b2
                                            try clear c22
                                            try clear c22b0
                                            try clear c22b1
                                            try clear c22b2
                                            try clear c23
                                            try clear c23b0
                                            try clear c23b1
                                            try clear c23b2
                                            try clear c24
                                            try clear c24b0
                                            try clear c24b1
                                            try clear c24b2
                                            try clear c25
                                            try clear c25b0
                                            try clear c25b1
                                            try clear c25b2
                                            try clear c26
                                            try clear c26b0
                                            try clear c26b1
                                            try clear c26b2
                                            try clear c28
                                            try clear c28b0
                                            try clear c28b1
                                            try clear c28b2
                                            try clear c29
                                            try clear c29b0
                                            try clear c29b1
                                            try clear c29b2
                                            try clear p2
                                            try clear p6
                                            obtain ⟨x85_3, rfl, HA, HK3, HO_83, HB⟩ := hrel
                                            cases gk with
                                            | zero => exact absurd HA.out (by simp [parterrelaw02_NumberAlike.l1])
                                            | succ k3 =>
                                              have H := HA.out
                                              clear HA
                                              simp only [parterrelaw02_NumberAlike.l1] at H
                                              by_cases c37 : x85_3 < (y175.length : Int)
                                              · rw [if_pos c37] at H
                                                have c37b0 : decide (x85_3 < (y175.length : Int)) = true := decide_eq_true c37
                                                clear c37
                                                by_cases c38 : 0 ≤ x85_3
                                                · rw [if_pos c38] at H
                                                  have c38b0 : decide (0 ≤ x85_3) = true := decide_eq_true c38
                                                  clear c38
                                                  by_cases c39 : x85_3 < (y175.length : Int)
                                                  · rw [if_pos c39] at H
                                                    have c39b0 : decide (x85_3 < (y175.length : Int)) = true := decide_eq_true c39
                                                    clear c39
                                                    replace H := Option.bind_eq_some_iff.mp H
                                                    obtain ⟨⟨t179, t180⟩, A400, H⟩ := H
                                                    replace H : (if t172 = t180 then (if t179 = t171 then (parterrelaw02_NumberAlike.l1 k3 1 t170 t171 t172 y175 (y175.length : Int) (wrap64 (x85_3 + 1))) else (some false)) else (some false)) = some r := H
                                                    have A40 := Aside0.mk A400
                                                    clear A400
                                                    by_cases c41 : t172 = t180
                                                    · rw [if_pos c41] at H
                                                      have c41b0 : (t172 == t180) = true := beq_iff_eq.mpr c41
                                                      have c41b1 : (t172 != t180) = false := bne_eq_false_iff_eq.mpr c41
                                                      clear c41
                                                      by_cases c42 : t179 = t171
                                                      · rw [if_pos c42] at H
                                                        have c42b0 : (t179 == t171) = true := beq_iff_eq.mpr c42
                                                        have c42b1 : (t179 != t171) = false := bne_eq_false_iff_eq.mpr c42
                                                        clear c42
                                                        have H' := Aside0.mk H
                                                        clear H
                                                        have p178 : 0 ≤ (x85_3 : Int) := of_decide_eq_true (by first | (with_reducible assumption) | assumption)
                                                        have q178 : x85_3 < (y175.length : Int) := of_decide_eq_true (by first | (with_reducible assumption) | assumption)
                                                        obtain ⟨ad178, e178, hx178_0⟩ := Kd.at_string (Kd.R_reads' HO_83.out).2.2 x85_3 p178 q178
                                                        cases e178
                                                        replace p178 := eq_true p178
                                                        replace q178 := eq_true q178
                                                        go_wp2_with (first | ((with_reducible refine gate_callee (f := 13) rfl ?_); refine goesL_ (some 92) rfl rfl Tryd.func13 (by kernel_rfl) rfl #[.string (rdOf ByteArray.empty y175 x85_3), .int .i64 1] rfl (by (try simp only [List.map_toArray, List.map_cons, List.map_nil]); first | done | rfl | (simp only [List.length_drop, List.length_take]; rfl)) ?_; (with_reducible refine (number_Value.calls k3 (rdOf ByteArray.empty y175 x85_3) 1 t179 t180 _ A40.out).mono ?_); rintro e w43 ⟨rfl, hb⟩; refine ⟨_, rfl, ?_⟩; have n0_ := Aside0.mk (Kd.R_below (by (with_reducible repeat (first | apply Kd.R_alloc | apply Kd.R_drewN | apply Kd.R_drew)); exact HO_83.out) hb); have n1_ := Aside0.mk (below_step (by repeat (first | (with_reducible first | exact HB.out | apply below_alloc | apply pw_below_drewN | apply below_drew1) | exact HB.out)) hb); clear HO_83; clear HB; have HO_83 := n0_; have HB := n1_; clear n0_ n1_; (try clear hb); (try clear hb2); (try clear hk); (try clear hi)))
                                                        go_roundg k3
                                                        case measure => have := HJ5.out; have := HK2.out; have := HK3.out; omega
                                                        case rel => exact ⟨(wrap64 (x85_3 + 1)), (by first | rfl | (simp; done) | (simp [*]; done)), H', ⟨by have := HJ5.out; have := HK2.out; have := HK3.out; omega⟩, ⟨by (with_reducible repeat (first | apply Kd.R_alloc | apply Kd.R_drewN | apply Kd.R_drew)); exact HO_83.out⟩, ⟨by repeat (first | (with_reducible first | exact HB.out | apply below_alloc | apply pw_below_drewN | apply below_drew1) | exact HB.out)⟩⟩
                                                      · rw [if_neg c42] at H
                                                        have c42b0 : (t179 == t171) = false := beq_eq_false_iff_ne.mpr c42
                                                        have c42b1 : (t179 != t171) = true := bne_iff_ne.mpr c42
                                                        obtain rfl := Option.some.inj H
                                                        have p178 : 0 ≤ (x85_3 : Int) := of_decide_eq_true (by first | (with_reducible assumption) | assumption)
                                                        have q178 : x85_3 < (y175.length : Int) := of_decide_eq_true (by first | (with_reducible assumption) | assumption)
                                                        obtain ⟨ad178, e178, hx178_0⟩ := Kd.at_string (Kd.R_reads' HO_83.out).2.2 x85_3 p178 q178
                                                        cases e178
                                                        replace p178 := eq_true p178
                                                        replace q178 := eq_true q178
                                                        go_wp2_with (first | ((with_reducible refine gate_callee (f := 13) rfl ?_); refine goesL_ (some 92) rfl rfl Tryd.func13 (by kernel_rfl) rfl #[.string (rdOf ByteArray.empty y175 x85_3), .int .i64 1] rfl (by (try simp only [List.map_toArray, List.map_cons, List.map_nil]); first | done | rfl | (simp only [List.length_drop, List.length_take]; rfl)) ?_; (with_reducible refine (number_Value.calls k3 (rdOf ByteArray.empty y175 x85_3) 1 t179 t180 _ A40.out).mono ?_); rintro e w44 ⟨rfl, hb⟩; refine ⟨_, rfl, ?_⟩; have n0_ := Aside0.mk (Kd.R_below (by (with_reducible repeat (first | apply Kd.R_alloc | apply Kd.R_drewN | apply Kd.R_drew)); exact HO_83.out) hb); have n1_ := Aside0.mk (below_step (by repeat (first | (with_reducible first | exact HB.out | apply below_alloc | apply pw_below_drewN | apply below_drew1) | exact HB.out)) hb); clear HO_83; clear HB; have HO_83 := n0_; have HB := n1_; clear n0_ n1_; (try clear hb); (try clear hb2); (try clear hk); (try clear hi)))
                                                        go_ret
                                                        exact ⟨by first | rfl | (simp [errW_none, errW_some] <;> rfl) | (simp [*, errW_none, errW_some] <;> rfl), by repeat (first | (with_reducible first | exact HB.out | apply below_alloc | apply pw_below_drewN | apply below_drew1) | exact HB.out)⟩
                                                    · rw [if_neg c41] at H
                                                      have c41b0 : (t172 == t180) = false := beq_eq_false_iff_ne.mpr c41
                                                      have c41b1 : (t172 != t180) = true := bne_iff_ne.mpr c41
                                                      obtain rfl := Option.some.inj H
                                                      have p178 : 0 ≤ (x85_3 : Int) := of_decide_eq_true (by first | (with_reducible assumption) | assumption)
                                                      have q178 : x85_3 < (y175.length : Int) := of_decide_eq_true (by first | (with_reducible assumption) | assumption)
                                                      obtain ⟨ad178, e178, hx178_0⟩ := Kd.at_string (Kd.R_reads' HO_83.out).2.2 x85_3 p178 q178
                                                      cases e178
                                                      replace p178 := eq_true p178
                                                      replace q178 := eq_true q178
                                                      go_wp2_with (first | ((with_reducible refine gate_callee (f := 13) rfl ?_); refine goesL_ (some 92) rfl rfl Tryd.func13 (by kernel_rfl) rfl #[.string (rdOf ByteArray.empty y175 x85_3), .int .i64 1] rfl (by (try simp only [List.map_toArray, List.map_cons, List.map_nil]); first | done | rfl | (simp only [List.length_drop, List.length_take]; rfl)) ?_; (with_reducible refine (number_Value.calls k3 (rdOf ByteArray.empty y175 x85_3) 1 t179 t180 _ A40.out).mono ?_); rintro e w45 ⟨rfl, hb⟩; refine ⟨_, rfl, ?_⟩; have n0_ := Aside0.mk (Kd.R_below (by (with_reducible repeat (first | apply Kd.R_alloc | apply Kd.R_drewN | apply Kd.R_drew)); exact HO_83.out) hb); have n1_ := Aside0.mk (below_step (by repeat (first | (with_reducible first | exact HB.out | apply below_alloc | apply pw_below_drewN | apply below_drew1) | exact HB.out)) hb); clear HO_83; clear HB; have HO_83 := n0_; have HB := n1_; clear n0_ n1_; (try clear hb); (try clear hb2); (try clear hk); (try clear hi)))
                                                      go_ret
                                                      exact ⟨by first | rfl | (simp [errW_none, errW_some] <;> rfl) | (simp [*, errW_none, errW_some] <;> rfl), by repeat (first | (with_reducible first | exact HB.out | apply below_alloc | apply pw_below_drewN | apply below_drew1) | exact HB.out)⟩
                                                  · rw [if_neg c39] at H
                                                    exact absurd H (by simp)
                                                · rw [if_neg c38] at H
                                                  exact absurd H (by simp)
                                              · rw [if_neg c37] at H
                                                have c37b0 : decide (x85_3 < (y175.length : Int)) = false := decide_eq_false c37
                                                clear c37
                                                by_cases c46 : 1 + t170.size ≤ 9223372036854775807
                                                · rw [if_pos c46] at H
                                                  have c46b0 := eq_true c46
                                                  have c46b1 : decide (1 + t170.size ≤ 9223372036854775807) = true := decide_eq_true c46
                                                  try have c46b2 : (9223372036854775807 < 1 + t170.size) = False := eq_false (Nat.not_lt.2 c46)
                                                  replace H := Option.bind_eq_some_iff.mp H
                                                  obtain ⟨⟨t181, t182⟩, A470, H⟩ := H
                                                  replace H : (if t172 = t182 then (if t181 = (wrap64 (-t171)) then ((parterrelaw02_lives.f k3).bind fun t183 => (some t183)) else (some false)) else (some false)) = some r := H
                                                  have A47 := Aside0.mk A470
                                                  clear A470
                                                  by_cases c48 : t172 = t182
                                                  · rw [if_pos c48] at H
                                                    have c48b0 : (t172 == t182) = true := beq_iff_eq.mpr c48
                                                    have c48b1 : (t172 != t182) = false := bne_eq_false_iff_eq.mpr c48
                                                    clear c48
                                                    by_cases c49 : t181 = (wrap64 (-t171))
                                                    · rw [if_pos c49] at H
                                                      have c49b0 : (t181 == (wrap64 (-t171))) = true := beq_iff_eq.mpr c49
                                                      have c49b1 : (t181 != (wrap64 (-t171))) = false := bne_eq_false_iff_eq.mpr c49
                                                      clear c49
                                                      replace H := Option.bind_eq_some_iff.mp H
                                                      obtain ⟨t183, A500, H⟩ := H
                                                      replace H : (some t183) = some r := H
                                                      have A50 := Aside0.mk A500
                                                      clear A500
                                                      obtain rfl := Option.some.inj H
                                                      go_wp2_with (first | ((with_reducible refine gate_callee (f := 13) rfl ?_); refine goesL_ (some 108) rfl rfl Tryd.func13 (by kernel_rfl) rfl #[.string ((⟨#[45]⟩ : ByteArray) ++ t170), .int .i64 1] rfl (by (try simp only [List.map_toArray, List.map_cons, List.map_nil]); first | done | rfl | (simp only [List.length_drop, List.length_take]; rfl)) ?_; (with_reducible refine (number_Value.calls k3 ((⟨#[45]⟩ : ByteArray) ++ t170) 1 t181 t182 _ A47.out).mono ?_); rintro e w51 ⟨rfl, hb⟩; refine ⟨_, rfl, ?_⟩; have n0_ := Aside0.mk (Kd.R_below (by (with_reducible repeat (first | apply Kd.R_alloc | apply Kd.R_drewN | apply Kd.R_drew)); exact HO_83.out) hb); have n1_ := Aside0.mk (below_step (by repeat (first | (with_reducible first | exact HB.out | apply below_alloc | apply pw_below_drewN | apply below_drew1) | exact HB.out)) hb); clear HO_83; clear HB; have HO_83 := n0_; have HB := n1_; clear n0_ n1_; (try clear hb); (try clear hb2); (try clear hk); (try clear hi)) | (go_at_call 10; (with_reducible refine (parterrelaw02_lives.calls k3  t183 _ A50.out (Tbl.tab0_stays HTB.out (by repeat (first | (with_reducible first | exact HB.out | apply below_alloc | apply pw_below_drewN | apply below_drew1) | exact HB.out)))).mono ?_); rintro e w52 ⟨rfl, hb⟩; have n0_ := Aside0.mk (Kd.R_below (by (with_reducible repeat (first | apply Kd.R_alloc | apply Kd.R_drewN | apply Kd.R_drew)); exact HO_83.out) hb); have n1_ := Aside0.mk (below_step (by repeat (first | (with_reducible first | exact HB.out | apply below_alloc | apply pw_below_drewN | apply below_drew1) | exact HB.out)) hb); clear HO_83; clear HB; have HO_83 := n0_; have HB := n1_; clear n0_ n1_; (try clear hb); (try clear hb2); (try clear hk); (try clear hi)))
                                                      go_ret
                                                      exact ⟨by first | rfl | (simp [errW_none, errW_some] <;> rfl) | (simp [*, errW_none, errW_some] <;> rfl), by repeat (first | (with_reducible first | exact HB.out | apply below_alloc | apply pw_below_drewN | apply below_drew1) | exact HB.out)⟩
                                                    · rw [if_neg c49] at H
                                                      have c49b0 : (t181 == (wrap64 (-t171))) = false := beq_eq_false_iff_ne.mpr c49
                                                      have c49b1 : (t181 != (wrap64 (-t171))) = true := bne_iff_ne.mpr c49
                                                      obtain rfl := Option.some.inj H
                                                      go_wp2_with (first | ((with_reducible refine gate_callee (f := 13) rfl ?_); refine goesL_ (some 108) rfl rfl Tryd.func13 (by kernel_rfl) rfl #[.string ((⟨#[45]⟩ : ByteArray) ++ t170), .int .i64 1] rfl (by (try simp only [List.map_toArray, List.map_cons, List.map_nil]); first | done | rfl | (simp only [List.length_drop, List.length_take]; rfl)) ?_; (with_reducible refine (number_Value.calls k3 ((⟨#[45]⟩ : ByteArray) ++ t170) 1 t181 t182 _ A47.out).mono ?_); rintro e w53 ⟨rfl, hb⟩; refine ⟨_, rfl, ?_⟩; have n0_ := Aside0.mk (Kd.R_below (by (with_reducible repeat (first | apply Kd.R_alloc | apply Kd.R_drewN | apply Kd.R_drew)); exact HO_83.out) hb); have n1_ := Aside0.mk (below_step (by repeat (first | (with_reducible first | exact HB.out | apply below_alloc | apply pw_below_drewN | apply below_drew1) | exact HB.out)) hb); clear HO_83; clear HB; have HO_83 := n0_; have HB := n1_; clear n0_ n1_; (try clear hb); (try clear hb2); (try clear hk); (try clear hi)))
                                                      go_ret
                                                      exact ⟨by first | rfl | (simp [errW_none, errW_some] <;> rfl) | (simp [*, errW_none, errW_some] <;> rfl), by repeat (first | (with_reducible first | exact HB.out | apply below_alloc | apply pw_below_drewN | apply below_drew1) | exact HB.out)⟩
                                                  · rw [if_neg c48] at H
                                                    have c48b0 : (t172 == t182) = false := beq_eq_false_iff_ne.mpr c48
                                                    have c48b1 : (t172 != t182) = true := bne_iff_ne.mpr c48
                                                    obtain rfl := Option.some.inj H
                                                    go_wp2_with (first | ((with_reducible refine gate_callee (f := 13) rfl ?_); refine goesL_ (some 108) rfl rfl Tryd.func13 (by kernel_rfl) rfl #[.string ((⟨#[45]⟩ : ByteArray) ++ t170), .int .i64 1] rfl (by (try simp only [List.map_toArray, List.map_cons, List.map_nil]); first | done | rfl | (simp only [List.length_drop, List.length_take]; rfl)) ?_; (with_reducible refine (number_Value.calls k3 ((⟨#[45]⟩ : ByteArray) ++ t170) 1 t181 t182 _ A47.out).mono ?_); rintro e w54 ⟨rfl, hb⟩; refine ⟨_, rfl, ?_⟩; have n0_ := Aside0.mk (Kd.R_below (by (with_reducible repeat (first | apply Kd.R_alloc | apply Kd.R_drewN | apply Kd.R_drew)); exact HO_83.out) hb); have n1_ := Aside0.mk (below_step (by repeat (first | (with_reducible first | exact HB.out | apply below_alloc | apply pw_below_drewN | apply below_drew1) | exact HB.out)) hb); clear HO_83; clear HB; have HO_83 := n0_; have HB := n1_; clear n0_ n1_; (try clear hb); (try clear hb2); (try clear hk); (try clear hi)))
                                                    go_ret
                                                    exact ⟨by first | rfl | (simp [errW_none, errW_some] <;> rfl) | (simp [*, errW_none, errW_some] <;> rfl), by repeat (first | (with_reducible first | exact HB.out | apply below_alloc | apply pw_below_drewN | apply below_drew1) | exact HB.out)⟩
                                                · rw [if_neg c46] at H
                                                  exact absurd H (by simp)
                                        · rw [if_neg c29] at H
                                          exact absurd H (by simp)
                                      · rw [if_neg c28] at H
                                        exact absurd H (by simp)
                                    · rw [if_neg c26] at H
                                      exact absurd H (by simp)
                                  · rw [if_neg c25] at H
                                    exact absurd H (by simp)
                                · rw [if_neg c24] at H
                                  exact absurd H (by simp)
                              · rw [if_neg c23] at H
                                exact absurd H (by simp)
                            · rw [if_neg c22] at H
                              exact absurd H (by simp)
                          · rw [if_neg c20] at H
                            exact absurd H (by simp)
                        · rw [if_neg c19] at H
                          exact absurd H (by simp)
                      · rw [if_neg c18] at H
                        exact absurd H (by simp)
                    · rw [if_neg c17] at H
                      exact absurd H (by simp)
                  · rw [if_neg c16] at H
                    exact absurd H (by simp)
                · rw [if_neg c15] at H
                  exact absurd H (by simp)
  · rw [if_neg c4] at H
    have c4b0 : ((wrap64 (Int.tmod (IntKind.u64.wrap (a2)) 3)) == 0) = false := beq_eq_false_iff_ne.mpr c4
    have c4b1 : ((wrap64 (Int.tmod (IntKind.u64.wrap (a2)) 3)) != 0) = true := bne_iff_ne.mpr c4
    by_cases c55 : (wrap64 (Int.tmod (IntKind.u64.wrap (a2)) 3)) = 1
    · rw [if_pos c55] at H
      have c55b0 : ((wrap64 (Int.tmod (IntKind.u64.wrap (a2)) 3)) == 1) = true := beq_iff_eq.mpr c55
      have c55b1 : ((wrap64 (Int.tmod (IntKind.u64.wrap (a2)) 3)) != 1) = false := bne_eq_false_iff_eq.mpr c55
      clear c55
      have HC57 := Aside0.mk H
      clear H
      have hix56 : ∀ W : World, (Instr.index 33 (.agg #[.int .i64 1, .int .i64 64, .int .i64 1000]) (.int .i64 (wrap64 (Int.tmod (IntKind.u64.wrap (a2)) 3)))).run Tryd.prog W = .ok (.int .i64 64) W := (by intro W; have hj_ : (wrap64 (Int.tmod (IntKind.u64.wrap (a2)) 3)) = 1 := beq_iff_eq.1 (by assumption); rw [hj_]; simp [go_sem, Tryd.underlying33, Tryd.sizeOf3, Instr.index])
      go_enter Tryd.func7, Tryd.ntmps7
      go_upto_region 3 with (fail)
      go_cut [34] (fun v34 wc => ∃ (kq : Nat) (x34_56 : Bool), v34 = .bool x34_56 ∧ Aside0 (parterrelaw02_NumberAlike.j3 kq a0 64 (wrap64 (Int.tmod (IntKind.u64.wrap (a1)) 20)) x34_56 = some r) ∧ Aside0 (kq ≤ k) ∧ Aside0 (Below w.heap.size w wc))
      case first =>
        have H := HC57.out
        clear HC57
        by_cases c58 : a0 < 0
        · rw [if_pos c58] at H
          have c58b0 : decide (a0 < 0) = true := decide_eq_true c58
          clear c58
          (first | rw [c58b0] | (simp only [i64_w, i32_w]; rw [c58b0]) | skip)
          have H' := Aside0.mk H
          clear H
          go_wp2
          go_meet
          case rel => exact ⟨_, (true), (by first | rfl | (simp; done) | (simp [*]; done)), (by first | exact H' | (subst_vars; exact H')), ⟨by first | omega | exact Nat.le_refl _⟩, ⟨by repeat (first | (with_reducible first | exact HB.out | apply below_alloc | apply pw_below_drewN | apply below_drew1) | exact HB.out)⟩⟩
        · rw [if_neg c58] at H
          have c58b0 : decide (a0 < 0) = false := decide_eq_false c58
          clear c58
          (first | rw [c58b0] | (simp only [i64_w, i32_w]; rw [c58b0]) | skip)
          have H' := Aside0.mk H
          clear H
          go_wp2
          go_meet
          case rel => exact ⟨_, (decide (a0 > 1000000)), (by first | rfl | (simp; done) | (simp [*]; done)), (by first | exact H' | (subst_vars; exact H')), ⟨by first | omega | exact Nat.le_refl _⟩, ⟨by repeat (first | (with_reducible first | exact HB.out | apply below_alloc | apply pw_below_drewN | apply below_drew1) | exact HB.out)⟩⟩
      case rest =>
        clear HC57
        try clear c1
        try clear p1
        try clear q1
        try clear hx1
        try clear c2
        try clear p2
        try clear c3
        try clear c4
        try clear c4b0
        try clear c4b1
        try clear c5
        try clear p6
        try clear c7
        try clear c7b0
        try clear c8
        try clear c10
        try clear c11
        try clear c11b0
        try clear c12
        try clear c12b0
        try clear c12b1
        try clear c12b2
        try clear c13
        try clear c15
        try clear c15b0
        try clear c15b1
        try clear c15b2
        try clear c16
        try clear c16b0
        try clear c16b1
        try clear c16b2
        try clear c17
        try clear c17b0
        try clear c17b1
        try clear c17b2
        try clear p17
        try clear q17
        try clear hx17
        try clear c18
        try clear c18b0
        try clear c18b1
        try clear c18b2
        try clear c19
        try clear c19b0
        try clear c19b1
        try clear c19b2
        try clear c20
        try clear c20b0
        try clear c20b1
        try clear c20b2
        try clear c22
        try clear c22b0
        try clear c22b1
        try clear c22b2
        try clear c23
        try clear c23b0
        try clear c23b1
        try clear c23b2
        try clear c24
        try clear c24b0
        try clear c24b1
        try clear c24b2
        try clear c25
        try clear c25b0
        try clear c25b1
        try clear c25b2
        try clear c26
        try clear c26b0
        try clear c26b1
        try clear c26b2
        try clear c28
        try clear c28b0
        try clear c28b1
        try clear c28b2
        try clear c29
        try clear c29b0
        try clear c29b1
        try clear c29b2
        try clear c37
        try clear c37b0
        try clear c38
        try clear c38b0
        try clear c39
        try clear c39b0
        try clear c41
        try clear c41b0
        try clear c41b1
        try clear c42
        try clear c42b0
        try clear c42b1
        try clear c46
        try clear c46b0
        try clear c46b1
        try clear c46b2
        try clear c48
        try clear c48b0
        try clear c48b1
        try clear c49
        try clear c49b0
        try clear c49b1
        try clear c55
        try clear c55b0
        try clear c55b1
        try clear c58
        try clear c58b0
        try clear hx178_0
        try clear p178
        try clear p2
        try clear p6
        try clear q178
        obtain ⟨kq, x34_56, rfl, HA, HJ56, HB⟩ := hcut
        cases kq with
        | zero => exact absurd HA.out (by simp [parterrelaw02_NumberAlike.j3])
        | succ kj56 =>
          have H := HA.out
          clear HA
          simp only [parterrelaw02_NumberAlike.j3] at H
          by_cases c59 : x34_56 = true
          · subst c59
            have H1 : ((parterrelaw02_lives.f kj56).bind fun t184 => (some t184)) = some r := by rw [if_pos rfl] at H; exact H
            clear H
            have H := H1
            clear H1
            replace H := Option.bind_eq_some_iff.mp H
            obtain ⟨t184, A600, H⟩ := H
            replace H : (some t184) = some r := H
            have A60 := Aside0.mk A600
            clear A600
            obtain rfl := Option.some.inj H
            go_wp2_with (first | ((with_reducible refine gate_callee (f := 10) rfl ?_); refine goesL_ (some 35) rfl rfl Tryd.func10 (by kernel_rfl) rfl #[] rfl (by (try simp only [List.map_toArray, List.map_cons, List.map_nil]); first | done | rfl | (simp only [List.length_drop, List.length_take]; rfl)) ?_; (with_reducible refine (parterrelaw02_lives.calls kj56  t184 _ A60.out (Tbl.tab0_stays HTB.out (by repeat (first | (with_reducible first | exact HB.out | apply below_alloc | apply pw_below_drewN | apply below_drew1) | exact HB.out)))).mono ?_); rintro e w61 ⟨rfl, hb⟩; refine ⟨_, rfl, ?_⟩; have n0_ := Aside0.mk (below_step (by repeat (first | (with_reducible first | exact HB.out | apply below_alloc | apply pw_below_drewN | apply below_drew1) | exact HB.out)) hb); clear HB; have HB := n0_; clear n0_; (try clear hb); (try clear hb2); (try clear hk); (try clear hi)))
            go_ret
            exact ⟨by first | rfl | (simp [errW_none, errW_some] <;> rfl) | (simp [*, errW_none, errW_some] <;> rfl), by repeat (first | (with_reducible first | exact HB.out | apply below_alloc | apply pw_below_drewN | apply below_drew1) | exact HB.out)⟩
          · replace c59 := Bool.eq_false_iff.mpr c59
            subst c59
            have H1 : (parterrelaw02_NumberAlike.l0 kj56 a0 64 (wrap64 (Int.tmod (IntKind.u64.wrap (a1)) 20)) (⟨#[]⟩ : ByteArray) (wrap64 (Int.tmod (IntKind.u64.wrap (a1)) 20)) 0) = some r := by rw [if_neg (show ¬ (false = true) by decide)] at H; exact H
            clear H
            have H := H1
            clear H1
            have H' := Aside0.mk H
            clear H
            go_wp2
            go_loopg [9, 37] kj56 (fun kq v9 v37 w' => ∃ (x9_2 : ByteArray) (x37_2 : Int), v9 = .string x9_2 ∧ v37 = .int .i64 x37_2 ∧ Aside0 (parterrelaw02_NumberAlike.l0 kq a0 64 (wrap64 (Int.tmod (IntKind.u64.wrap (a1)) 20)) x9_2 (wrap64 (Int.tmod (IntKind.u64.wrap (a1)) 20)) x37_2 = some r) ∧ Aside0 (kq ≤ kj56) ∧ Aside0 (Below w.heap.size w w'))
            case atStart => exact ⟨((⟨#[]⟩ : ByteArray)), (0), (by first | rfl | (simp; done) | (simp [*]; done)), (by first | rfl | (simp; done) | (simp [*]; done)), H', ⟨Nat.le_refl _⟩, ⟨by repeat (first | (with_reducible first | exact HB.out | apply below_alloc | apply pw_below_drewN | apply below_drew1) | exact HB.out)⟩⟩
            case round =>
              clear H'
              try clear c1
              try clear p1
              try clear q1
              try clear hx1
              try clear c2
              try clear p2
              try clear c3
              try clear c4
              try clear c4b0
              try clear c4b1
              try clear c5
              try clear p6
              try clear c7
              try clear c7b0
              try clear c8
              try clear c10
              try clear c11
              try clear c11b0
              try clear c12
              try clear c12b0
              try clear c12b1
              try clear c12b2
              try clear c13
              try clear c15
              try clear c15b0
              try clear c15b1
              try clear c15b2
              try clear c16
              try clear c16b0
              try clear c16b1
              try clear c16b2
              try clear c17
              try clear c17b0
              try clear c17b1
              try clear c17b2
              try clear p17
              try clear q17
              try clear hx17
              try clear c18
              try clear c18b0
              try clear c18b1
              try clear c18b2
              try clear c19
              try clear c19b0
              try clear c19b1
              try clear c19b2
              try clear c20
              try clear c20b0
              try clear c20b1
              try clear c20b2
              try clear c22
              try clear c22b0
              try clear c22b1
              try clear c22b2
              try clear c23
              try clear c23b0
              try clear c23b1
              try clear c23b2
              try clear c24
              try clear c24b0
              try clear c24b1
              try clear c24b2
              try clear c25
              try clear c25b0
              try clear c25b1
              try clear c25b2
              try clear c26
              try clear c26b0
              try clear c26b1
              try clear c26b2
              try clear c28
              try clear c28b0
              try clear c28b1
              try clear c28b2
              try clear c29
              try clear c29b0
              try clear c29b1
              try clear c29b2
              try clear c37
              try clear c37b0
              try clear c38
              try clear c38b0
              try clear c39
              try clear c39b0
              try clear c41
              try clear c41b0
              try clear c41b1
              try clear c42
              try clear c42b0
              try clear c42b1
              try clear c46
              try clear c46b0
              try clear c46b1
              try clear c46b2
              try clear c48
              try clear c48b0
              try clear c48b1
              try clear c49
              try clear c49b0
              try clear c49b1
              try clear c55
              try clear c55b0
              try clear c55b1
              try clear c58
              try clear c58b0
              try clear c59
              try clear hx178_0
              try clear p1
              try clear p17
              try clear p178
              try clear p2
              try clear p6
              try clear q1
              try clear q17
              try clear q178
              obtain ⟨x9_2, x37_2, rfl, rfl, HA, HK2, HB⟩ := hrel
              cases gk with
              | zero => exact absurd HA.out (by simp [parterrelaw02_NumberAlike.l0])
              | succ k2 =>
                have H := HA.out
                clear HA
                simp only [parterrelaw02_NumberAlike.l0] at H
                by_cases c62 : x37_2 < (wrap64 (Int.tmod (IntKind.u64.wrap (a1)) 20))
                · rw [if_pos c62] at H
                  have c62b0 : decide (x37_2 < (wrap64 (Int.tmod (IntKind.u64.wrap (a1)) 20))) = true := decide_eq_true c62
                  clear c62
                  by_cases c63 : x9_2.size + 1 ≤ 9223372036854775807
                  · rw [if_pos c63] at H
                    have c63b0 := eq_true c63
                    have c63b1 : decide (x9_2.size + 1 ≤ 9223372036854775807) = true := decide_eq_true c63
                    try have c63b2 : (9223372036854775807 < x9_2.size + 1) = False := eq_false (Nat.not_lt.2 c63)
                    have H' := Aside0.mk H
                    clear H
                    go_wp2
                    go_roundg k2
                    case measure => have := HJ56.out; have := HK2.out; omega
                    case rel => exact ⟨(x9_2 ++ (⟨#[48]⟩ : ByteArray)), (wrap64 (x37_2 + 1)), (by first | rfl | (simp; done) | (simp [*]; done)), (by first | rfl | (simp; done) | (simp [*]; done)), H', ⟨by have := HJ56.out; have := HK2.out; omega⟩, ⟨by repeat (first | (with_reducible first | exact HB.out | apply below_alloc | apply pw_below_drewN | apply below_drew1) | exact HB.out)⟩⟩
                  · rw [if_neg c63] at H
                    exact absurd H (by simp)
                · rw [if_neg c62] at H
                  have c62b0 : decide (x37_2 < (wrap64 (Int.tmod (IntKind.u64.wrap (a1)) 20))) = false := decide_eq_false c62
                  clear c62
                  replace H := Option.bind_eq_some_iff.mp H
                  obtain ⟨t170, A640, H⟩ := H
                  replace H : ((number_Value.f k2 t170 64).bind fun bt171 => (if x9_2.size + t170.size ≤ 9223372036854775807 then (if t170.size + 2 ≤ 9223372036854775807 then (if (t170 ++ (⟨#[46, 48]⟩ : ByteArray)).size + x9_2.size ≤ 9223372036854775807 then (if 1 + t170.size ≤ 9223372036854775807 then (if t170.size + x9_2.size ≤ 9223372036854775807 then (if (t170 ++ x9_2).size + 2 ≤ 9223372036854775807 then ((number_Text.f k2 (wrap64 (Int.tmod (IntKind.u64.wrap (a1)) 20)) 1).bind fun t173 => (if ((t170 ++ x9_2) ++ (⟨#[101, 45]⟩ : ByteArray)).size + t173.size ≤ 9223372036854775807 then (if x9_2.size + 1 ≤ 9223372036854775807 then (if (x9_2 ++ (⟨#[46]⟩ : ByteArray)).size + x9_2.size ≤ 9223372036854775807 then (if ((x9_2 ++ (⟨#[46]⟩ : ByteArray)) ++ x9_2).size + t170.size ≤ 9223372036854775807 then (if (((x9_2 ++ (⟨#[46]⟩ : ByteArray)) ++ x9_2) ++ t170).size + 1 ≤ 9223372036854775807 then ((number_Text.f k2 (wrap64 ((wrap64 (Int.tmod (IntKind.u64.wrap (a1)) 20)) + (t170.size : Int))) 1).bind fun t174 => (if ((((x9_2 ++ (⟨#[46]⟩ : ByteArray)) ++ x9_2) ++ t170) ++ (⟨#[69]⟩ : ByteArray)).size + t174.size ≤ 9223372036854775807 then (if (t170 ++ (⟨#[101, 48]⟩ : ByteArray)).size + x9_2.size ≤ 9223372036854775807 then ((some (([x9_2 ++ t170, (t170 ++ (⟨#[46, 48]⟩ : ByteArray)) ++ x9_2, (⟨#[43]⟩ : ByteArray) ++ t170, ((t170 ++ x9_2) ++ (⟨#[101, 45]⟩ : ByteArray)) ++ t173, ((((x9_2 ++ (⟨#[46]⟩ : ByteArray)) ++ x9_2) ++ t170) ++ (⟨#[69]⟩ : ByteArray)) ++ t174, (t170 ++ (⟨#[101, 48]⟩ : ByteArray)) ++ x9_2] : List ByteArray) : List ByteArray)).bind fun y175 => (parterrelaw02_NumberAlike.l1 k2 64 t170 bt171.1 bt171.2 y175 (y175.length : Int) 0)) else (none)) else (none))) else (none)) else (none)) else (none)) else (none)) else (none))) else (none)) else (none)) else (none)) else (none)) else (none)) else (none))) = some r := H
                  have A64 := Aside0.mk A640
                  clear A640
                  replace H := Option.bind_eq_some_iff.mp H
                  obtain ⟨⟨t171, t172⟩, A650, H⟩ := H
                  replace H : (if x9_2.size + t170.size ≤ 9223372036854775807 then (if t170.size + 2 ≤ 9223372036854775807 then (if (t170 ++ (⟨#[46, 48]⟩ : ByteArray)).size + x9_2.size ≤ 9223372036854775807 then (if 1 + t170.size ≤ 9223372036854775807 then (if t170.size + x9_2.size ≤ 9223372036854775807 then (if (t170 ++ x9_2).size + 2 ≤ 9223372036854775807 then ((number_Text.f k2 (wrap64 (Int.tmod (IntKind.u64.wrap (a1)) 20)) 1).bind fun t173 => (if ((t170 ++ x9_2) ++ (⟨#[101, 45]⟩ : ByteArray)).size + t173.size ≤ 9223372036854775807 then (if x9_2.size + 1 ≤ 9223372036854775807 then (if (x9_2 ++ (⟨#[46]⟩ : ByteArray)).size + x9_2.size ≤ 9223372036854775807 then (if ((x9_2 ++ (⟨#[46]⟩ : ByteArray)) ++ x9_2).size + t170.size ≤ 9223372036854775807 then (if (((x9_2 ++ (⟨#[46]⟩ : ByteArray)) ++ x9_2) ++ t170).size + 1 ≤ 9223372036854775807 then ((number_Text.f k2 (wrap64 ((wrap64 (Int.tmod (IntKind.u64.wrap (a1)) 20)) + (t170.size : Int))) 1).bind fun t174 => (if ((((x9_2 ++ (⟨#[46]⟩ : ByteArray)) ++ x9_2) ++ t170) ++ (⟨#[69]⟩ : ByteArray)).size + t174.size ≤ 9223372036854775807 then (if (t170 ++ (⟨#[101, 48]⟩ : ByteArray)).size + x9_2.size ≤ 9223372036854775807 then ((some (([x9_2 ++ t170, (t170 ++ (⟨#[46, 48]⟩ : ByteArray)) ++ x9_2, (⟨#[43]⟩ : ByteArray) ++ t170, ((t170 ++ x9_2) ++ (⟨#[101, 45]⟩ : ByteArray)) ++ t173, ((((x9_2 ++ (⟨#[46]⟩ : ByteArray)) ++ x9_2) ++ t170) ++ (⟨#[69]⟩ : ByteArray)) ++ t174, (t170 ++ (⟨#[101, 48]⟩ : ByteArray)) ++ x9_2] : List ByteArray) : List ByteArray)).bind fun y175 => (parterrelaw02_NumberAlike.l1 k2 64 t170 t171 t172 y175 (y175.length : Int) 0)) else (none)) else (none))) else (none)) else (none)) else (none)) else (none)) else (none))) else (none)) else (none)) else (none)) else (none)) else (none)) else (none)) = some r := H
                  have A65 := Aside0.mk A650
                  clear A650
                  by_cases c66 : x9_2.size + t170.size ≤ 9223372036854775807
                  · rw [if_pos c66] at H
                    have c66b0 := eq_true c66
                    have c66b1 : decide (x9_2.size + t170.size ≤ 9223372036854775807) = true := decide_eq_true c66
                    try have c66b2 : (9223372036854775807 < x9_2.size + t170.size) = False := eq_false (Nat.not_lt.2 c66)
                    by_cases c67 : t170.size + 2 ≤ 9223372036854775807
                    · rw [if_pos c67] at H
                      have c67b0 := eq_true c67
                      have c67b1 : decide (t170.size + 2 ≤ 9223372036854775807) = true := decide_eq_true c67
                      try have c67b2 : (9223372036854775807 < t170.size + 2) = False := eq_false (Nat.not_lt.2 c67)
                      by_cases c68 : (t170 ++ (⟨#[46, 48]⟩ : ByteArray)).size + x9_2.size ≤ 9223372036854775807
                      · rw [if_pos c68] at H
                        have c68b0 := eq_true c68
                        have c68b1 : decide ((t170 ++ (⟨#[46, 48]⟩ : ByteArray)).size + x9_2.size ≤ 9223372036854775807) = true := decide_eq_true c68
                        try have c68b2 : (9223372036854775807 < (t170 ++ (⟨#[46, 48]⟩ : ByteArray)).size + x9_2.size) = False := eq_false (Nat.not_lt.2 c68)
                        try have c68b3 : (9223372036854775807 < t170.size + 2 + x9_2.size) = False := eq_false (Nat.not_lt.2 (by have h_ := c68; simp only [ByteArray.size_append] at h_; exact h_))
                        by_cases c69 : 1 + t170.size ≤ 9223372036854775807
                        · rw [if_pos c69] at H
                          have c69b0 := eq_true c69
                          have c69b1 : decide (1 + t170.size ≤ 9223372036854775807) = true := decide_eq_true c69
                          try have c69b2 : (9223372036854775807 < 1 + t170.size) = False := eq_false (Nat.not_lt.2 c69)
                          by_cases c70 : t170.size + x9_2.size ≤ 9223372036854775807
                          · rw [if_pos c70] at H
                            have c70b0 := eq_true c70
                            have c70b1 : decide (t170.size + x9_2.size ≤ 9223372036854775807) = true := decide_eq_true c70
                            try have c70b2 : (9223372036854775807 < t170.size + x9_2.size) = False := eq_false (Nat.not_lt.2 c70)
                            by_cases c71 : (t170 ++ x9_2).size + 2 ≤ 9223372036854775807
                            · rw [if_pos c71] at H
                              have c71b0 := eq_true c71
                              have c71b1 : decide ((t170 ++ x9_2).size + 2 ≤ 9223372036854775807) = true := decide_eq_true c71
                              try have c71b2 : (9223372036854775807 < (t170 ++ x9_2).size + 2) = False := eq_false (Nat.not_lt.2 c71)
                              try have c71b3 : (9223372036854775807 < t170.size + x9_2.size + 2) = False := eq_false (Nat.not_lt.2 (by rw [← ByteArray.size_append]; exact c71))
                              try have c71b3 : (9223372036854775807 < t170.size + x9_2.size + 2) = False := eq_false (Nat.not_lt.2 (by rw [← ByteArray.size_append]; exact c71))
                              replace H := Option.bind_eq_some_iff.mp H
                              obtain ⟨t173, A720, H⟩ := H
                              replace H : (if ((t170 ++ x9_2) ++ (⟨#[101, 45]⟩ : ByteArray)).size + t173.size ≤ 9223372036854775807 then (if x9_2.size + 1 ≤ 9223372036854775807 then (if (x9_2 ++ (⟨#[46]⟩ : ByteArray)).size + x9_2.size ≤ 9223372036854775807 then (if ((x9_2 ++ (⟨#[46]⟩ : ByteArray)) ++ x9_2).size + t170.size ≤ 9223372036854775807 then (if (((x9_2 ++ (⟨#[46]⟩ : ByteArray)) ++ x9_2) ++ t170).size + 1 ≤ 9223372036854775807 then ((number_Text.f k2 (wrap64 ((wrap64 (Int.tmod (IntKind.u64.wrap (a1)) 20)) + (t170.size : Int))) 1).bind fun t174 => (if ((((x9_2 ++ (⟨#[46]⟩ : ByteArray)) ++ x9_2) ++ t170) ++ (⟨#[69]⟩ : ByteArray)).size + t174.size ≤ 9223372036854775807 then (if (t170 ++ (⟨#[101, 48]⟩ : ByteArray)).size + x9_2.size ≤ 9223372036854775807 then ((some (([x9_2 ++ t170, (t170 ++ (⟨#[46, 48]⟩ : ByteArray)) ++ x9_2, (⟨#[43]⟩ : ByteArray) ++ t170, ((t170 ++ x9_2) ++ (⟨#[101, 45]⟩ : ByteArray)) ++ t173, ((((x9_2 ++ (⟨#[46]⟩ : ByteArray)) ++ x9_2) ++ t170) ++ (⟨#[69]⟩ : ByteArray)) ++ t174, (t170 ++ (⟨#[101, 48]⟩ : ByteArray)) ++ x9_2] : List ByteArray) : List ByteArray)).bind fun y175 => (parterrelaw02_NumberAlike.l1 k2 64 t170 t171 t172 y175 (y175.length : Int) 0)) else (none)) else (none))) else (none)) else (none)) else (none)) else (none)) else (none)) = some r := H
                              have A72 := Aside0.mk A720
                              clear A720
                              by_cases c73 : ((t170 ++ x9_2) ++ (⟨#[101, 45]⟩ : ByteArray)).size + t173.size ≤ 9223372036854775807
                              · rw [if_pos c73] at H
                                have c73b0 := eq_true c73
                                have c73b1 : decide (((t170 ++ x9_2) ++ (⟨#[101, 45]⟩ : ByteArray)).size + t173.size ≤ 9223372036854775807) = true := decide_eq_true c73
                                try have c73b2 : (9223372036854775807 < ((t170 ++ x9_2) ++ (⟨#[101, 45]⟩ : ByteArray)).size + t173.size) = False := eq_false (Nat.not_lt.2 c73)
                                try have c73b3 : (9223372036854775807 < t170.size + x9_2.size + 2 + t173.size) = False := eq_false (Nat.not_lt.2 (by have h_ := c73; simp only [ByteArray.size_append] at h_; exact h_))
                                by_cases c74 : x9_2.size + 1 ≤ 9223372036854775807
                                · rw [if_pos c74] at H
                                  have c74b0 := eq_true c74
                                  have c74b1 : decide (x9_2.size + 1 ≤ 9223372036854775807) = true := decide_eq_true c74
                                  try have c74b2 : (9223372036854775807 < x9_2.size + 1) = False := eq_false (Nat.not_lt.2 c74)
                                  by_cases c75 : (x9_2 ++ (⟨#[46]⟩ : ByteArray)).size + x9_2.size ≤ 9223372036854775807
                                  · rw [if_pos c75] at H
                                    have c75b0 := eq_true c75
                                    have c75b1 : decide ((x9_2 ++ (⟨#[46]⟩ : ByteArray)).size + x9_2.size ≤ 9223372036854775807) = true := decide_eq_true c75
                                    try have c75b2 : (9223372036854775807 < (x9_2 ++ (⟨#[46]⟩ : ByteArray)).size + x9_2.size) = False := eq_false (Nat.not_lt.2 c75)
                                    try have c75b3 : (9223372036854775807 < x9_2.size + 1 + x9_2.size) = False := eq_false (Nat.not_lt.2 (by have h_ := c75; simp only [ByteArray.size_append] at h_; exact h_))
                                    by_cases c76 : ((x9_2 ++ (⟨#[46]⟩ : ByteArray)) ++ x9_2).size + t170.size ≤ 9223372036854775807
                                    · rw [if_pos c76] at H
                                      have c76b0 := eq_true c76
                                      have c76b1 : decide (((x9_2 ++ (⟨#[46]⟩ : ByteArray)) ++ x9_2).size + t170.size ≤ 9223372036854775807) = true := decide_eq_true c76
                                      try have c76b2 : (9223372036854775807 < ((x9_2 ++ (⟨#[46]⟩ : ByteArray)) ++ x9_2).size + t170.size) = False := eq_false (Nat.not_lt.2 c76)
                                      try have c76b3 : (9223372036854775807 < x9_2.size + 1 + x9_2.size + t170.size) = False := eq_false (Nat.not_lt.2 (by have h_ := c76; simp only [ByteArray.size_append] at h_; exact h_))
                                      by_cases c77 : (((x9_2 ++ (⟨#[46]⟩ : ByteArray)) ++ x9_2) ++ t170).size + 1 ≤ 9223372036854775807
                                      · rw [if_pos c77] at H
                                        have c77b0 := eq_true c77
                                        have c77b1 : decide ((((x9_2 ++ (⟨#[46]⟩ : ByteArray)) ++ x9_2) ++ t170).size + 1 ≤ 9223372036854775807) = true := decide_eq_true c77
                                        try have c77b2 : (9223372036854775807 < (((x9_2 ++ (⟨#[46]⟩ : ByteArray)) ++ x9_2) ++ t170).size + 1) = False := eq_false (Nat.not_lt.2 c77)
                                        try have c77b3 : (9223372036854775807 < x9_2.size + 1 + x9_2.size + t170.size + 1) = False := eq_false (Nat.not_lt.2 (by have h_ := c77; simp only [ByteArray.size_append] at h_; exact h_))
                                        replace H := Option.bind_eq_some_iff.mp H
                                        obtain ⟨t174, A780, H⟩ := H
                                        replace H : (if ((((x9_2 ++ (⟨#[46]⟩ : ByteArray)) ++ x9_2) ++ t170) ++ (⟨#[69]⟩ : ByteArray)).size + t174.size ≤ 9223372036854775807 then (if (t170 ++ (⟨#[101, 48]⟩ : ByteArray)).size + x9_2.size ≤ 9223372036854775807 then ((some (([x9_2 ++ t170, (t170 ++ (⟨#[46, 48]⟩ : ByteArray)) ++ x9_2, (⟨#[43]⟩ : ByteArray) ++ t170, ((t170 ++ x9_2) ++ (⟨#[101, 45]⟩ : ByteArray)) ++ t173, ((((x9_2 ++ (⟨#[46]⟩ : ByteArray)) ++ x9_2) ++ t170) ++ (⟨#[69]⟩ : ByteArray)) ++ t174, (t170 ++ (⟨#[101, 48]⟩ : ByteArray)) ++ x9_2] : List ByteArray) : List ByteArray)).bind fun y175 => (parterrelaw02_NumberAlike.l1 k2 64 t170 t171 t172 y175 (y175.length : Int) 0)) else (none)) else (none)) = some r := H
                                        have A78 := Aside0.mk A780
                                        clear A780
                                        by_cases c79 : ((((x9_2 ++ (⟨#[46]⟩ : ByteArray)) ++ x9_2) ++ t170) ++ (⟨#[69]⟩ : ByteArray)).size + t174.size ≤ 9223372036854775807
                                        · rw [if_pos c79] at H
                                          have c79b0 := eq_true c79
                                          have c79b1 : decide (((((x9_2 ++ (⟨#[46]⟩ : ByteArray)) ++ x9_2) ++ t170) ++ (⟨#[69]⟩ : ByteArray)).size + t174.size ≤ 9223372036854775807) = true := decide_eq_true c79
                                          try have c79b2 : (9223372036854775807 < ((((x9_2 ++ (⟨#[46]⟩ : ByteArray)) ++ x9_2) ++ t170) ++ (⟨#[69]⟩ : ByteArray)).size + t174.size) = False := eq_false (Nat.not_lt.2 c79)
                                          try have c79b3 : (9223372036854775807 < x9_2.size + 1 + x9_2.size + t170.size + 1 + t174.size) = False := eq_false (Nat.not_lt.2 (by have h_ := c79; simp only [ByteArray.size_append] at h_; exact h_))
                                          by_cases c80 : (t170 ++ (⟨#[101, 48]⟩ : ByteArray)).size + x9_2.size ≤ 9223372036854775807
                                          · rw [if_pos c80] at H
                                            have c80b0 := eq_true c80
                                            have c80b1 : decide ((t170 ++ (⟨#[101, 48]⟩ : ByteArray)).size + x9_2.size ≤ 9223372036854775807) = true := decide_eq_true c80
                                            try have c80b2 : (9223372036854775807 < (t170 ++ (⟨#[101, 48]⟩ : ByteArray)).size + x9_2.size) = False := eq_false (Nat.not_lt.2 c80)
                                            try have c80b3 : (9223372036854775807 < t170.size + 2 + x9_2.size) = False := eq_false (Nat.not_lt.2 (by have h_ := c80; simp only [ByteArray.size_append] at h_; exact h_))
                                            obtain ⟨y175, hy175⟩ : ∃ y_ : List ByteArray, y_ = (([x9_2 ++ t170, (t170 ++ (⟨#[46, 48]⟩ : ByteArray)) ++ x9_2, (⟨#[43]⟩ : ByteArray) ++ t170, ((t170 ++ x9_2) ++ (⟨#[101, 45]⟩ : ByteArray)) ++ t173, ((((x9_2 ++ (⟨#[46]⟩ : ByteArray)) ++ x9_2) ++ t170) ++ (⟨#[69]⟩ : ByteArray)) ++ t174, (t170 ++ (⟨#[101, 48]⟩ : ByteArray)) ++ x9_2] : List ByteArray)) := ⟨_, rfl⟩
                                            replace H : (parterrelaw02_NumberAlike.l1 k2 64 t170 t171 t172 y175 (y175.length : Int) 0) = some r := by first | (rw [hy175]; with_reducible exact H) | (have H2_ := (Option.bind_some _ _).symm.trans H; rw [hy175]; with_reducible exact H2_) | (have H2_ := (Option.bind_some _ _).symm.trans H; with_reducible exact H2_) | with_reducible exact H | (rw [hy175]; exact H) | exact H
                                            have Ny175 := Aside0.mk hy175
                                            clear hy175
                                            have H' := Aside0.mk H
                                            clear H
                                            go_wp2_with (first | ((with_reducible refine gate_callee (f := 15) rfl ?_); refine goesL_ (some 43) rfl rfl Tryd.func15 (by kernel_rfl) rfl #[.int .i64 a0, .int .i64 1] rfl (by (try simp only [List.map_toArray, List.map_cons, List.map_nil]); first | done | rfl | (simp only [List.length_drop, List.length_take]; rfl)) ?_; (with_reducible refine (number_Text.calls k2 a0 1 t170 _ A64.out (Tbl.tab0_stays HTB.out (by repeat (first | (with_reducible first | exact HB.out | apply below_alloc | apply pw_below_drewN | apply below_drew1) | exact HB.out)))).mono ?_); rintro e w81 ⟨rfl, hb⟩; refine ⟨_, rfl, ?_⟩; have n0_ := Aside0.mk (below_step (by repeat (first | (with_reducible first | exact HB.out | apply below_alloc | apply pw_below_drewN | apply below_drew1) | exact HB.out)) hb); clear HB; have HB := n0_; clear n0_; (try clear hb); (try clear hb2); (try clear hk); (try clear hi)) | ((with_reducible refine gate_callee (f := 13) rfl ?_); refine goesL_ (some 47) rfl rfl Tryd.func13 (by kernel_rfl) rfl #[.string t170, .int .i64 64] rfl (by (try simp only [List.map_toArray, List.map_cons, List.map_nil]); first | done | rfl | (simp only [List.length_drop, List.length_take]; rfl)) ?_; (with_reducible refine (number_Value.calls k2 t170 64 t171 t172 _ A65.out).mono ?_); rintro e w82 ⟨rfl, hb⟩; refine ⟨_, rfl, ?_⟩; have n0_ := Aside0.mk (below_step (by repeat (first | (with_reducible first | exact HB.out | apply below_alloc | apply pw_below_drewN | apply below_drew1) | exact HB.out)) hb); clear HB; have HB := n0_; clear n0_; (try clear hb); (try clear hb2); (try clear hk); (try clear hi)) | ((with_reducible refine gate_callee (f := 15) rfl ?_); refine goesL_ (some 64) rfl rfl Tryd.func15 (by kernel_rfl) rfl #[.int .i64 (wrap64 (Int.tmod (IntKind.u64.wrap (a1)) 20)), .int .i64 1] rfl (by (try simp only [List.map_toArray, List.map_cons, List.map_nil]); first | done | rfl | (simp only [List.length_drop, List.length_take]; rfl)) ?_; (with_reducible refine (number_Text.calls k2 (wrap64 (Int.tmod (IntKind.u64.wrap (a1)) 20)) 1 t173 _ A72.out (Tbl.tab0_stays HTB.out (by repeat (first | (with_reducible first | exact HB.out | apply below_alloc | apply pw_below_drewN | apply below_drew1) | exact HB.out)))).mono ?_); rintro e w83 ⟨rfl, hb⟩; refine ⟨_, rfl, ?_⟩; have n0_ := Aside0.mk (below_step (by repeat (first | (with_reducible first | exact HB.out | apply below_alloc | apply pw_below_drewN | apply below_drew1) | exact HB.out)) hb); clear HB; have HB := n0_; clear n0_; (try clear hb); (try clear hb2); (try clear hk); (try clear hi)) | ((with_reducible refine gate_callee (f := 15) rfl ?_); refine goesL_ (some 77) rfl rfl Tryd.func15 (by kernel_rfl) rfl #[.int .i64 (wrap64 ((wrap64 (Int.tmod (IntKind.u64.wrap (a1)) 20)) + (t170.size : Int))), .int .i64 1] rfl (by (try simp only [List.map_toArray, List.map_cons, List.map_nil]); first | done | rfl | (simp only [List.length_drop, List.length_take]; rfl)) ?_; (with_reducible refine (number_Text.calls k2 (wrap64 ((wrap64 (Int.tmod (IntKind.u64.wrap (a1)) 20)) + (t170.size : Int))) 1 t174 _ A78.out (Tbl.tab0_stays HTB.out (by repeat (first | (with_reducible first | exact HB.out | apply below_alloc | apply pw_below_drewN | apply below_drew1) | exact HB.out)))).mono ?_); rintro e w84 ⟨rfl, hb⟩; refine ⟨_, rfl, ?_⟩; have n0_ := Aside0.mk (below_step (by repeat (first | (with_reducible first | exact HB.out | apply below_alloc | apply pw_below_drewN | apply below_drew1) | exact HB.out)) hb); clear HB; have HB := n0_; clear n0_; (try clear hb); (try clear hb2); (try clear hk); (try clear hi)) | ((with_reducible refine gate_dst (N := 83) rfl ?_); refine Kd.R_lit Kd.string _ 9 ?hg (N := 83) ?hd (xs := ([x9_2 ++ t170, (t170 ++ (⟨#[46, 48]⟩ : ByteArray)) ++ x9_2, (⟨#[43]⟩ : ByteArray) ++ t170, ((t170 ++ x9_2) ++ (⟨#[101, 45]⟩ : ByteArray)) ++ t173, ((((x9_2 ++ (⟨#[46]⟩ : ByteArray)) ++ x9_2) ++ t170) ++ (⟨#[69]⟩ : ByteArray)) ++ t174, (t170 ++ (⟨#[101, 48]⟩ : ByteArray)) ++ x9_2] : List ByteArray)) (inner := [.string (x9_2 ++ t170), .string ((t170 ++ (⟨#[46, 48]⟩ : ByteArray)) ++ x9_2), .string ((⟨#[43]⟩ : ByteArray) ++ t170), .string (((t170 ++ x9_2) ++ (⟨#[101, 45]⟩ : ByteArray)) ++ t173), .string (((((x9_2 ++ (⟨#[46]⟩ : ByteArray)) ++ x9_2) ++ t170) ++ (⟨#[69]⟩ : ByteArray)) ++ t174), .string ((t170 ++ (⟨#[101, 48]⟩ : ByteArray)) ++ x9_2)]) (ok := fun _ => True) (okp := fun _ => True) ?hr ?hp (fun _ hk => hk) trivial (Below.refl _ _) (Nat.le_refl _) (by simp) ?_; (case hd => rfl); (case hg => rfl); (case hr => first | (go_simp; done) | (go_simp; rfl)); (case hp => exact (Reps.one (show Kd.M Kd.string _ _ _ (x9_2 ++ t170) [.string (x9_2 ++ t170)] from rfl) (Reps.one (show Kd.M Kd.string _ _ _ ((t170 ++ (⟨#[46, 48]⟩ : ByteArray)) ++ x9_2) [.string ((t170 ++ (⟨#[46, 48]⟩ : ByteArray)) ++ x9_2)] from rfl) (Reps.one (show Kd.M Kd.string _ _ _ ((⟨#[43]⟩ : ByteArray) ++ t170) [.string ((⟨#[43]⟩ : ByteArray) ++ t170)] from rfl) (Reps.one (show Kd.M Kd.string _ _ _ (((t170 ++ x9_2) ++ (⟨#[101, 45]⟩ : ByteArray)) ++ t173) [.string (((t170 ++ x9_2) ++ (⟨#[101, 45]⟩ : ByteArray)) ++ t173)] from rfl) (Reps.one (show Kd.M Kd.string _ _ _ (((((x9_2 ++ (⟨#[46]⟩ : ByteArray)) ++ x9_2) ++ t170) ++ (⟨#[69]⟩ : ByteArray)) ++ t174) [.string (((((x9_2 ++ (⟨#[46]⟩ : ByteArray)) ++ x9_2) ++ t170) ++ (⟨#[69]⟩ : ByteArray)) ++ t174)] from rfl) (Reps.one (show Kd.M Kd.string _ _ _ ((t170 ++ (⟨#[101, 48]⟩ : ByteArray)) ++ x9_2) [.string ((t170 ++ (⟨#[101, 48]⟩ : ByteArray)) ++ x9_2)] from rfl) (Reps.none _ _)))))))); intro v176 w85 ho86 hb hg_ hnew_; clear hg_ hnew_; (first | rw [← Ny175.out] at ho86 | (simp only [Int.reduceToNat] at ho86; rw [← Ny175.out] at ho86)); have n0_ := Aside0.mk (Kd.R_lower ho86 (below_size (by repeat (first | (with_reducible first | exact HB.out | apply below_alloc | apply pw_below_drewN | apply below_drew1) | exact HB.out)))); have n1_ := Aside0.mk (below_step (by repeat (first | (with_reducible first | exact HB.out | apply below_alloc | apply pw_below_drewN | apply below_drew1) | exact HB.out)) hb); clear HB; have HO177 := n0_; have HB := n1_; clear n0_ n1_; clear hb ho86; obtain ⟨Ao87, co87, eo87⟩ := Kd.R_slice HO177.out; subst eo87))
                                            go_loopg [85] k2 (fun kq v85 w' => ∃ (x85_3 : Int), v85 = .int .i64 x85_3 ∧ Aside0 (parterrelaw02_NumberAlike.l1 kq 64 t170 t171 t172 y175 (y175.length : Int) x85_3 = some r) ∧ Aside0 (kq ≤ k2) ∧ Aside0 (Kd.R Kd.string 9 w' w.heap.size (fun _ => True) (.slice Ao87 y175.length co87) y175) ∧ Aside0 (Below w.heap.size w w'))
                                            case atStart => exact ⟨(0), (by first | rfl | (simp; done) | (simp [*]; done)), H', ⟨Nat.le_refl _⟩, ⟨by (with_reducible repeat (first | apply Kd.R_alloc | apply Kd.R_drewN | apply Kd.R_drew)); exact HO177.out⟩, ⟨by repeat (first | (with_reducible first | exact HB.out | apply below_alloc | apply pw_below_drewN | apply below_drew1) | exact HB.out)⟩⟩
                                            case round =>
                                              clear H'
                                              try clear c1
                                              try clear p1
                                              try clear q1
                                              try clear hx1
                                              try clear c2
                                              try clear p2
                                              try clear c3
                                              try clear c4
                                              try clear c4b0
                                              try clear c4b1
                                              try clear c5
                                              try clear c6
                                              try clear p6
                                              try clear c7
                                              try clear c7b0
                                              try clear c8
                                              try clear c10
                                              try clear c11
                                              try clear c11b0
                                              try clear c12
                                              try clear c12b0
                                              try clear c12b1
                                              try clear c12b2
                                              try clear c13
                                              try clear c15
                                              try clear c15b0
                                              try clear c15b1
                                              try clear c15b2
                                              try clear c16
                                              try clear c16b0
                                              try clear c16b1
                                              try clear c16b2
                                              try clear c17
                                              try clear c17b0
                                              try clear c17b1
                                              try clear c17b2
                                              try clear p17
                                              try clear q17
                                              try clear hx17
                                              try clear c18
                                              try clear c18b0
                                              try clear c18b1
                                              try clear c18b2
                                              try clear c19
                                              try clear c19b0
                                              try clear c19b1
                                              try clear c19b2
                                              try clear c20
                                              try clear c20b0
                                              try clear c20b1
                                              try clear c20b2
                                              try clear c22
                                              try clear c22b0
                                              try clear c22b1
                                              try clear c22b2
                                              try clear c23
                                              try clear c23b0
                                              try clear c23b1
                                              try clear c23b2
                                              try clear c24
                                              try clear c24b0
                                              try clear c24b1
                                              try clear c24b2
                                              try clear c25
                                              try clear c25b0
                                              try clear c25b1
                                              try clear c25b2
                                              try clear c26
                                              try clear c26b0
                                              try clear c26b1
                                              try clear c26b2
                                              try clear c28
                                              try clear c28b0
                                              try clear c28b1
                                              try clear c28b2
                                              try clear c29
                                              try clear c29b0
                                              try clear c29b1
                                              try clear c29b2
                                              try clear c37
                                              try clear c37b0
                                              try clear c38
                                              try clear c38b0
                                              try clear c39
                                              try clear c39b0
                                              try clear c41
                                              try clear c41b0
                                              try clear c41b1
                                              try clear c42
                                              try clear c42b0
                                              try clear c42b1
                                              try clear c46
                                              try clear c46b0
                                              try clear c46b1
                                              try clear c46b2
                                              try clear c48
                                              try clear c48b0
                                              try clear c48b1
                                              try clear c49
                                              try clear c49b0
                                              try clear c49b1
                                              try clear c55
                                              try clear c55b0
                                              try clear c55b1
                                              try clear c58
                                              try clear c58b0
                                              try clear c59
                                              try clear c62
                                              try clear c62b0
                                              try clear c63
                                              try clear c63b0
                                              try clear c63b1
                                              try clear c63b2
                                              try clear p64
                                              try clear c66
                                              try clear c66b0
                                              try clear c66b1
                                              try clear c66b2
                                              try clear c67
                                              try clear c67b0
                                              try clear c67b1
                                              try clear c67b2
                                              try clear c68
                                              try clear c68b0
                                              try clear c68b1
                                              try clear c68b2
                                              try clear c69
                                              try clear c69b0
                                              try clear c69b1
                                              try clear c69b2
                                              try clear c70
                                              try clear c70b0
                                              try clear c70b1
                                              try clear c70b2
                                              try clear c71
                                              try clear c71b0
                                              try clear c71b1
                                              try clear c71b2
                                              try clear c73
                                              try clear c73b0
                                              try clear c73b1
                                              try clear c73b2
                                              try clear c74
                                              try clear c74b0
                                              try clear c74b1
                                              try clear c74b2
                                              try clear c75
                                              try clear c75b0
                                              try clear c75b1
                                              try clear c75b2
                                              try clear c76
                                              try clear c76b0
                                              try clear c76b1
                                              try clear c76b2
                                              try clear c77
                                              try clear c77b0
                                              try clear c77b1
                                              try clear c77b2
                                              try clear c79
                                              try clear c79b0
                                              try clear c79b1
                                              try clear c79b2
                                              try clear c80
                                              try clear c80b0
                                              try clear c80b1
                                              try clear c80b2
                                              try clear hx178_0
                                              try clear p1
                                              try clear p17
                                              try clear p178
                                              try clear p2
                                              try clear p6
                                              try clear q1
                                              try clear q17
                                              try clear q178
                                              obtain ⟨x85_3, rfl, HA, HK3, HO_83, HB⟩ := hrel
                                              cases gk with
                                              | zero => exact absurd HA.out (by simp [parterrelaw02_NumberAlike.l1])
                                              | succ k3 =>
                                                have H := HA.out
                                                clear HA
                                                simp only [parterrelaw02_NumberAlike.l1] at H
                                                by_cases c88 : x85_3 < (y175.length : Int)
                                                · rw [if_pos c88] at H
                                                  have c88b0 : decide (x85_3 < (y175.length : Int)) = true := decide_eq_true c88
                                                  clear c88
                                                  by_cases c89 : 0 ≤ x85_3
                                                  · rw [if_pos c89] at H
                                                    have c89b0 : decide (0 ≤ x85_3) = true := decide_eq_true c89
                                                    clear c89
                                                    by_cases c90 : x85_3 < (y175.length : Int)
                                                    · rw [if_pos c90] at H
                                                      have c90b0 : decide (x85_3 < (y175.length : Int)) = true := decide_eq_true c90
                                                      clear c90
                                                      replace H := Option.bind_eq_some_iff.mp H
                                                      obtain ⟨⟨t179, t180⟩, A910, H⟩ := H
                                                      replace H : (if t172 = t180 then (if t179 = t171 then (parterrelaw02_NumberAlike.l1 k3 64 t170 t171 t172 y175 (y175.length : Int) (wrap64 (x85_3 + 1))) else (some false)) else (some false)) = some r := H
                                                      have A91 := Aside0.mk A910
                                                      clear A910
                                                      by_cases c92 : t172 = t180
                                                      · rw [if_pos c92] at H
                                                        have c92b0 : (t172 == t180) = true := beq_iff_eq.mpr c92
                                                        have c92b1 : (t172 != t180) = false := bne_eq_false_iff_eq.mpr c92
                                                        clear c92
                                                        by_cases c93 : t179 = t171
                                                        · rw [if_pos c93] at H
                                                          have c93b0 : (t179 == t171) = true := beq_iff_eq.mpr c93
                                                          have c93b1 : (t179 != t171) = false := bne_eq_false_iff_eq.mpr c93
                                                          clear c93
                                                          have H' := Aside0.mk H
                                                          clear H
                                                          have p178 : 0 ≤ (x85_3 : Int) := of_decide_eq_true (by first | (with_reducible assumption) | assumption)
                                                          have q178 : x85_3 < (y175.length : Int) := of_decide_eq_true (by first | (with_reducible assumption) | assumption)
                                                          obtain ⟨ad178, e178, hx178_0⟩ := Kd.at_string (Kd.R_reads' HO_83.out).2.2 x85_3 p178 q178
                                                          cases e178
                                                          replace p178 := eq_true p178
                                                          replace q178 := eq_true q178
                                                          go_wp2_with (first | ((with_reducible refine gate_callee (f := 13) rfl ?_); refine goesL_ (some 92) rfl rfl Tryd.func13 (by kernel_rfl) rfl #[.string (rdOf ByteArray.empty y175 x85_3), .int .i64 64] rfl (by (try simp only [List.map_toArray, List.map_cons, List.map_nil]); first | done | rfl | (simp only [List.length_drop, List.length_take]; rfl)) ?_; (with_reducible refine (number_Value.calls k3 (rdOf ByteArray.empty y175 x85_3) 64 t179 t180 _ A91.out).mono ?_); rintro e w94 ⟨rfl, hb⟩; refine ⟨_, rfl, ?_⟩; have n0_ := Aside0.mk (Kd.R_below (by (with_reducible repeat (first | apply Kd.R_alloc | apply Kd.R_drewN | apply Kd.R_drew)); exact HO_83.out) hb); have n1_ := Aside0.mk (below_step (by repeat (first | (with_reducible first | exact HB.out | apply below_alloc | apply pw_below_drewN | apply below_drew1) | exact HB.out)) hb); clear HO_83; clear HB; have HO_83 := n0_; have HB := n1_; clear n0_ n1_; (try clear hb); (try clear hb2); (try clear hk); (try clear hi)))
                                                          go_roundg k3
                                                          case measure => have := HJ56.out; have := HK2.out; have := HK3.out; omega
                                                          case rel => exact ⟨(wrap64 (x85_3 + 1)), (by first | rfl | (simp; done) | (simp [*]; done)), H', ⟨by have := HJ56.out; have := HK2.out; have := HK3.out; omega⟩, ⟨by (with_reducible repeat (first | apply Kd.R_alloc | apply Kd.R_drewN | apply Kd.R_drew)); exact HO_83.out⟩, ⟨by repeat (first | (with_reducible first | exact HB.out | apply below_alloc | apply pw_below_drewN | apply below_drew1) | exact HB.out)⟩⟩
                                                        · rw [if_neg c93] at H
                                                          have c93b0 : (t179 == t171) = false := beq_eq_false_iff_ne.mpr c93
                                                          have c93b1 : (t179 != t171) = true := bne_iff_ne.mpr c93
                                                          obtain rfl := Option.some.inj H
                                                          have p178 : 0 ≤ (x85_3 : Int) := of_decide_eq_true (by first | (with_reducible assumption) | assumption)
                                                          have q178 : x85_3 < (y175.length : Int) := of_decide_eq_true (by first | (with_reducible assumption) | assumption)
                                                          obtain ⟨ad178, e178, hx178_0⟩ := Kd.at_string (Kd.R_reads' HO_83.out).2.2 x85_3 p178 q178
                                                          cases e178
                                                          replace p178 := eq_true p178
                                                          replace q178 := eq_true q178
                                                          go_wp2_with (first | ((with_reducible refine gate_callee (f := 13) rfl ?_); refine goesL_ (some 92) rfl rfl Tryd.func13 (by kernel_rfl) rfl #[.string (rdOf ByteArray.empty y175 x85_3), .int .i64 64] rfl (by (try simp only [List.map_toArray, List.map_cons, List.map_nil]); first | done | rfl | (simp only [List.length_drop, List.length_take]; rfl)) ?_; (with_reducible refine (number_Value.calls k3 (rdOf ByteArray.empty y175 x85_3) 64 t179 t180 _ A91.out).mono ?_); rintro e w95 ⟨rfl, hb⟩; refine ⟨_, rfl, ?_⟩; have n0_ := Aside0.mk (Kd.R_below (by (with_reducible repeat (first | apply Kd.R_alloc | apply Kd.R_drewN | apply Kd.R_drew)); exact HO_83.out) hb); have n1_ := Aside0.mk (below_step (by repeat (first | (with_reducible first | exact HB.out | apply below_alloc | apply pw_below_drewN | apply below_drew1) | exact HB.out)) hb); clear HO_83; clear HB; have HO_83 := n0_; have HB := n1_; clear n0_ n1_; (try clear hb); (try clear hb2); (try clear hk); (try clear hi)))
                                                          go_ret
                                                          exact ⟨by first | rfl | (simp [errW_none, errW_some] <;> rfl) | (simp [*, errW_none, errW_some] <;> rfl), by repeat (first | (with_reducible first | exact HB.out | apply below_alloc | apply pw_below_drewN | apply below_drew1) | exact HB.out)⟩
                                                      · rw [if_neg c92] at H
                                                        have c92b0 : (t172 == t180) = false := beq_eq_false_iff_ne.mpr c92
                                                        have c92b1 : (t172 != t180) = true := bne_iff_ne.mpr c92
                                                        obtain rfl := Option.some.inj H
                                                        have p178 : 0 ≤ (x85_3 : Int) := of_decide_eq_true (by first | (with_reducible assumption) | assumption)
                                                        have q178 : x85_3 < (y175.length : Int) := of_decide_eq_true (by first | (with_reducible assumption) | assumption)
                                                        obtain ⟨ad178, e178, hx178_0⟩ := Kd.at_string (Kd.R_reads' HO_83.out).2.2 x85_3 p178 q178
                                                        cases e178
                                                        replace p178 := eq_true p178
                                                        replace q178 := eq_true q178
                                                        go_wp2_with (first | ((with_reducible refine gate_callee (f := 13) rfl ?_); refine goesL_ (some 92) rfl rfl Tryd.func13 (by kernel_rfl) rfl #[.string (rdOf ByteArray.empty y175 x85_3), .int .i64 64] rfl (by (try simp only [List.map_toArray, List.map_cons, List.map_nil]); first | done | rfl | (simp only [List.length_drop, List.length_take]; rfl)) ?_; (with_reducible refine (number_Value.calls k3 (rdOf ByteArray.empty y175 x85_3) 64 t179 t180 _ A91.out).mono ?_); rintro e w96 ⟨rfl, hb⟩; refine ⟨_, rfl, ?_⟩; have n0_ := Aside0.mk (Kd.R_below (by (with_reducible repeat (first | apply Kd.R_alloc | apply Kd.R_drewN | apply Kd.R_drew)); exact HO_83.out) hb); have n1_ := Aside0.mk (below_step (by repeat (first | (with_reducible first | exact HB.out | apply below_alloc | apply pw_below_drewN | apply below_drew1) | exact HB.out)) hb); clear HO_83; clear HB; have HO_83 := n0_; have HB := n1_; clear n0_ n1_; (try clear hb); (try clear hb2); (try clear hk); (try clear hi)))
                                                        go_ret
                                                        exact ⟨by first | rfl | (simp [errW_none, errW_some] <;> rfl) | (simp [*, errW_none, errW_some] <;> rfl), by repeat (first | (with_reducible first | exact HB.out | apply below_alloc | apply pw_below_drewN | apply below_drew1) | exact HB.out)⟩
                                                    · rw [if_neg c90] at H
                                                      exact absurd H (by simp)
                                                  · rw [if_neg c89] at H
                                                    exact absurd H (by simp)
                                                · rw [if_neg c88] at H
                                                  have c88b0 : decide (x85_3 < (y175.length : Int)) = false := decide_eq_false c88
                                                  clear c88
                                                  by_cases c97 : 1 + t170.size ≤ 9223372036854775807
                                                  · rw [if_pos c97] at H
                                                    have c97b0 := eq_true c97
                                                    have c97b1 : decide (1 + t170.size ≤ 9223372036854775807) = true := decide_eq_true c97
                                                    try have c97b2 : (9223372036854775807 < 1 + t170.size) = False := eq_false (Nat.not_lt.2 c97)
                                                    replace H := Option.bind_eq_some_iff.mp H
                                                    obtain ⟨⟨t181, t182⟩, A980, H⟩ := H
                                                    replace H : (if t172 = t182 then (if t181 = (wrap64 (-t171)) then ((parterrelaw02_lives.f k3).bind fun t183 => (some t183)) else (some false)) else (some false)) = some r := H
                                                    have A98 := Aside0.mk A980
                                                    clear A980
                                                    by_cases c99 : t172 = t182
                                                    · rw [if_pos c99] at H
                                                      have c99b0 : (t172 == t182) = true := beq_iff_eq.mpr c99
                                                      have c99b1 : (t172 != t182) = false := bne_eq_false_iff_eq.mpr c99
                                                      clear c99
                                                      by_cases c100 : t181 = (wrap64 (-t171))
                                                      · rw [if_pos c100] at H
                                                        have c100b0 : (t181 == (wrap64 (-t171))) = true := beq_iff_eq.mpr c100
                                                        have c100b1 : (t181 != (wrap64 (-t171))) = false := bne_eq_false_iff_eq.mpr c100
                                                        clear c100
                                                        replace H := Option.bind_eq_some_iff.mp H
                                                        obtain ⟨t183, A1010, H⟩ := H
                                                        replace H : (some t183) = some r := H
                                                        have A101 := Aside0.mk A1010
                                                        clear A1010
                                                        obtain rfl := Option.some.inj H
                                                        go_wp2_with (first | ((with_reducible refine gate_callee (f := 13) rfl ?_); refine goesL_ (some 108) rfl rfl Tryd.func13 (by kernel_rfl) rfl #[.string ((⟨#[45]⟩ : ByteArray) ++ t170), .int .i64 64] rfl (by (try simp only [List.map_toArray, List.map_cons, List.map_nil]); first | done | rfl | (simp only [List.length_drop, List.length_take]; rfl)) ?_; (with_reducible refine (number_Value.calls k3 ((⟨#[45]⟩ : ByteArray) ++ t170) 64 t181 t182 _ A98.out).mono ?_); rintro e w102 ⟨rfl, hb⟩; refine ⟨_, rfl, ?_⟩; have n0_ := Aside0.mk (Kd.R_below (by (with_reducible repeat (first | apply Kd.R_alloc | apply Kd.R_drewN | apply Kd.R_drew)); exact HO_83.out) hb); have n1_ := Aside0.mk (below_step (by repeat (first | (with_reducible first | exact HB.out | apply below_alloc | apply pw_below_drewN | apply below_drew1) | exact HB.out)) hb); clear HO_83; clear HB; have HO_83 := n0_; have HB := n1_; clear n0_ n1_; (try clear hb); (try clear hb2); (try clear hk); (try clear hi)) | (go_at_call 10; (with_reducible refine (parterrelaw02_lives.calls k3  t183 _ A101.out (Tbl.tab0_stays HTB.out (by repeat (first | (with_reducible first | exact HB.out | apply below_alloc | apply pw_below_drewN | apply below_drew1) | exact HB.out)))).mono ?_); rintro e w103 ⟨rfl, hb⟩; have n0_ := Aside0.mk (Kd.R_below (by (with_reducible repeat (first | apply Kd.R_alloc | apply Kd.R_drewN | apply Kd.R_drew)); exact HO_83.out) hb); have n1_ := Aside0.mk (below_step (by repeat (first | (with_reducible first | exact HB.out | apply below_alloc | apply pw_below_drewN | apply below_drew1) | exact HB.out)) hb); clear HO_83; clear HB; have HO_83 := n0_; have HB := n1_; clear n0_ n1_; (try clear hb); (try clear hb2); (try clear hk); (try clear hi)))
                                                        go_ret
                                                        exact ⟨by first | rfl | (simp [errW_none, errW_some] <;> rfl) | (simp [*, errW_none, errW_some] <;> rfl), by repeat (first | (with_reducible first | exact HB.out | apply below_alloc | apply pw_below_drewN | apply below_drew1) | exact HB.out)⟩
                                                      · rw [if_neg c100] at H
                                                        have c100b0 : (t181 == (wrap64 (-t171))) = false := beq_eq_false_iff_ne.mpr c100
                                                        have c100b1 : (t181 != (wrap64 (-t171))) = true := bne_iff_ne.mpr c100
                                                        obtain rfl := Option.some.inj H
                                                        go_wp2_with (first | ((with_reducible refine gate_callee (f := 13) rfl ?_); refine goesL_ (some 108) rfl rfl Tryd.func13 (by kernel_rfl) rfl #[.string ((⟨#[45]⟩ : ByteArray) ++ t170), .int .i64 64] rfl (by (try simp only [List.map_toArray, List.map_cons, List.map_nil]); first | done | rfl | (simp only [List.length_drop, List.length_take]; rfl)) ?_; (with_reducible refine (number_Value.calls k3 ((⟨#[45]⟩ : ByteArray) ++ t170) 64 t181 t182 _ A98.out).mono ?_); rintro e w104 ⟨rfl, hb⟩; refine ⟨_, rfl, ?_⟩; have n0_ := Aside0.mk (Kd.R_below (by (with_reducible repeat (first | apply Kd.R_alloc | apply Kd.R_drewN | apply Kd.R_drew)); exact HO_83.out) hb); have n1_ := Aside0.mk (below_step (by repeat (first | (with_reducible first | exact HB.out | apply below_alloc | apply pw_below_drewN | apply below_drew1) | exact HB.out)) hb); clear HO_83; clear HB; have HO_83 := n0_; have HB := n1_; clear n0_ n1_; (try clear hb); (try clear hb2); (try clear hk); (try clear hi)))
                                                        go_ret
                                                        exact ⟨by first | rfl | (simp [errW_none, errW_some] <;> rfl) | (simp [*, errW_none, errW_some] <;> rfl), by repeat (first | (with_reducible first | exact HB.out | apply below_alloc | apply pw_below_drewN | apply below_drew1) | exact HB.out)⟩
                                                    · rw [if_neg c99] at H
                                                      have c99b0 : (t172 == t182) = false := beq_eq_false_iff_ne.mpr c99
                                                      have c99b1 : (t172 != t182) = true := bne_iff_ne.mpr c99
                                                      obtain rfl := Option.some.inj H
                                                      go_wp2_with (first | ((with_reducible refine gate_callee (f := 13) rfl ?_); refine goesL_ (some 108) rfl rfl Tryd.func13 (by kernel_rfl) rfl #[.string ((⟨#[45]⟩ : ByteArray) ++ t170), .int .i64 64] rfl (by (try simp only [List.map_toArray, List.map_cons, List.map_nil]); first | done | rfl | (simp only [List.length_drop, List.length_take]; rfl)) ?_; (with_reducible refine (number_Value.calls k3 ((⟨#[45]⟩ : ByteArray) ++ t170) 64 t181 t182 _ A98.out).mono ?_); rintro e w105 ⟨rfl, hb⟩; refine ⟨_, rfl, ?_⟩; have n0_ := Aside0.mk (Kd.R_below (by (with_reducible repeat (first | apply Kd.R_alloc | apply Kd.R_drewN | apply Kd.R_drew)); exact HO_83.out) hb); have n1_ := Aside0.mk (below_step (by repeat (first | (with_reducible first | exact HB.out | apply below_alloc | apply pw_below_drewN | apply below_drew1) | exact HB.out)) hb); clear HO_83; clear HB; have HO_83 := n0_; have HB := n1_; clear n0_ n1_; (try clear hb); (try clear hb2); (try clear hk); (try clear hi)))
                                                      go_ret
                                                      exact ⟨by first | rfl | (simp [errW_none, errW_some] <;> rfl) | (simp [*, errW_none, errW_some] <;> rfl), by repeat (first | (with_reducible first | exact HB.out | apply below_alloc | apply pw_below_drewN | apply below_drew1) | exact HB.out)⟩
                                                  · rw [if_neg c97] at H
                                                    exact absurd H (by simp)
                                          · rw [if_neg c80] at H
                                            exact absurd H (by simp)
                                        · rw [if_neg c79] at H
                                          exact absurd H (by simp)
                                      · rw [if_neg c77] at H
                                        exact absurd H (by simp)
                                    · rw [if_neg c76] at H
                                      exact absurd H (by simp)
                                  · rw [if_neg c75] at H
                                    exact absurd H (by simp)
                                · rw [if_neg c74] at H
                                  exact absurd H (by simp)
                              · rw [if_neg c73] at H
                                exact absurd H (by simp)
                            · rw [if_neg c71] at H
                              exact absurd H (by simp)
                          · rw [if_neg c70] at H
                            exact absurd H (by simp)
                        · rw [if_neg c69] at H
                          exact absurd H (by simp)
                      · rw [if_neg c68] at H
                        exact absurd H (by simp)
                    · rw [if_neg c67] at H
                      exact absurd H (by simp)
                  · rw [if_neg c66] at H
                    exact absurd H (by simp)
    · rw [if_neg c55] at H
      have c55b0 : ((wrap64 (Int.tmod (IntKind.u64.wrap (a2)) 3)) == 1) = false := beq_eq_false_iff_ne.mpr c55
      have c55b1 : ((wrap64 (Int.tmod (IntKind.u64.wrap (a2)) 3)) != 1) = true := bne_iff_ne.mpr c55
      by_cases c106 : (wrap64 (Int.tmod (IntKind.u64.wrap (a2)) 3)) = 2
      · rw [if_pos c106] at H
        have c106b0 : ((wrap64 (Int.tmod (IntKind.u64.wrap (a2)) 3)) == 2) = true := beq_iff_eq.mpr c106
        have c106b1 : ((wrap64 (Int.tmod (IntKind.u64.wrap (a2)) 3)) != 2) = false := bne_eq_false_iff_eq.mpr c106
        clear c106
        have HC108 := Aside0.mk H
        clear H
        have hix107 : ∀ W : World, (Instr.index 33 (.agg #[.int .i64 1, .int .i64 64, .int .i64 1000]) (.int .i64 (wrap64 (Int.tmod (IntKind.u64.wrap (a2)) 3)))).run Tryd.prog W = .ok (.int .i64 1000) W := (by intro W; have hj_ : (wrap64 (Int.tmod (IntKind.u64.wrap (a2)) 3)) = 2 := beq_iff_eq.1 (by assumption); rw [hj_]; simp [go_sem, Tryd.underlying33, Tryd.sizeOf3, Instr.index])
        go_enter Tryd.func7, Tryd.ntmps7
        go_upto_region 3 with (fail)
        go_cut [34] (fun v34 wc => ∃ (kq : Nat) (x34_107 : Bool), v34 = .bool x34_107 ∧ Aside0 (parterrelaw02_NumberAlike.j4 kq a0 1000 (wrap64 (Int.tmod (IntKind.u64.wrap (a1)) 20)) x34_107 = some r) ∧ Aside0 (kq ≤ k) ∧ Aside0 (Below w.heap.size w wc))
        case first =>
          have H := HC108.out
          clear HC108
          by_cases c109 : a0 < 0
          · rw [if_pos c109] at H
            have c109b0 : decide (a0 < 0) = true := decide_eq_true c109
            clear c109
            (first | rw [c109b0] | (simp only [i64_w, i32_w]; rw [c109b0]) | skip)
            have H' := Aside0.mk H
            clear H
            go_wp2
            go_meet
            case rel => exact ⟨_, (true), (by first | rfl | (simp; done) | (simp [*]; done)), (by first | exact H' | (subst_vars; exact H')), ⟨by first | omega | exact Nat.le_refl _⟩, ⟨by repeat (first | (with_reducible first | exact HB.out | apply below_alloc | apply pw_below_drewN | apply below_drew1) | exact HB.out)⟩⟩
          · rw [if_neg c109] at H
            have c109b0 : decide (a0 < 0) = false := decide_eq_false c109
            clear c109
            (first | rw [c109b0] | (simp only [i64_w, i32_w]; rw [c109b0]) | skip)
            have H' := Aside0.mk H
            clear H
            go_wp2
            go_meet
            case rel => exact ⟨_, (decide (a0 > 1000000)), (by first | rfl | (simp; done) | (simp [*]; done)), (by first | exact H' | (subst_vars; exact H')), ⟨by first | omega | exact Nat.le_refl _⟩, ⟨by repeat (first | (with_reducible first | exact HB.out | apply below_alloc | apply pw_below_drewN | apply below_drew1) | exact HB.out)⟩⟩
        case rest =>
          clear HC108
          try clear c1
          try clear p1
          try clear q1
          try clear hx1
          try clear c2
          try clear p2
          try clear c3
          try clear c4
          try clear c4b0
          try clear c4b1
          try clear c5
          try clear c6
          try clear p6
          try clear c7
          try clear c7b0
          try clear c8
          try clear c9
          try clear c10
          try clear c11
          try clear c11b0
          try clear c12
          try clear c12b0
          try clear c12b1
          try clear c12b2
          try clear c13
          try clear c15
          try clear c15b0
          try clear c15b1
          try clear c15b2
          try clear c16
          try clear c16b0
          try clear c16b1
          try clear c16b2
          try clear c17
          try clear c17b0
          try clear c17b1
          try clear c17b2
          try clear p17
          try clear q17
          try clear hx17
          try clear c18
          try clear c18b0
          try clear c18b1
          try clear c18b2
          try clear c19
          try clear c19b0
          try clear c19b1
          try clear c19b2
          try clear c20
          try clear c20b0
          try clear c20b1
          try clear c20b2
          try clear c22
          try clear c22b0
          try clear c22b1
          try clear c22b2
          try clear c23
          try clear c23b0
          try clear c23b1
          try clear c23b2
          try clear c24
          try clear c24b0
          try clear c24b1
          try clear c24b2
          try clear c25
          try clear c25b0
          try clear c25b1
          try clear c25b2
          try clear c26
          try clear c26b0
          try clear c26b1
          try clear c26b2
          try clear c28
          try clear c28b0
          try clear c28b1
          try clear c28b2
          try clear c29
          try clear c29b0
          try clear c29b1
          try clear c29b2
          try clear c37
          try clear c37b0
          try clear c38
          try clear c38b0
          try clear c39
          try clear c39b0
          try clear c41
          try clear c41b0
          try clear c41b1
          try clear c42
          try clear c42b0
          try clear c42b1
          try clear c46
          try clear c46b0
          try clear c46b1
          try clear c46b2
          try clear c48
          try clear c48b0
          try clear c48b1
          try clear c49
          try clear c49b0
          try clear c49b1
          try clear c55
          try clear c55b0
          try clear c55b1
          try clear c58
          try clear c58b0
          try clear c59
          try clear c62
          try clear c62b0
          try clear c63
          try clear c63b0
          try clear c63b1
          try clear c63b2
          try clear p64
          try clear c66
          try clear c66b0
          try clear c66b1
          try clear c66b2
          try clear c67
          try clear c67b0
          try clear c67b1
          try clear c67b2
          try clear c68
          try clear c68b0
          try clear c68b1
          try clear c68b2
          try clear c69
          try clear c69b0
          try clear c69b1
          try clear c69b2
          try clear c70
          try clear c70b0
          try clear c70b1
          try clear c70b2
          try clear c71
          try clear c71b0
          try clear c71b1
          try clear c71b2
          try clear c73
          try clear c73b0
          try clear c73b1
          try clear c73b2
          try clear c74
          try clear c74b0
          try clear c74b1
          try clear c74b2
          try clear c75
          try clear c75b0
          try clear c75b1
          try clear c75b2
          try clear c76
          try clear c76b0
          try clear c76b1
          try clear c76b2
          try clear c77
          try clear c77b0
          try clear c77b1
          try clear c77b2
          try clear c79
          try clear c79b0
          try clear c79b1
          try clear c79b2
          try clear c80
          try clear c80b0
          try clear c80b1
          try clear c80b2
          try clear c88
          try clear c88b0
          try clear c89
          try clear c89b0
          try clear c90
          try clear c90b0
          try clear c92
          try clear c92b0
          try clear c92b1
          try clear c93
          try clear c93b0
          try clear c93b1
          try clear c97
          try clear c97b0
          try clear c97b1
          try clear c97b2
          try clear c99
          try clear c99b0
          try clear c99b1
          try clear c100
          try clear c100b0
          try clear c100b1
          try clear c106
          try clear c106b0
          try clear c106b1
          try clear c109
          try clear c109b0
          try clear hx178_0
          try clear p1
          try clear p17
          try clear p178
          try clear p2
          try clear p6
          try clear p64
          try clear q1
          try clear q17
          try clear q178
          obtain ⟨kq, x34_107, rfl, HA, HJ107, HB⟩ := hcut
          cases kq with
          | zero => exact absurd HA.out (by simp [parterrelaw02_NumberAlike.j4])
          | succ kj107 =>
            have H := HA.out
            clear HA
            simp only [parterrelaw02_NumberAlike.j4] at H
            by_cases c110 : x34_107 = true
            · subst c110
              have H1 : ((parterrelaw02_lives.f kj107).bind fun t185 => (some t185)) = some r := by rw [if_pos rfl] at H; exact H
              clear H
              have H := H1
              clear H1
              replace H := Option.bind_eq_some_iff.mp H
              obtain ⟨t185, A1110, H⟩ := H
              replace H : (some t185) = some r := H
              have A111 := Aside0.mk A1110
              clear A1110
              obtain rfl := Option.some.inj H
              go_wp2_with (first | ((with_reducible refine gate_callee (f := 10) rfl ?_); refine goesL_ (some 35) rfl rfl Tryd.func10 (by kernel_rfl) rfl #[] rfl (by (try simp only [List.map_toArray, List.map_cons, List.map_nil]); first | done | rfl | (simp only [List.length_drop, List.length_take]; rfl)) ?_; (with_reducible refine (parterrelaw02_lives.calls kj107  t185 _ A111.out (Tbl.tab0_stays HTB.out (by repeat (first | (with_reducible first | exact HB.out | apply below_alloc | apply pw_below_drewN | apply below_drew1) | exact HB.out)))).mono ?_); rintro e w112 ⟨rfl, hb⟩; refine ⟨_, rfl, ?_⟩; have n0_ := Aside0.mk (below_step (by repeat (first | (with_reducible first | exact HB.out | apply below_alloc | apply pw_below_drewN | apply below_drew1) | exact HB.out)) hb); clear HB; have HB := n0_; clear n0_; (try clear hb); (try clear hb2); (try clear hk); (try clear hi)))
              go_ret
              exact ⟨by first | rfl | (simp [errW_none, errW_some] <;> rfl) | (simp [*, errW_none, errW_some] <;> rfl), by repeat (first | (with_reducible first | exact HB.out | apply below_alloc | apply pw_below_drewN | apply below_drew1) | exact HB.out)⟩
            · replace c110 := Bool.eq_false_iff.mpr c110
              subst c110
              have H1 : (parterrelaw02_NumberAlike.l0 kj107 a0 1000 (wrap64 (Int.tmod (IntKind.u64.wrap (a1)) 20)) (⟨#[]⟩ : ByteArray) (wrap64 (Int.tmod (IntKind.u64.wrap (a1)) 20)) 0) = some r := by rw [if_neg (show ¬ (false = true) by decide)] at H; exact H
              clear H
              have H := H1
              clear H1
              have H' := Aside0.mk H
              clear H
              go_wp2
              go_loopg [9, 37] kj107 (fun kq v9 v37 w' => ∃ (x9_2 : ByteArray) (x37_2 : Int), v9 = .string x9_2 ∧ v37 = .int .i64 x37_2 ∧ Aside0 (parterrelaw02_NumberAlike.l0 kq a0 1000 (wrap64 (Int.tmod (IntKind.u64.wrap (a1)) 20)) x9_2 (wrap64 (Int.tmod (IntKind.u64.wrap (a1)) 20)) x37_2 = some r) ∧ Aside0 (kq ≤ kj107) ∧ Aside0 (Below w.heap.size w w'))
              case atStart => exact ⟨((⟨#[]⟩ : ByteArray)), (0), (by first | rfl | (simp; done) | (simp [*]; done)), (by first | rfl | (simp; done) | (simp [*]; done)), H', ⟨Nat.le_refl _⟩, ⟨by repeat (first | (with_reducible first | exact HB.out | apply below_alloc | apply pw_below_drewN | apply below_drew1) | exact HB.out)⟩⟩
              case round =>
                clear H'
                try clear c1
                try clear p1
                try clear q1
                try clear hx1
                try clear c2
                try clear p2
                try clear c3
                try clear c4
                try clear c4b0
                try clear c4b1
                try clear c5
                try clear c6
                try clear p6
                try clear c7
                try clear c7b0
                try clear c8
                try clear c9
                try clear c10
                try clear c11
                try clear c11b0
                try clear c12
                try clear c12b0
                try clear c12b1
                try clear c12b2
                try clear c13
                try clear c15
                try clear c15b0
                try clear c15b1
                try clear c15b2
                try clear c16
                try clear c16b0
                try clear c16b1
                try clear c16b2
                try clear c17
                try clear c17b0
                try clear c17b1
                try clear c17b2
                try clear p17
                try clear q17
                try clear hx17
                try clear c18
                try clear c18b0
                try clear c18b1
                try clear c18b2
                try clear c19
                try clear c19b0
                try clear c19b1
                try clear c19b2
                try clear c20
                try clear c20b0
                try clear c20b1
                try clear c20b2
                try clear c22
                try clear c22b0
                try clear c22b1
                try clear c22b2
                try clear c23
                try clear c23b0
                try clear c23b1
                try clear c23b2
                try clear c24
                try clear c24b0
                try clear c24b1
                try clear c24b2
                try clear c25
                try clear c25b0
                try clear c25b1
                try clear c25b2
                try clear c26
                try clear c26b0
                try clear c26b1
                try clear c26b2
                try clear c28
                try clear c28b0
                try clear c28b1
                try clear c28b2
                try clear c29
                try clear c29b0
                try clear c29b1
                try clear c29b2
                try clear c37
                try clear c37b0
                try clear c38
                try clear c38b0
                try clear c39
                try clear c39b0
                try clear c41
                try clear c41b0
                try clear c41b1
                try clear c42
                try clear c42b0
                try clear c42b1
                try clear c46
                try clear c46b0
                try clear c46b1
                try clear c46b2
                try clear c48
                try clear c48b0
                try clear c48b1
                try clear c49
                try clear c49b0
                try clear c49b1
                try clear c55
                try clear c55b0
                try clear c55b1
                try clear c58
                try clear c58b0
                try clear c59
                try clear c62
                try clear c62b0
                try clear c63
                try clear c63b0
                try clear c63b1
                try clear c63b2
                try clear p64
                try clear c66
                try clear c66b0
                try clear c66b1
                try clear c66b2
                try clear c67
                try clear c67b0
                try clear c67b1
                try clear c67b2
                try clear c68
                try clear c68b0
                try clear c68b1
                try clear c68b2
                try clear c69
                try clear c69b0
                try clear c69b1
                try clear c69b2
                try clear c70
                try clear c70b0
                try clear c70b1
                try clear c70b2
                try clear c71
                try clear c71b0
                try clear c71b1
                try clear c71b2
                try clear c73
                try clear c73b0
                try clear c73b1
                try clear c73b2
                try clear c74
                try clear c74b0
                try clear c74b1
                try clear c74b2
                try clear c75
                try clear c75b0
                try clear c75b1
                try clear c75b2
                try clear c76
                try clear c76b0
                try clear c76b1
                try clear c76b2
                try clear c77
                try clear c77b0
                try clear c77b1
                try clear c77b2
                try clear c79
                try clear c79b0
                try clear c79b1
                try clear c79b2
                try clear c80
                try clear c80b0
                try clear c80b1
                try clear c80b2
                try clear c88
                try clear c88b0
                try clear c89
                try clear c89b0
                try clear c90
                try clear c90b0
                try clear c92
                try clear c92b0
                try clear c92b1
                try clear c93
                try clear c93b0
                try clear c93b1
                try clear c97
                try clear c97b0
                try clear c97b1
                try clear c97b2
                try clear c99
                try clear c99b0
                try clear c99b1
                try clear c100
                try clear c100b0
                try clear c100b1
                try clear c106
                try clear c106b0
                try clear c106b1
                try clear c109
                try clear c109b0
                try clear c110
                try clear hx178_0
                try clear p1
                try clear p17
                try clear p178
                try clear p2
                try clear p6
                try clear p64
                try clear q1
                try clear q17
                try clear q178
                obtain ⟨x9_2, x37_2, rfl, rfl, HA, HK2, HB⟩ := hrel
                cases gk with
                | zero => exact absurd HA.out (by simp [parterrelaw02_NumberAlike.l0])
                | succ k2 =>
                  have H := HA.out
                  clear HA
                  simp only [parterrelaw02_NumberAlike.l0] at H
                  by_cases c113 : x37_2 < (wrap64 (Int.tmod (IntKind.u64.wrap (a1)) 20))
                  · rw [if_pos c113] at H
                    have c113b0 : decide (x37_2 < (wrap64 (Int.tmod (IntKind.u64.wrap (a1)) 20))) = true := decide_eq_true c113
                    clear c113
                    by_cases c114 : x9_2.size + 1 ≤ 9223372036854775807
                    · rw [if_pos c114] at H
                      have c114b0 := eq_true c114
                      have c114b1 : decide (x9_2.size + 1 ≤ 9223372036854775807) = true := decide_eq_true c114
                      try have c114b2 : (9223372036854775807 < x9_2.size + 1) = False := eq_false (Nat.not_lt.2 c114)
                      have H' := Aside0.mk H
                      clear H
                      go_wp2
                      go_roundg k2
                      case measure => have := HJ107.out; have := HK2.out; omega
                      case rel => exact ⟨(x9_2 ++ (⟨#[48]⟩ : ByteArray)), (wrap64 (x37_2 + 1)), (by first | rfl | (simp; done) | (simp [*]; done)), (by first | rfl | (simp; done) | (simp [*]; done)), H', ⟨by have := HJ107.out; have := HK2.out; omega⟩, ⟨by repeat (first | (with_reducible first | exact HB.out | apply below_alloc | apply pw_below_drewN | apply below_drew1) | exact HB.out)⟩⟩
                    · rw [if_neg c114] at H
                      exact absurd H (by simp)
                  · rw [if_neg c113] at H
                    have c113b0 : decide (x37_2 < (wrap64 (Int.tmod (IntKind.u64.wrap (a1)) 20))) = false := decide_eq_false c113
                    clear c113
                    replace H := Option.bind_eq_some_iff.mp H
                    obtain ⟨t170, A1150, H⟩ := H
                    replace H : ((number_Value.f k2 t170 1000).bind fun bt171 => (if x9_2.size + t170.size ≤ 9223372036854775807 then (if t170.size + 2 ≤ 9223372036854775807 then (if (t170 ++ (⟨#[46, 48]⟩ : ByteArray)).size + x9_2.size ≤ 9223372036854775807 then (if 1 + t170.size ≤ 9223372036854775807 then (if t170.size + x9_2.size ≤ 9223372036854775807 then (if (t170 ++ x9_2).size + 2 ≤ 9223372036854775807 then ((number_Text.f k2 (wrap64 (Int.tmod (IntKind.u64.wrap (a1)) 20)) 1).bind fun t173 => (if ((t170 ++ x9_2) ++ (⟨#[101, 45]⟩ : ByteArray)).size + t173.size ≤ 9223372036854775807 then (if x9_2.size + 1 ≤ 9223372036854775807 then (if (x9_2 ++ (⟨#[46]⟩ : ByteArray)).size + x9_2.size ≤ 9223372036854775807 then (if ((x9_2 ++ (⟨#[46]⟩ : ByteArray)) ++ x9_2).size + t170.size ≤ 9223372036854775807 then (if (((x9_2 ++ (⟨#[46]⟩ : ByteArray)) ++ x9_2) ++ t170).size + 1 ≤ 9223372036854775807 then ((number_Text.f k2 (wrap64 ((wrap64 (Int.tmod (IntKind.u64.wrap (a1)) 20)) + (t170.size : Int))) 1).bind fun t174 => (if ((((x9_2 ++ (⟨#[46]⟩ : ByteArray)) ++ x9_2) ++ t170) ++ (⟨#[69]⟩ : ByteArray)).size + t174.size ≤ 9223372036854775807 then (if (t170 ++ (⟨#[101, 48]⟩ : ByteArray)).size + x9_2.size ≤ 9223372036854775807 then ((some (([x9_2 ++ t170, (t170 ++ (⟨#[46, 48]⟩ : ByteArray)) ++ x9_2, (⟨#[43]⟩ : ByteArray) ++ t170, ((t170 ++ x9_2) ++ (⟨#[101, 45]⟩ : ByteArray)) ++ t173, ((((x9_2 ++ (⟨#[46]⟩ : ByteArray)) ++ x9_2) ++ t170) ++ (⟨#[69]⟩ : ByteArray)) ++ t174, (t170 ++ (⟨#[101, 48]⟩ : ByteArray)) ++ x9_2] : List ByteArray) : List ByteArray)).bind fun y175 => (parterrelaw02_NumberAlike.l1 k2 1000 t170 bt171.1 bt171.2 y175 (y175.length : Int) 0)) else (none)) else (none))) else (none)) else (none)) else (none)) else (none)) else (none))) else (none)) else (none)) else (none)) else (none)) else (none)) else (none))) = some r := H
                    have A115 := Aside0.mk A1150
                    clear A1150
                    replace H := Option.bind_eq_some_iff.mp H
                    obtain ⟨⟨t171, t172⟩, A1160, H⟩ := H
                    replace H : (if x9_2.size + t170.size ≤ 9223372036854775807 then (if t170.size + 2 ≤ 9223372036854775807 then (if (t170 ++ (⟨#[46, 48]⟩ : ByteArray)).size + x9_2.size ≤ 9223372036854775807 then (if 1 + t170.size ≤ 9223372036854775807 then (if t170.size + x9_2.size ≤ 9223372036854775807 then (if (t170 ++ x9_2).size + 2 ≤ 9223372036854775807 then ((number_Text.f k2 (wrap64 (Int.tmod (IntKind.u64.wrap (a1)) 20)) 1).bind fun t173 => (if ((t170 ++ x9_2) ++ (⟨#[101, 45]⟩ : ByteArray)).size + t173.size ≤ 9223372036854775807 then (if x9_2.size + 1 ≤ 9223372036854775807 then (if (x9_2 ++ (⟨#[46]⟩ : ByteArray)).size + x9_2.size ≤ 9223372036854775807 then (if ((x9_2 ++ (⟨#[46]⟩ : ByteArray)) ++ x9_2).size + t170.size ≤ 9223372036854775807 then (if (((x9_2 ++ (⟨#[46]⟩ : ByteArray)) ++ x9_2) ++ t170).size + 1 ≤ 9223372036854775807 then ((number_Text.f k2 (wrap64 ((wrap64 (Int.tmod (IntKind.u64.wrap (a1)) 20)) + (t170.size : Int))) 1).bind fun t174 => (if ((((x9_2 ++ (⟨#[46]⟩ : ByteArray)) ++ x9_2) ++ t170) ++ (⟨#[69]⟩ : ByteArray)).size + t174.size ≤ 9223372036854775807 then (if (t170 ++ (⟨#[101, 48]⟩ : ByteArray)).size + x9_2.size ≤ 9223372036854775807 then ((some (([x9_2 ++ t170, (t170 ++ (⟨#[46, 48]⟩ : ByteArray)) ++ x9_2, (⟨#[43]⟩ : ByteArray) ++ t170, ((t170 ++ x9_2) ++ (⟨#[101, 45]⟩ : ByteArray)) ++ t173, ((((x9_2 ++ (⟨#[46]⟩ : ByteArray)) ++ x9_2) ++ t170) ++ (⟨#[69]⟩ : ByteArray)) ++ t174, (t170 ++ (⟨#[101, 48]⟩ : ByteArray)) ++ x9_2] : List ByteArray) : List ByteArray)).bind fun y175 => (parterrelaw02_NumberAlike.l1 k2 1000 t170 t171 t172 y175 (y175.length : Int) 0)) else (none)) else (none))) else (none)) else (none)) else (none)) else (none)) else (none))) else (none)) else (none)) else (none)) else (none)) else (none)) else (none)) = some r := H
                    have A116 := Aside0.mk A1160
                    clear A1160
                    by_cases c117 : x9_2.size + t170.size ≤ 9223372036854775807
                    · rw [if_pos c117] at H
                      have c117b0 := eq_true c117
                      have c117b1 : decide (x9_2.size + t170.size ≤ 9223372036854775807) = true := decide_eq_true c117
                      try have c117b2 : (9223372036854775807 < x9_2.size + t170.size) = False := eq_false (Nat.not_lt.2 c117)
                      by_cases c118 : t170.size + 2 ≤ 9223372036854775807
                      · rw [if_pos c118] at H
                        have c118b0 := eq_true c118
                        have c118b1 : decide (t170.size + 2 ≤ 9223372036854775807) = true := decide_eq_true c118
                        try have c118b2 : (9223372036854775807 < t170.size + 2) = False := eq_false (Nat.not_lt.2 c118)
                        by_cases c119 : (t170 ++ (⟨#[46, 48]⟩ : ByteArray)).size + x9_2.size ≤ 9223372036854775807
                        · rw [if_pos c119] at H
                          have c119b0 := eq_true c119
                          have c119b1 : decide ((t170 ++ (⟨#[46, 48]⟩ : ByteArray)).size + x9_2.size ≤ 9223372036854775807) = true := decide_eq_true c119
                          try have c119b2 : (9223372036854775807 < (t170 ++ (⟨#[46, 48]⟩ : ByteArray)).size + x9_2.size) = False := eq_false (Nat.not_lt.2 c119)
                          try have c119b3 : (9223372036854775807 < t170.size + 2 + x9_2.size) = False := eq_false (Nat.not_lt.2 (by have h_ := c119; simp only [ByteArray.size_append] at h_; exact h_))
                          by_cases c120 : 1 + t170.size ≤ 9223372036854775807
                          · rw [if_pos c120] at H
                            have c120b0 := eq_true c120
                            have c120b1 : decide (1 + t170.size ≤ 9223372036854775807) = true := decide_eq_true c120
                            try have c120b2 : (9223372036854775807 < 1 + t170.size) = False := eq_false (Nat.not_lt.2 c120)
                            by_cases c121 : t170.size + x9_2.size ≤ 9223372036854775807
                            · rw [if_pos c121] at H
                              have c121b0 := eq_true c121
                              have c121b1 : decide (t170.size + x9_2.size ≤ 9223372036854775807) = true := decide_eq_true c121
                              try have c121b2 : (9223372036854775807 < t170.size + x9_2.size) = False := eq_false (Nat.not_lt.2 c121)
                              by_cases c122 : (t170 ++ x9_2).size + 2 ≤ 9223372036854775807
                              · rw [if_pos c122] at H
                                have c122b0 := eq_true c122
                                have c122b1 : decide ((t170 ++ x9_2).size + 2 ≤ 9223372036854775807) = true := decide_eq_true c122
                                try have c122b2 : (9223372036854775807 < (t170 ++ x9_2).size + 2) = False := eq_false (Nat.not_lt.2 c122)
                                try have c122b3 : (9223372036854775807 < t170.size + x9_2.size + 2) = False := eq_false (Nat.not_lt.2 (by rw [← ByteArray.size_append]; exact c122))
                                try have c122b3 : (9223372036854775807 < t170.size + x9_2.size + 2) = False := eq_false (Nat.not_lt.2 (by rw [← ByteArray.size_append]; exact c122))
                                replace H := Option.bind_eq_some_iff.mp H
                                obtain ⟨t173, A1230, H⟩ := H
                                replace H : (if ((t170 ++ x9_2) ++ (⟨#[101, 45]⟩ : ByteArray)).size + t173.size ≤ 9223372036854775807 then (if x9_2.size + 1 ≤ 9223372036854775807 then (if (x9_2 ++ (⟨#[46]⟩ : ByteArray)).size + x9_2.size ≤ 9223372036854775807 then (if ((x9_2 ++ (⟨#[46]⟩ : ByteArray)) ++ x9_2).size + t170.size ≤ 9223372036854775807 then (if (((x9_2 ++ (⟨#[46]⟩ : ByteArray)) ++ x9_2) ++ t170).size + 1 ≤ 9223372036854775807 then ((number_Text.f k2 (wrap64 ((wrap64 (Int.tmod (IntKind.u64.wrap (a1)) 20)) + (t170.size : Int))) 1).bind fun t174 => (if ((((x9_2 ++ (⟨#[46]⟩ : ByteArray)) ++ x9_2) ++ t170) ++ (⟨#[69]⟩ : ByteArray)).size + t174.size ≤ 9223372036854775807 then (if (t170 ++ (⟨#[101, 48]⟩ : ByteArray)).size + x9_2.size ≤ 9223372036854775807 then ((some (([x9_2 ++ t170, (t170 ++ (⟨#[46, 48]⟩ : ByteArray)) ++ x9_2, (⟨#[43]⟩ : ByteArray) ++ t170, ((t170 ++ x9_2) ++ (⟨#[101, 45]⟩ : ByteArray)) ++ t173, ((((x9_2 ++ (⟨#[46]⟩ : ByteArray)) ++ x9_2) ++ t170) ++ (⟨#[69]⟩ : ByteArray)) ++ t174, (t170 ++ (⟨#[101, 48]⟩ : ByteArray)) ++ x9_2] : List ByteArray) : List ByteArray)).bind fun y175 => (parterrelaw02_NumberAlike.l1 k2 1000 t170 t171 t172 y175 (y175.length : Int) 0)) else (none)) else (none))) else (none)) else (none)) else (none)) else (none)) else (none)) = some r := H
                                have A123 := Aside0.mk A1230
                                clear A1230
                                by_cases c124 : ((t170 ++ x9_2) ++ (⟨#[101, 45]⟩ : ByteArray)).size + t173.size ≤ 9223372036854775807
                                · rw [if_pos c124] at H
                                  have c124b0 := eq_true c124
                                  have c124b1 : decide (((t170 ++ x9_2) ++ (⟨#[101, 45]⟩ : ByteArray)).size + t173.size ≤ 9223372036854775807) = true := decide_eq_true c124
                                  try have c124b2 : (9223372036854775807 < ((t170 ++ x9_2) ++ (⟨#[101, 45]⟩ : ByteArray)).size + t173.size) = False := eq_false (Nat.not_lt.2 c124)
                                  try have c124b3 : (9223372036854775807 < t170.size + x9_2.size + 2 + t173.size) = False := eq_false (Nat.not_lt.2 (by have h_ := c124; simp only [ByteArray.size_append] at h_; exact h_))
                                  by_cases c125 : x9_2.size + 1 ≤ 9223372036854775807
                                  · rw [if_pos c125] at H
                                    have c125b0 := eq_true c125
                                    have c125b1 : decide (x9_2.size + 1 ≤ 9223372036854775807) = true := decide_eq_true c125
                                    try have c125b2 : (9223372036854775807 < x9_2.size + 1) = False := eq_false (Nat.not_lt.2 c125)
                                    by_cases c126 : (x9_2 ++ (⟨#[46]⟩ : ByteArray)).size + x9_2.size ≤ 9223372036854775807
                                    · rw [if_pos c126] at H
                                      have c126b0 := eq_true c126
                                      have c126b1 : decide ((x9_2 ++ (⟨#[46]⟩ : ByteArray)).size + x9_2.size ≤ 9223372036854775807) = true := decide_eq_true c126
                                      try have c126b2 : (9223372036854775807 < (x9_2 ++ (⟨#[46]⟩ : ByteArray)).size + x9_2.size) = False := eq_false (Nat.not_lt.2 c126)
                                      try have c126b3 : (9223372036854775807 < x9_2.size + 1 + x9_2.size) = False := eq_false (Nat.not_lt.2 (by have h_ := c126; simp only [ByteArray.size_append] at h_; exact h_))
                                      by_cases c127 : ((x9_2 ++ (⟨#[46]⟩ : ByteArray)) ++ x9_2).size + t170.size ≤ 9223372036854775807
                                      · rw [if_pos c127] at H
                                        have c127b0 := eq_true c127
                                        have c127b1 : decide (((x9_2 ++ (⟨#[46]⟩ : ByteArray)) ++ x9_2).size + t170.size ≤ 9223372036854775807) = true := decide_eq_true c127
                                        try have c127b2 : (9223372036854775807 < ((x9_2 ++ (⟨#[46]⟩ : ByteArray)) ++ x9_2).size + t170.size) = False := eq_false (Nat.not_lt.2 c127)
                                        try have c127b3 : (9223372036854775807 < x9_2.size + 1 + x9_2.size + t170.size) = False := eq_false (Nat.not_lt.2 (by have h_ := c127; simp only [ByteArray.size_append] at h_; exact h_))
                                        by_cases c128 : (((x9_2 ++ (⟨#[46]⟩ : ByteArray)) ++ x9_2) ++ t170).size + 1 ≤ 9223372036854775807
                                        · rw [if_pos c128] at H
                                          have c128b0 := eq_true c128
                                          have c128b1 : decide ((((x9_2 ++ (⟨#[46]⟩ : ByteArray)) ++ x9_2) ++ t170).size + 1 ≤ 9223372036854775807) = true := decide_eq_true c128
                                          try have c128b2 : (9223372036854775807 < (((x9_2 ++ (⟨#[46]⟩ : ByteArray)) ++ x9_2) ++ t170).size + 1) = False := eq_false (Nat.not_lt.2 c128)
                                          try have c128b3 : (9223372036854775807 < x9_2.size + 1 + x9_2.size + t170.size + 1) = False := eq_false (Nat.not_lt.2 (by have h_ := c128; simp only [ByteArray.size_append] at h_; exact h_))
                                          replace H := Option.bind_eq_some_iff.mp H
                                          obtain ⟨t174, A1290, H⟩ := H
                                          replace H : (if ((((x9_2 ++ (⟨#[46]⟩ : ByteArray)) ++ x9_2) ++ t170) ++ (⟨#[69]⟩ : ByteArray)).size + t174.size ≤ 9223372036854775807 then (if (t170 ++ (⟨#[101, 48]⟩ : ByteArray)).size + x9_2.size ≤ 9223372036854775807 then ((some (([x9_2 ++ t170, (t170 ++ (⟨#[46, 48]⟩ : ByteArray)) ++ x9_2, (⟨#[43]⟩ : ByteArray) ++ t170, ((t170 ++ x9_2) ++ (⟨#[101, 45]⟩ : ByteArray)) ++ t173, ((((x9_2 ++ (⟨#[46]⟩ : ByteArray)) ++ x9_2) ++ t170) ++ (⟨#[69]⟩ : ByteArray)) ++ t174, (t170 ++ (⟨#[101, 48]⟩ : ByteArray)) ++ x9_2] : List ByteArray) : List ByteArray)).bind fun y175 => (parterrelaw02_NumberAlike.l1 k2 1000 t170 t171 t172 y175 (y175.length : Int) 0)) else (none)) else (none)) = some r := H
                                          have A129 := Aside0.mk A1290
                                          clear A1290
                                          by_cases c130 : ((((x9_2 ++ (⟨#[46]⟩ : ByteArray)) ++ x9_2) ++ t170) ++ (⟨#[69]⟩ : ByteArray)).size + t174.size ≤ 9223372036854775807
                                          · rw [if_pos c130] at H
                                            have c130b0 := eq_true c130
                                            have c130b1 : decide (((((x9_2 ++ (⟨#[46]⟩ : ByteArray)) ++ x9_2) ++ t170) ++ (⟨#[69]⟩ : ByteArray)).size + t174.size ≤ 9223372036854775807) = true := decide_eq_true c130
                                            try have c130b2 : (9223372036854775807 < ((((x9_2 ++ (⟨#[46]⟩ : ByteArray)) ++ x9_2) ++ t170) ++ (⟨#[69]⟩ : ByteArray)).size + t174.size) = False := eq_false (Nat.not_lt.2 c130)
                                            try have c130b3 : (9223372036854775807 < x9_2.size + 1 + x9_2.size + t170.size + 1 + t174.size) = False := eq_false (Nat.not_lt.2 (by have h_ := c130; simp only [ByteArray.size_append] at h_; exact h_))
                                            by_cases c131 : (t170 ++ (⟨#[101, 48]⟩ : ByteArray)).size + x9_2.size ≤ 9223372036854775807
                                            · rw [if_pos c131] at H
                                              have c131b0 := eq_true c131
                                              have c131b1 : decide ((t170 ++ (⟨#[101, 48]⟩ : ByteArray)).size + x9_2.size ≤ 9223372036854775807) = true := decide_eq_true c131
                                              try have c131b2 : (9223372036854775807 < (t170 ++ (⟨#[101, 48]⟩ : ByteArray)).size + x9_2.size) = False := eq_false (Nat.not_lt.2 c131)
                                              try have c131b3 : (9223372036854775807 < t170.size + 2 + x9_2.size) = False := eq_false (Nat.not_lt.2 (by have h_ := c131; simp only [ByteArray.size_append] at h_; exact h_))
                                              obtain ⟨y175, hy175⟩ : ∃ y_ : List ByteArray, y_ = (([x9_2 ++ t170, (t170 ++ (⟨#[46, 48]⟩ : ByteArray)) ++ x9_2, (⟨#[43]⟩ : ByteArray) ++ t170, ((t170 ++ x9_2) ++ (⟨#[101, 45]⟩ : ByteArray)) ++ t173, ((((x9_2 ++ (⟨#[46]⟩ : ByteArray)) ++ x9_2) ++ t170) ++ (⟨#[69]⟩ : ByteArray)) ++ t174, (t170 ++ (⟨#[101, 48]⟩ : ByteArray)) ++ x9_2] : List ByteArray)) := ⟨_, rfl⟩
                                              replace H : (parterrelaw02_NumberAlike.l1 k2 1000 t170 t171 t172 y175 (y175.length : Int) 0) = some r := by first | (rw [hy175]; with_reducible exact H) | (have H2_ := (Option.bind_some _ _).symm.trans H; rw [hy175]; with_reducible exact H2_) | (have H2_ := (Option.bind_some _ _).symm.trans H; with_reducible exact H2_) | with_reducible exact H | (rw [hy175]; exact H) | exact H
                                              have Ny175 := Aside0.mk hy175
                                              clear hy175
                                              have H' := Aside0.mk H
                                              clear H
                                              go_wp2_with (first | ((with_reducible refine gate_callee (f := 15) rfl ?_); refine goesL_ (some 43) rfl rfl Tryd.func15 (by kernel_rfl) rfl #[.int .i64 a0, .int .i64 1] rfl (by (try simp only [List.map_toArray, List.map_cons, List.map_nil]); first | done | rfl | (simp only [List.length_drop, List.length_take]; rfl)) ?_; (with_reducible refine (number_Text.calls k2 a0 1 t170 _ A115.out (Tbl.tab0_stays HTB.out (by repeat (first | (with_reducible first | exact HB.out | apply below_alloc | apply pw_below_drewN | apply below_drew1) | exact HB.out)))).mono ?_); rintro e w132 ⟨rfl, hb⟩; refine ⟨_, rfl, ?_⟩; have n0_ := Aside0.mk (below_step (by repeat (first | (with_reducible first | exact HB.out | apply below_alloc | apply pw_below_drewN | apply below_drew1) | exact HB.out)) hb); clear HB; have HB := n0_; clear n0_; (try clear hb); (try clear hb2); (try clear hk); (try clear hi)) | ((with_reducible refine gate_callee (f := 13) rfl ?_); refine goesL_ (some 47) rfl rfl Tryd.func13 (by kernel_rfl) rfl #[.string t170, .int .i64 1000] rfl (by (try simp only [List.map_toArray, List.map_cons, List.map_nil]); first | done | rfl | (simp only [List.length_drop, List.length_take]; rfl)) ?_; (with_reducible refine (number_Value.calls k2 t170 1000 t171 t172 _ A116.out).mono ?_); rintro e w133 ⟨rfl, hb⟩; refine ⟨_, rfl, ?_⟩; have n0_ := Aside0.mk (below_step (by repeat (first | (with_reducible first | exact HB.out | apply below_alloc | apply pw_below_drewN | apply below_drew1) | exact HB.out)) hb); clear HB; have HB := n0_; clear n0_; (try clear hb); (try clear hb2); (try clear hk); (try clear hi)) | ((with_reducible refine gate_callee (f := 15) rfl ?_); refine goesL_ (some 64) rfl rfl Tryd.func15 (by kernel_rfl) rfl #[.int .i64 (wrap64 (Int.tmod (IntKind.u64.wrap (a1)) 20)), .int .i64 1] rfl (by (try simp only [List.map_toArray, List.map_cons, List.map_nil]); first | done | rfl | (simp only [List.length_drop, List.length_take]; rfl)) ?_; (with_reducible refine (number_Text.calls k2 (wrap64 (Int.tmod (IntKind.u64.wrap (a1)) 20)) 1 t173 _ A123.out (Tbl.tab0_stays HTB.out (by repeat (first | (with_reducible first | exact HB.out | apply below_alloc | apply pw_below_drewN | apply below_drew1) | exact HB.out)))).mono ?_); rintro e w134 ⟨rfl, hb⟩; refine ⟨_, rfl, ?_⟩; have n0_ := Aside0.mk (below_step (by repeat (first | (with_reducible first | exact HB.out | apply below_alloc | apply pw_below_drewN | apply below_drew1) | exact HB.out)) hb); clear HB; have HB := n0_; clear n0_; (try clear hb); (try clear hb2); (try clear hk); (try clear hi)) | ((with_reducible refine gate_callee (f := 15) rfl ?_); refine goesL_ (some 77) rfl rfl Tryd.func15 (by kernel_rfl) rfl #[.int .i64 (wrap64 ((wrap64 (Int.tmod (IntKind.u64.wrap (a1)) 20)) + (t170.size : Int))), .int .i64 1] rfl (by (try simp only [List.map_toArray, List.map_cons, List.map_nil]); first | done | rfl | (simp only [List.length_drop, List.length_take]; rfl)) ?_; (with_reducible refine (number_Text.calls k2 (wrap64 ((wrap64 (Int.tmod (IntKind.u64.wrap (a1)) 20)) + (t170.size : Int))) 1 t174 _ A129.out (Tbl.tab0_stays HTB.out (by repeat (first | (with_reducible first | exact HB.out | apply below_alloc | apply pw_below_drewN | apply below_drew1) | exact HB.out)))).mono ?_); rintro e w135 ⟨rfl, hb⟩; refine ⟨_, rfl, ?_⟩; have n0_ := Aside0.mk (below_step (by repeat (first | (with_reducible first | exact HB.out | apply below_alloc | apply pw_below_drewN | apply below_drew1) | exact HB.out)) hb); clear HB; have HB := n0_; clear n0_; (try clear hb); (try clear hb2); (try clear hk); (try clear hi)) | ((with_reducible refine gate_dst (N := 83) rfl ?_); refine Kd.R_lit Kd.string _ 9 ?hg (N := 83) ?hd (xs := ([x9_2 ++ t170, (t170 ++ (⟨#[46, 48]⟩ : ByteArray)) ++ x9_2, (⟨#[43]⟩ : ByteArray) ++ t170, ((t170 ++ x9_2) ++ (⟨#[101, 45]⟩ : ByteArray)) ++ t173, ((((x9_2 ++ (⟨#[46]⟩ : ByteArray)) ++ x9_2) ++ t170) ++ (⟨#[69]⟩ : ByteArray)) ++ t174, (t170 ++ (⟨#[101, 48]⟩ : ByteArray)) ++ x9_2] : List ByteArray)) (inner := [.string (x9_2 ++ t170), .string ((t170 ++ (⟨#[46, 48]⟩ : ByteArray)) ++ x9_2), .string ((⟨#[43]⟩ : ByteArray) ++ t170), .string (((t170 ++ x9_2) ++ (⟨#[101, 45]⟩ : ByteArray)) ++ t173), .string (((((x9_2 ++ (⟨#[46]⟩ : ByteArray)) ++ x9_2) ++ t170) ++ (⟨#[69]⟩ : ByteArray)) ++ t174), .string ((t170 ++ (⟨#[101, 48]⟩ : ByteArray)) ++ x9_2)]) (ok := fun _ => True) (okp := fun _ => True) ?hr ?hp (fun _ hk => hk) trivial (Below.refl _ _) (Nat.le_refl _) (by simp) ?_; (case hd => rfl); (case hg => rfl); (case hr => first | (go_simp; done) | (go_simp; rfl)); (case hp => exact (Reps.one (show Kd.M Kd.string _ _ _ (x9_2 ++ t170) [.string (x9_2 ++ t170)] from rfl) (Reps.one (show Kd.M Kd.string _ _ _ ((t170 ++ (⟨#[46, 48]⟩ : ByteArray)) ++ x9_2) [.string ((t170 ++ (⟨#[46, 48]⟩ : ByteArray)) ++ x9_2)] from rfl) (Reps.one (show Kd.M Kd.string _ _ _ ((⟨#[43]⟩ : ByteArray) ++ t170) [.string ((⟨#[43]⟩ : ByteArray) ++ t170)] from rfl) (Reps.one (show Kd.M Kd.string _ _ _ (((t170 ++ x9_2) ++ (⟨#[101, 45]⟩ : ByteArray)) ++ t173) [.string (((t170 ++ x9_2) ++ (⟨#[101, 45]⟩ : ByteArray)) ++ t173)] from rfl) (Reps.one (show Kd.M Kd.string _ _ _ (((((x9_2 ++ (⟨#[46]⟩ : ByteArray)) ++ x9_2) ++ t170) ++ (⟨#[69]⟩ : ByteArray)) ++ t174) [.string (((((x9_2 ++ (⟨#[46]⟩ : ByteArray)) ++ x9_2) ++ t170) ++ (⟨#[69]⟩ : ByteArray)) ++ t174)] from rfl) (Reps.one (show Kd.M Kd.string _ _ _ ((t170 ++ (⟨#[101, 48]⟩ : ByteArray)) ++ x9_2) [.string ((t170 ++ (⟨#[101, 48]⟩ : ByteArray)) ++ x9_2)] from rfl) (Reps.none _ _)))))))); intro v176 w136 ho137 hb hg_ hnew_; clear hg_ hnew_; (first | rw [← Ny175.out] at ho137 | (simp only [Int.reduceToNat] at ho137; rw [← Ny175.out] at ho137)); have n0_ := Aside0.mk (Kd.R_lower ho137 (below_size (by repeat (first | (with_reducible first | exact HB.out | apply below_alloc | apply pw_below_drewN | apply below_drew1) | exact HB.out)))); have n1_ := Aside0.mk (below_step (by repeat (first | (with_reducible first | exact HB.out | apply below_alloc | apply pw_below_drewN | apply below_drew1) | exact HB.out)) hb); clear HB; have HO177 := n0_; have HB := n1_; clear n0_ n1_; clear hb ho137; obtain ⟨Ao138, co138, eo138⟩ := Kd.R_slice HO177.out; subst eo138))
                                              go_loopg [85] k2 (fun kq v85 w' => ∃ (x85_3 : Int), v85 = .int .i64 x85_3 ∧ Aside0 (parterrelaw02_NumberAlike.l1 kq 1000 t170 t171 t172 y175 (y175.length : Int) x85_3 = some r) ∧ Aside0 (kq ≤ k2) ∧ Aside0 (Kd.R Kd.string 9 w' w.heap.size (fun _ => True) (.slice Ao138 y175.length co138) y175) ∧ Aside0 (Below w.heap.size w w'))
                                              case atStart => exact ⟨(0), (by first | rfl | (simp; done) | (simp [*]; done)), H', ⟨Nat.le_refl _⟩, ⟨by (with_reducible repeat (first | apply Kd.R_alloc | apply Kd.R_drewN | apply Kd.R_drew)); exact HO177.out⟩, ⟨by repeat (first | (with_reducible first | exact HB.out | apply below_alloc | apply pw_below_drewN | apply below_drew1) | exact HB.out)⟩⟩
                                              case round =>
                                                clear H'
                                                try clear c1
                                                try clear p1
                                                try clear q1
                                                try clear hx1
                                                try clear c2
                                                try clear p2
                                                try clear c3
                                                try clear c4
                                                try clear c4b0
                                                try clear c4b1
                                                try clear c5
                                                try clear c6
                                                try clear p6
                                                try clear c7
                                                try clear c7b0
                                                try clear c8
                                                try clear c9
                                                try clear c10
                                                try clear c11
                                                try clear c11b0
                                                try clear c12
                                                try clear c12b0
                                                try clear c12b1
                                                try clear c12b2
                                                try clear c13
                                                try clear c15
                                                try clear c15b0
                                                try clear c15b1
                                                try clear c15b2
                                                try clear c16
                                                try clear c16b0
                                                try clear c16b1
                                                try clear c16b2
                                                try clear c17
                                                try clear c17b0
                                                try clear c17b1
                                                try clear c17b2
                                                try clear p17
                                                try clear q17
                                                try clear hx17
                                                try clear c18
                                                try clear c18b0
                                                try clear c18b1
                                                try clear c18b2
                                                try clear c19
                                                try clear c19b0
                                                try clear c19b1
                                                try clear c19b2
                                                try clear c20
                                                try clear c20b0
                                                try clear c20b1
                                                try clear c20b2
                                                try clear c22
                                                try clear c22b0
                                                try clear c22b1
                                                try clear c22b2
                                                try clear c23
                                                try clear c23b0
                                                try clear c23b1
                                                try clear c23b2
                                                try clear c24
                                                try clear c24b0
                                                try clear c24b1
                                                try clear c24b2
                                                try clear c25
                                                try clear c25b0
                                                try clear c25b1
                                                try clear c25b2
                                                try clear c26
                                                try clear c26b0
                                                try clear c26b1
                                                try clear c26b2
                                                try clear c28
                                                try clear c28b0
                                                try clear c28b1
                                                try clear c28b2
                                                try clear c29
                                                try clear c29b0
                                                try clear c29b1
                                                try clear c29b2
                                                try clear c37
                                                try clear c37b0
                                                try clear c38
                                                try clear c38b0
                                                try clear c39
                                                try clear c39b0
                                                try clear c41
                                                try clear c41b0
                                                try clear c41b1
                                                try clear c42
                                                try clear c42b0
                                                try clear c42b1
                                                try clear c46
                                                try clear c46b0
                                                try clear c46b1
                                                try clear c46b2
                                                try clear c48
                                                try clear c48b0
                                                try clear c48b1
                                                try clear c49
                                                try clear c49b0
                                                try clear c49b1
                                                try clear c55
                                                try clear c55b0
                                                try clear c55b1
                                                try clear c58
                                                try clear c58b0
                                                try clear c59
                                                try clear c62
                                                try clear c62b0
                                                try clear c63
                                                try clear c63b0
                                                try clear c63b1
                                                try clear c63b2
                                                try clear p64
                                                try clear c66
                                                try clear c66b0
                                                try clear c66b1
                                                try clear c66b2
                                                try clear c67
                                                try clear c67b0
                                                try clear c67b1
                                                try clear c67b2
                                                try clear c68
                                                try clear c68b0
                                                try clear c68b1
                                                try clear c68b2
                                                try clear c69
                                                try clear c69b0
                                                try clear c69b1
                                                try clear c69b2
                                                try clear c70
                                                try clear c70b0
                                                try clear c70b1
                                                try clear c70b2
                                                try clear c71
                                                try clear c71b0
                                                try clear c71b1
                                                try clear c71b2
                                                try clear c73
                                                try clear c73b0
                                                try clear c73b1
                                                try clear c73b2
                                                try clear c74
                                                try clear c74b0
                                                try clear c74b1
                                                try clear c74b2
                                                try clear c75
                                                try clear c75b0
                                                try clear c75b1
                                                try clear c75b2
                                                try clear c76
                                                try clear c76b0
                                                try clear c76b1
                                                try clear c76b2
                                                try clear c77
                                                try clear c77b0
                                                try clear c77b1
                                                try clear c77b2
                                                try clear c79
                                                try clear c79b0
                                                try clear c79b1
                                                try clear c79b2
                                                try clear c80
                                                try clear c80b0
                                                try clear c80b1
                                                try clear c80b2
                                                try clear c88
                                                try clear c88b0
                                                try clear c89
                                                try clear c89b0
                                                try clear c90
                                                try clear c90b0
                                                try clear c92
                                                try clear c92b0
                                                try clear c92b1
                                                try clear c93
                                                try clear c93b0
                                                try clear c93b1
                                                try clear c97
                                                try clear c97b0
                                                try clear c97b1
                                                try clear c97b2
                                                try clear c99
                                                try clear c99b0
                                                try clear c99b1
                                                try clear c100
                                                try clear c100b0
                                                try clear c100b1
                                                try clear c106
                                                try clear c106b0
                                                try clear c106b1
                                                try clear c109
                                                try clear c109b0
                                                try clear c110
                                                try clear c113
                                                try clear c113b0
                                                try clear c114
                                                try clear c114b0
                                                try clear c114b1
                                                try clear c114b2
                                                try clear c117
                                                try clear c117b0
                                                try clear c117b1
                                                try clear c117b2
                                                try clear c118
                                                try clear c118b0
                                                try clear c118b1
                                                try clear c118b2
                                                try clear c119
                                                try clear c119b0
                                                try clear c119b1
                                                try clear c119b2
                                                try clear c120
                                                try clear c120b0
                                                try clear c120b1
                                                try clear c120b2
                                                try clear c121
                                                try clear c121b0
                                                try clear c121b1
                                                try clear c121b2
                                                try clear c122
                                                try clear c122b0
                                                try clear c122b1
                                                try clear c122b2
                                                try clear c124
                                                try clear c124b0
                                                try clear c124b1
                                                try clear c124b2
                                                try clear c125
                                                try clear c125b0
                                                try clear c125b1
                                                try clear c125b2
                                                try clear c126
                                                try clear c126b0
                                                try clear c126b1
                                                try clear c126b2
                                                try clear c127
                                                try clear c127b0
                                                try clear c127b1
                                                try clear c127b2
                                                try clear c128
                                                try clear c128b0
                                                try clear c128b1
                                                try clear c128b2
                                                try clear c130
                                                try clear c130b0
                                                try clear c130b1
                                                try clear c130b2
                                                try clear c131
                                                try clear c131b0
                                                try clear c131b1
                                                try clear c131b2
                                                try clear hx178_0
                                                try clear p1
                                                try clear p17
                                                try clear p178
                                                try clear p2
                                                try clear p6
                                                try clear p64
                                                try clear q1
                                                try clear q17
                                                try clear q178
                                                obtain ⟨x85_3, rfl, HA, HK3, HO_83, HB⟩ := hrel
                                                cases gk with
                                                | zero => exact absurd HA.out (by simp [parterrelaw02_NumberAlike.l1])
                                                | succ k3 =>
                                                  have H := HA.out
                                                  clear HA
                                                  simp only [parterrelaw02_NumberAlike.l1] at H
                                                  by_cases c139 : x85_3 < (y175.length : Int)
                                                  · rw [if_pos c139] at H
                                                    have c139b0 : decide (x85_3 < (y175.length : Int)) = true := decide_eq_true c139
                                                    clear c139
                                                    by_cases c140 : 0 ≤ x85_3
                                                    · rw [if_pos c140] at H
                                                      have c140b0 : decide (0 ≤ x85_3) = true := decide_eq_true c140
                                                      clear c140
                                                      by_cases c141 : x85_3 < (y175.length : Int)
                                                      · rw [if_pos c141] at H
                                                        have c141b0 : decide (x85_3 < (y175.length : Int)) = true := decide_eq_true c141
                                                        clear c141
                                                        replace H := Option.bind_eq_some_iff.mp H
                                                        obtain ⟨⟨t179, t180⟩, A1420, H⟩ := H
                                                        replace H : (if t172 = t180 then (if t179 = t171 then (parterrelaw02_NumberAlike.l1 k3 1000 t170 t171 t172 y175 (y175.length : Int) (wrap64 (x85_3 + 1))) else (some false)) else (some false)) = some r := H
                                                        have A142 := Aside0.mk A1420
                                                        clear A1420
                                                        by_cases c143 : t172 = t180
                                                        · rw [if_pos c143] at H
                                                          have c143b0 : (t172 == t180) = true := beq_iff_eq.mpr c143
                                                          have c143b1 : (t172 != t180) = false := bne_eq_false_iff_eq.mpr c143
                                                          clear c143
                                                          by_cases c144 : t179 = t171
                                                          · rw [if_pos c144] at H
                                                            have c144b0 : (t179 == t171) = true := beq_iff_eq.mpr c144
                                                            have c144b1 : (t179 != t171) = false := bne_eq_false_iff_eq.mpr c144
                                                            clear c144
                                                            have H' := Aside0.mk H
                                                            clear H
                                                            have p178 : 0 ≤ (x85_3 : Int) := of_decide_eq_true (by first | (with_reducible assumption) | assumption)
                                                            have q178 : x85_3 < (y175.length : Int) := of_decide_eq_true (by first | (with_reducible assumption) | assumption)
                                                            obtain ⟨ad178, e178, hx178_0⟩ := Kd.at_string (Kd.R_reads' HO_83.out).2.2 x85_3 p178 q178
                                                            cases e178
                                                            replace p178 := eq_true p178
                                                            replace q178 := eq_true q178
                                                            go_wp2_with (first | ((with_reducible refine gate_callee (f := 13) rfl ?_); refine goesL_ (some 92) rfl rfl Tryd.func13 (by kernel_rfl) rfl #[.string (rdOf ByteArray.empty y175 x85_3), .int .i64 1000] rfl (by (try simp only [List.map_toArray, List.map_cons, List.map_nil]); first | done | rfl | (simp only [List.length_drop, List.length_take]; rfl)) ?_; (with_reducible refine (number_Value.calls k3 (rdOf ByteArray.empty y175 x85_3) 1000 t179 t180 _ A142.out).mono ?_); rintro e w145 ⟨rfl, hb⟩; refine ⟨_, rfl, ?_⟩; have n0_ := Aside0.mk (Kd.R_below (by (with_reducible repeat (first | apply Kd.R_alloc | apply Kd.R_drewN | apply Kd.R_drew)); exact HO_83.out) hb); have n1_ := Aside0.mk (below_step (by repeat (first | (with_reducible first | exact HB.out | apply below_alloc | apply pw_below_drewN | apply below_drew1) | exact HB.out)) hb); clear HO_83; clear HB; have HO_83 := n0_; have HB := n1_; clear n0_ n1_; (try clear hb); (try clear hb2); (try clear hk); (try clear hi)))
                                                            go_roundg k3
                                                            case measure => have := HJ107.out; have := HK2.out; have := HK3.out; omega
                                                            case rel => exact ⟨(wrap64 (x85_3 + 1)), (by first | rfl | (simp; done) | (simp [*]; done)), H', ⟨by have := HJ107.out; have := HK2.out; have := HK3.out; omega⟩, ⟨by (with_reducible repeat (first | apply Kd.R_alloc | apply Kd.R_drewN | apply Kd.R_drew)); exact HO_83.out⟩, ⟨by repeat (first | (with_reducible first | exact HB.out | apply below_alloc | apply pw_below_drewN | apply below_drew1) | exact HB.out)⟩⟩
                                                          · rw [if_neg c144] at H
                                                            have c144b0 : (t179 == t171) = false := beq_eq_false_iff_ne.mpr c144
                                                            have c144b1 : (t179 != t171) = true := bne_iff_ne.mpr c144
                                                            obtain rfl := Option.some.inj H
                                                            have p178 : 0 ≤ (x85_3 : Int) := of_decide_eq_true (by first | (with_reducible assumption) | assumption)
                                                            have q178 : x85_3 < (y175.length : Int) := of_decide_eq_true (by first | (with_reducible assumption) | assumption)
                                                            obtain ⟨ad178, e178, hx178_0⟩ := Kd.at_string (Kd.R_reads' HO_83.out).2.2 x85_3 p178 q178
                                                            cases e178
                                                            replace p178 := eq_true p178
                                                            replace q178 := eq_true q178
                                                            go_wp2_with (first | ((with_reducible refine gate_callee (f := 13) rfl ?_); refine goesL_ (some 92) rfl rfl Tryd.func13 (by kernel_rfl) rfl #[.string (rdOf ByteArray.empty y175 x85_3), .int .i64 1000] rfl (by (try simp only [List.map_toArray, List.map_cons, List.map_nil]); first | done | rfl | (simp only [List.length_drop, List.length_take]; rfl)) ?_; (with_reducible refine (number_Value.calls k3 (rdOf ByteArray.empty y175 x85_3) 1000 t179 t180 _ A142.out).mono ?_); rintro e w146 ⟨rfl, hb⟩; refine ⟨_, rfl, ?_⟩; have n0_ := Aside0.mk (Kd.R_below (by (with_reducible repeat (first | apply Kd.R_alloc | apply Kd.R_drewN | apply Kd.R_drew)); exact HO_83.out) hb); have n1_ := Aside0.mk (below_step (by repeat (first | (with_reducible first | exact HB.out | apply below_alloc | apply pw_below_drewN | apply below_drew1) | exact HB.out)) hb); clear HO_83; clear HB; have HO_83 := n0_; have HB := n1_; clear n0_ n1_; (try clear hb); (try clear hb2); (try clear hk); (try clear hi)))
                                                            go_ret
                                                            exact ⟨by first | rfl | (simp [errW_none, errW_some] <;> rfl) | (simp [*, errW_none, errW_some] <;> rfl), by repeat (first | (with_reducible first | exact HB.out | apply below_alloc | apply pw_below_drewN | apply below_drew1) | exact HB.out)⟩
                                                        · rw [if_neg c143] at H
                                                          have c143b0 : (t172 == t180) = false := beq_eq_false_iff_ne.mpr c143
                                                          have c143b1 : (t172 != t180) = true := bne_iff_ne.mpr c143
                                                          obtain rfl := Option.some.inj H
                                                          have p178 : 0 ≤ (x85_3 : Int) := of_decide_eq_true (by first | (with_reducible assumption) | assumption)
                                                          have q178 : x85_3 < (y175.length : Int) := of_decide_eq_true (by first | (with_reducible assumption) | assumption)
                                                          obtain ⟨ad178, e178, hx178_0⟩ := Kd.at_string (Kd.R_reads' HO_83.out).2.2 x85_3 p178 q178
                                                          cases e178
                                                          replace p178 := eq_true p178
                                                          replace q178 := eq_true q178
                                                          go_wp2_with (first | ((with_reducible refine gate_callee (f := 13) rfl ?_); refine goesL_ (some 92) rfl rfl Tryd.func13 (by kernel_rfl) rfl #[.string (rdOf ByteArray.empty y175 x85_3), .int .i64 1000] rfl (by (try simp only [List.map_toArray, List.map_cons, List.map_nil]); first | done | rfl | (simp only [List.length_drop, List.length_take]; rfl)) ?_; (with_reducible refine (number_Value.calls k3 (rdOf ByteArray.empty y175 x85_3) 1000 t179 t180 _ A142.out).mono ?_); rintro e w147 ⟨rfl, hb⟩; refine ⟨_, rfl, ?_⟩; have n0_ := Aside0.mk (Kd.R_below (by (with_reducible repeat (first | apply Kd.R_alloc | apply Kd.R_drewN | apply Kd.R_drew)); exact HO_83.out) hb); have n1_ := Aside0.mk (below_step (by repeat (first | (with_reducible first | exact HB.out | apply below_alloc | apply pw_below_drewN | apply below_drew1) | exact HB.out)) hb); clear HO_83; clear HB; have HO_83 := n0_; have HB := n1_; clear n0_ n1_; (try clear hb); (try clear hb2); (try clear hk); (try clear hi)))
                                                          go_ret
                                                          exact ⟨by first | rfl | (simp [errW_none, errW_some] <;> rfl) | (simp [*, errW_none, errW_some] <;> rfl), by repeat (first | (with_reducible first | exact HB.out | apply below_alloc | apply pw_below_drewN | apply below_drew1) | exact HB.out)⟩
                                                      · rw [if_neg c141] at H
                                                        exact absurd H (by simp)
                                                    · rw [if_neg c140] at H
                                                      exact absurd H (by simp)
                                                  · rw [if_neg c139] at H
                                                    have c139b0 : decide (x85_3 < (y175.length : Int)) = false := decide_eq_false c139
                                                    clear c139
                                                    by_cases c148 : 1 + t170.size ≤ 9223372036854775807
                                                    · rw [if_pos c148] at H
                                                      have c148b0 := eq_true c148
                                                      have c148b1 : decide (1 + t170.size ≤ 9223372036854775807) = true := decide_eq_true c148
                                                      try have c148b2 : (9223372036854775807 < 1 + t170.size) = False := eq_false (Nat.not_lt.2 c148)
                                                      replace H := Option.bind_eq_some_iff.mp H
                                                      obtain ⟨⟨t181, t182⟩, A1490, H⟩ := H
                                                      replace H : (if t172 = t182 then (if t181 = (wrap64 (-t171)) then ((parterrelaw02_lives.f k3).bind fun t183 => (some t183)) else (some false)) else (some false)) = some r := H
                                                      have A149 := Aside0.mk A1490
                                                      clear A1490
                                                      by_cases c150 : t172 = t182
                                                      · rw [if_pos c150] at H
                                                        have c150b0 : (t172 == t182) = true := beq_iff_eq.mpr c150
                                                        have c150b1 : (t172 != t182) = false := bne_eq_false_iff_eq.mpr c150
                                                        clear c150
                                                        by_cases c151 : t181 = (wrap64 (-t171))
                                                        · rw [if_pos c151] at H
                                                          have c151b0 : (t181 == (wrap64 (-t171))) = true := beq_iff_eq.mpr c151
                                                          have c151b1 : (t181 != (wrap64 (-t171))) = false := bne_eq_false_iff_eq.mpr c151
                                                          clear c151
                                                          replace H := Option.bind_eq_some_iff.mp H
                                                          obtain ⟨t183, A1520, H⟩ := H
                                                          replace H : (some t183) = some r := H
                                                          have A152 := Aside0.mk A1520
                                                          clear A1520
                                                          obtain rfl := Option.some.inj H
                                                          go_wp2_with (first | ((with_reducible refine gate_callee (f := 13) rfl ?_); refine goesL_ (some 108) rfl rfl Tryd.func13 (by kernel_rfl) rfl #[.string ((⟨#[45]⟩ : ByteArray) ++ t170), .int .i64 1000] rfl (by (try simp only [List.map_toArray, List.map_cons, List.map_nil]); first | done | rfl | (simp only [List.length_drop, List.length_take]; rfl)) ?_; (with_reducible refine (number_Value.calls k3 ((⟨#[45]⟩ : ByteArray) ++ t170) 1000 t181 t182 _ A149.out).mono ?_); rintro e w153 ⟨rfl, hb⟩; refine ⟨_, rfl, ?_⟩; have n0_ := Aside0.mk (Kd.R_below (by (with_reducible repeat (first | apply Kd.R_alloc | apply Kd.R_drewN | apply Kd.R_drew)); exact HO_83.out) hb); have n1_ := Aside0.mk (below_step (by repeat (first | (with_reducible first | exact HB.out | apply below_alloc | apply pw_below_drewN | apply below_drew1) | exact HB.out)) hb); clear HO_83; clear HB; have HO_83 := n0_; have HB := n1_; clear n0_ n1_; (try clear hb); (try clear hb2); (try clear hk); (try clear hi)) | (go_at_call 10; (with_reducible refine (parterrelaw02_lives.calls k3  t183 _ A152.out (Tbl.tab0_stays HTB.out (by repeat (first | (with_reducible first | exact HB.out | apply below_alloc | apply pw_below_drewN | apply below_drew1) | exact HB.out)))).mono ?_); rintro e w154 ⟨rfl, hb⟩; have n0_ := Aside0.mk (Kd.R_below (by (with_reducible repeat (first | apply Kd.R_alloc | apply Kd.R_drewN | apply Kd.R_drew)); exact HO_83.out) hb); have n1_ := Aside0.mk (below_step (by repeat (first | (with_reducible first | exact HB.out | apply below_alloc | apply pw_below_drewN | apply below_drew1) | exact HB.out)) hb); clear HO_83; clear HB; have HO_83 := n0_; have HB := n1_; clear n0_ n1_; (try clear hb); (try clear hb2); (try clear hk); (try clear hi)))
                                                          go_ret
                                                          exact ⟨by first | rfl | (simp [errW_none, errW_some] <;> rfl) | (simp [*, errW_none, errW_some] <;> rfl), by repeat (first | (with_reducible first | exact HB.out | apply below_alloc | apply pw_below_drewN | apply below_drew1) | exact HB.out)⟩
                                                        · rw [if_neg c151] at H
                                                          have c151b0 : (t181 == (wrap64 (-t171))) = false := beq_eq_false_iff_ne.mpr c151
                                                          have c151b1 : (t181 != (wrap64 (-t171))) = true := bne_iff_ne.mpr c151
                                                          obtain rfl := Option.some.inj H
                                                          go_wp2_with (first | ((with_reducible refine gate_callee (f := 13) rfl ?_); refine goesL_ (some 108) rfl rfl Tryd.func13 (by kernel_rfl) rfl #[.string ((⟨#[45]⟩ : ByteArray) ++ t170), .int .i64 1000] rfl (by (try simp only [List.map_toArray, List.map_cons, List.map_nil]); first | done | rfl | (simp only [List.length_drop, List.length_take]; rfl)) ?_; (with_reducible refine (number_Value.calls k3 ((⟨#[45]⟩ : ByteArray) ++ t170) 1000 t181 t182 _ A149.out).mono ?_); rintro e w155 ⟨rfl, hb⟩; refine ⟨_, rfl, ?_⟩; have n0_ := Aside0.mk (Kd.R_below (by (with_reducible repeat (first | apply Kd.R_alloc | apply Kd.R_drewN | apply Kd.R_drew)); exact HO_83.out) hb); have n1_ := Aside0.mk (below_step (by repeat (first | (with_reducible first | exact HB.out | apply below_alloc | apply pw_below_drewN | apply below_drew1) | exact HB.out)) hb); clear HO_83; clear HB; have HO_83 := n0_; have HB := n1_; clear n0_ n1_; (try clear hb); (try clear hb2); (try clear hk); (try clear hi)))
                                                          go_ret
                                                          exact ⟨by first | rfl | (simp [errW_none, errW_some] <;> rfl) | (simp [*, errW_none, errW_some] <;> rfl), by repeat (first | (with_reducible first | exact HB.out | apply below_alloc | apply pw_below_drewN | apply below_drew1) | exact HB.out)⟩
                                                      · rw [if_neg c150] at H
                                                        have c150b0 : (t172 == t182) = false := beq_eq_false_iff_ne.mpr c150
                                                        have c150b1 : (t172 != t182) = true := bne_iff_ne.mpr c150
                                                        obtain rfl := Option.some.inj H
                                                        go_wp2_with (first | ((with_reducible refine gate_callee (f := 13) rfl ?_); refine goesL_ (some 108) rfl rfl Tryd.func13 (by kernel_rfl) rfl #[.string ((⟨#[45]⟩ : ByteArray) ++ t170), .int .i64 1000] rfl (by (try simp only [List.map_toArray, List.map_cons, List.map_nil]); first | done | rfl | (simp only [List.length_drop, List.length_take]; rfl)) ?_; (with_reducible refine (number_Value.calls k3 ((⟨#[45]⟩ : ByteArray) ++ t170) 1000 t181 t182 _ A149.out).mono ?_); rintro e w156 ⟨rfl, hb⟩; refine ⟨_, rfl, ?_⟩; have n0_ := Aside0.mk (Kd.R_below (by (with_reducible repeat (first | apply Kd.R_alloc | apply Kd.R_drewN | apply Kd.R_drew)); exact HO_83.out) hb); have n1_ := Aside0.mk (below_step (by repeat (first | (with_reducible first | exact HB.out | apply below_alloc | apply pw_below_drewN | apply below_drew1) | exact HB.out)) hb); clear HO_83; clear HB; have HO_83 := n0_; have HB := n1_; clear n0_ n1_; (try clear hb); (try clear hb2); (try clear hk); (try clear hi)))
                                                        go_ret
                                                        exact ⟨by first | rfl | (simp [errW_none, errW_some] <;> rfl) | (simp [*, errW_none, errW_some] <;> rfl), by repeat (first | (with_reducible first | exact HB.out | apply below_alloc | apply pw_below_drewN | apply below_drew1) | exact HB.out)⟩
                                                    · rw [if_neg c148] at H
                                                      exact absurd H (by simp)
                                            · rw [if_neg c131] at H
                                              exact absurd H (by simp)
                                          · rw [if_neg c130] at H
                                            exact absurd H (by simp)
                                        · rw [if_neg c128] at H
                                          exact absurd H (by simp)
                                      · rw [if_neg c127] at H
                                        exact absurd H (by simp)
                                    · rw [if_neg c126] at H
                                      exact absurd H (by simp)
                                  · rw [if_neg c125] at H
                                    exact absurd H (by simp)
                                · rw [if_neg c124] at H
                                  exact absurd H (by simp)
                              · rw [if_neg c122] at H
                                exact absurd H (by simp)
                            · rw [if_neg c121] at H
                              exact absurd H (by simp)
                          · rw [if_neg c120] at H
                            exact absurd H (by simp)
                        · rw [if_neg c119] at H
                          exact absurd H (by simp)
                      · rw [if_neg c118] at H
                        exact absurd H (by simp)
                    · rw [if_neg c117] at H
                      exact absurd H (by simp)
      · rw [if_neg c106] at H
        exact absurd H (by simp)

/-- THE ONE PURE STATEMENT of parterrelaw02_NumberAlike. -/
def parterrelaw02_NumberAlike.Pure : Prop := ∀ (a0 : Int) (a1 : Int) (a2 : Int), gInt .i64 a0 → gInt .i64 a1 → gInt .i64 a2 → ∃ k, parterrelaw02_NumberAlike.f k a0 a1 a2 = some true

end Go.Proofs.YtfccpnpocfjbcaaDoor.PNt
