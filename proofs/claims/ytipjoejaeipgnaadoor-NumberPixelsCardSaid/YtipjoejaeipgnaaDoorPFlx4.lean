-- Written by a program of this session (wip/p2) out of the translation; Lean checks it.
import Derived.Test.YtipjoejaeipgnaaDoorSq
import Derived.Test.YtipjoejaeipgnaaDoorPFlx0
import Derived.Test.YtipjoejaeipgnaaDoorPFlx1
namespace Go.Proofs.YtipjoejaeipgnaaDoor.PFl
open Go.RowKit Go.Proofs.YtipjoejaeipgnaaDoorW.PrintWords Go.Proofs.YtipjoejaeipgnaaDoorW.PrintLast Go.Proofs.YtipjoejaeipgnaaDoorW.PrintMore
attribute [local go_sem] max2_int min2_int max_two min_two max_three min_three max_four min_four   -- for this text's walks alone
set_option linter.unusedVariables false
set_option linter.unusedSimpArgs false
open Go.Proofs.YtipjoejaeipgnaaDoor.Opn Go.Proofs.YtipjoejaeipgnaaDoor.Giv

/-! ### number_text_exponent: function 26 -/
def number_text_exponent.l0 : Nat → Int → Int → Int → Bool → ByteArray → ByteArray → ByteArray → Int → Option (Int)
 | 0, _, _, _, _, _, _, _, _ => none
 | k + 1, x3, x7, x8, x123000, x123001, x123002, x123003, x123004 => if x8 < x7 then (if 0 ≤ x8 then (if x8 < (x123003.size : Int) then ((number_digit.f (bt x123003 x8)).bind fun t123 => (if t123 = true then (number_text_exponent.l0 k (mn 1000 (wrap64 ((wrap64 (10 * x3)) + (((bt x123003 x8) - 48) % 256)))) x7 (wrap64 (x8 + 1)) x123000 x123001 x123002 x123003 x123004) else (number_text_exponent.l0 k x3 x7 (wrap64 (x8 + 1)) x123000 x123001 x123002 x123003 x123004))) else (none)) else (none)) else (if x123003.toList = ([] : List UInt8) then (some x3) else (if 0 < (x123003.size : Int) then (if (bt x123003 0) = 45 then (some (wrap64 (-x3))) else (some x3)) else (none)))
def number_text_exponent.f (k : Nat) (a0_0 : Bool) (a0_1 : ByteArray) (a0_2 : ByteArray) (a0_3 : ByteArray) (a0_4 : Int) : Option (Int) := number_text_exponent.l0 k 0 (a0_3.size : Int) 0 a0_0 a0_1 a0_2 a0_3 a0_4
theorem number_text_exponent.mono_l : ∀ k, (∀ y0 y1 y2 y3 y4 y5 y6 y7, LeO (number_text_exponent.l0 k y0 y1 y2 y3 y4 y5 y6 y7) (number_text_exponent.l0 (k + 1) y0 y1 y2 y3 y4 y5 y6 y7))
 | 0 => fun _ _ _ _ _ _ _ _ r h => by simp [number_text_exponent.l0] at h
 | k + 1 => by
  have ih0 := number_text_exponent.mono_l k
  ·intro y0 y1 y2 y3 y4 y5 y6 y7
   unfold number_text_exponent.l0
   repeat' first
   | (with_reducible exact ih0 _ _ _ _ _ _ _ _)
   | (with_reducible exact LeO.refl _)
   | (with_reducible exact LeO.none _)
   | (with_reducible refine LeO.ite ?_ ?_)
   | (with_reducible refine LeO.bind ?_ (fun _ => ?_))
theorem number_text_exponent.mono : ∀ a0 a1 a2 a3 a4 k, LeO (number_text_exponent.f k a0 a1 a2 a3 a4) (number_text_exponent.f (k + 1) a0 a1 a2 a3 a4) := by
 intro a0 a1 a2 a3 a4 k
 have ih0 := number_text_exponent.mono_l k
 unfold number_text_exponent.f
 repeat' first
   | (with_reducible exact ih0 _ _ _ _ _ _ _ _)
   | (with_reducible exact LeO.refl _)
   | (with_reducible exact LeO.none _)
   | (with_reducible refine LeO.ite ?_ ?_)
   | (with_reducible refine LeO.bind ?_ (fun _ => ?_))
set_option maxHeartbeats 8000000 in
set_option maxRecDepth 100000 in
theorem number_text_exponent.calls (k : Nat) (a0_0 : Bool) (a0_1 : ByteArray) (a0_2 : ByteArray) (a0_3 : ByteArray) (a0_4 : Int) (r : Int) (w : World) (h : number_text_exponent.f k a0_0 a0_1 a0_2 a0_3 a0_4 = some r) :
  Calls Tryd.prog 26 #[.agg #[.bool a0_0, .string a0_1, .string a0_2, .string a0_3, .int .i64 a0_4]] w fun e w' => e = .returned (.int .i64 r) ∧ Below w.heap.size w w' := by
 have hu43 := Tryd.underlying43
 have HB := Aside0.mk (Below.refl w.heap.size w)
 have H : (number_text_exponent.l0 k 0 (a0_3.size : Int) 0 a0_0 a0_1 a0_2 a0_3 a0_4) = some r := h
 clear h
 have H' := Aside0.mk H
 clear H
 go_enter Tryd.func26, Tryd.ntmps26
 go_wp2_with (first | ((with_reducible refine gate_dst (N := 1) rfl ?_); refine box_event ?hg (N := 1) ?hd (cs := #[.bool a0_0, .string a0_1, .string a0_2, .string a0_3, .int .i64 a0_4]) (t := 43) ?hr ?_; (case hd => rfl); (case hg => rfl); (case hr => first | (go_simp; done) | (go_simp; rfl)); intro gb122 hg w2 hbox hb; have n0_ := Aside0.mk (below_step bel_ hb); have n1_ := Aside0.mk (hbox); have n2_ := Aside0.mk ((bsz_ hg : w.heap.size ≤ gb122)); have n3_ := Aside0.mk ((bsz_ hg : w.heap.size ≤ gb122)); clear HB; have HB := n0_; have BK122 := n1_; have GW122 := n2_; have GE122 := n3_; clear n0_ n1_ n2_ n3_; clear hb hbox hg; have hcz3_0 : w2.cell? ⟨gb122, 0, none⟩ = some (.bool a0_0) := (blk_cell BK122.out 0).trans rfl; have hcz3_1 : w2.cell? ⟨gb122, 1, none⟩ = some (.string a0_1) := (blk_cell BK122.out 1).trans rfl; have hcz3_2 : w2.cell? ⟨gb122, 2, none⟩ = some (.string a0_2) := (blk_cell BK122.out 2).trans rfl; have hcz3_3 : w2.cell? ⟨gb122, 3, none⟩ = some (.string a0_3) := (blk_cell BK122.out 3).trans rfl; have hcz3_4 : w2.cell? ⟨gb122, 4, none⟩ = some (.int .i64 a0_4) := (blk_cell BK122.out 4).trans rfl; have hfz3_0 := blk_frozen BK122.out 0; have hfz3_1 := blk_frozen BK122.out 1; have hfz3_2 := blk_frozen BK122.out 2; have hfz3_3 := blk_frozen BK122.out 3; have hfz3_4 := blk_frozen BK122.out 4))
 go_loopg [3, 8] k (fun kq v3 v8 w' => ∃ (x3_1 : Int) (x8_1 : Int), v3 = .int .i64 x3_1 ∧ v8 = .int .i64 x8_1 ∧ Aside0 (number_text_exponent.l0 kq x3_1 (a0_3.size : Int) x8_1 a0_0 a0_1 a0_2 a0_3 a0_4 = some r) ∧ Aside0 (kq ≤ k) ∧ Aside0 (w'.heap[gb122]? = some (.cells #[.bool a0_0, .string a0_1, .string a0_2, .string a0_3, .int .i64 a0_4] 43 (0, 0))) ∧ Aside0 (Below w.heap.size w w'))
 case atStart => exact ⟨(0), (0), rfs_, rfs_, H', ⟨Nat.le_refl _⟩, ⟨blk_⟩, ⟨bel_⟩⟩
 case round =>
  clear H'
  try clear c2
  try clear p2
  try clear hcz3_0
  try clear hcz3_1
  try clear hcz3_2
  try clear hcz3_3
  try clear hcz3_4
  try clear hfz3_0
  try clear hfz3_1
  try clear hfz3_2
  try clear hfz3_3
  try clear hfz3_4
  obtain ⟨x3_1, x8_1, rfl, rfl, HA, HK1, BK122, HB⟩ := hrel
  cases gk with
  | zero => exact absurd HA.out (by simp [number_text_exponent.l0])
  | succ k1 =>
   have H := HA.out
   clear HA
   simp only [number_text_exponent.l0] at H
   by_cases c4 : x8_1 < (a0_3.size : Int)
   ·rw [if_pos c4] at H
    have c4b0 : decide (x8_1 < (a0_3.size : Int)) = true := decide_eq_true c4
    clear c4
    by_cases c5 : 0 ≤ x8_1
    ·rw [if_pos c5] at H
     have c5b0 : decide (0 ≤ x8_1) = true := decide_eq_true c5
     clear c5
     by_cases c6 : x8_1 < (a0_3.size : Int)
     ·rw [if_pos c6] at H
      have c6b0 : decide (x8_1 < (a0_3.size : Int)) = true := decide_eq_true c6
      clear c6
      replace H := Option.bind_eq_some_iff.mp H
      obtain ⟨t123, A80, H⟩ := H
      try dsimp only at H
      have A8 := Aside0.mk A80
      clear A80
      by_cases c9 : t123 = true
      ·subst c9
       rw [if_pos rfl] at H
       obtain ⟨ji11, hji11⟩ : ∃ j_ : Int, (mn 1000 (wrap64 ((wrap64 (10 * x3_1)) + (((bt a0_3 x8_1) - 48) % 256)))) = j_ := ⟨_, rfl⟩
       replace H : (number_text_exponent.l0 k1 ji11 (a0_3.size : Int) (wrap64 (x8_1 + 1)) a0_0 a0_1 a0_2 a0_3 a0_4) = some r := by first | (rw [hji11] at H; exact H) | (simp only [hji11] at H ⊢; exact H)
       (try rw [hji11] at A8)
       have hji11_ : (if (wrap64 ((wrap64 (10 * x3_1)) + (((bt a0_3 x8_1) - 48) % 256))) < 1000 then (wrap64 ((wrap64 (10 * x3_1)) + (((bt a0_3 x8_1) - 48) % 256))) else 1000) = ji11 := hji11
       have H' := Aside0.mk H
       clear H
       have hcz12_0 : wr.cell? ⟨gb122, 0, none⟩ = some (.bool a0_0) := (blk_cell BK122.out 0).trans rfl
       have hcz12_1 : wr.cell? ⟨gb122, 1, none⟩ = some (.string a0_1) := (blk_cell BK122.out 1).trans rfl
       have hcz12_2 : wr.cell? ⟨gb122, 2, none⟩ = some (.string a0_2) := (blk_cell BK122.out 2).trans rfl
       have hcz12_3 : wr.cell? ⟨gb122, 3, none⟩ = some (.string a0_3) := (blk_cell BK122.out 3).trans rfl
       have hcz12_4 : wr.cell? ⟨gb122, 4, none⟩ = some (.int .i64 a0_4) := (blk_cell BK122.out 4).trans rfl
       have hfz12_0 := blk_frozen BK122.out 0
       have hfz12_1 := blk_frozen BK122.out 1
       have hfz12_2 := blk_frozen BK122.out 2
       have hfz12_3 := blk_frozen BK122.out 3
       have hfz12_4 := blk_frozen BK122.out 4
       have p7 : 0 ≤ (x8_1 : Int) := of_decide_eq_true (by first | (with_reducible assumption) | assumption)
       have q7 : x8_1 < (a0_3.size : Int) := of_decide_eq_true (by first | (with_reducible assumption) | assumption)
       have hx7 := bt_at a0_3 x8_1
       replace p7 := eq_true p7
       replace q7 := eq_true q7
       go_wp2_with (first | ((with_reducible refine gate_callee (f := 30) rfl ?_); refine goesL_ (some 15) rfl rfl Tryd.func30 (by kernel_rfl) rfl #[.int .u8 (bt a0_3 x8_1)] rfl goa_ ?_; (with_reducible refine (number_digit.calls (bt a0_3 x8_1) true _ A8.out).mono ?_); rintro e w' ⟨rfl, ⟨nd, rfl⟩⟩; refine ⟨_, rfl, ?_⟩; have p10 : 0 ≤ (x8_1 : Int) := of_decide_eq_true (by first | (with_reducible assumption) | assumption); have q10 : x8_1 < (a0_3.size : Int) := of_decide_eq_true (by first | (with_reducible assumption) | assumption); have hx10 := bt_at a0_3 x8_1; replace p10 := eq_true p10; replace q10 := eq_true q10))
       go_roundg k1
       case measure => have := HK1.out; omega
       case rel => exact ⟨(ji11), (wrap64 (x8_1 + 1)), (by first | rfl | (simp; done) | (simp only [← hji11] <;> (first | rfl | simp)) | (simp [*]; done)), rfs_, H', ⟨by have := HK1.out; omega⟩, ⟨blk_⟩, ⟨bel_⟩⟩
      ·replace c9 := Bool.eq_false_iff.mpr c9
       subst c9
       rw [if_neg (show ¬ (false = true) by decide)] at H
       have H' := Aside0.mk H
       clear H
       have hcz13_0 : wr.cell? ⟨gb122, 0, none⟩ = some (.bool a0_0) := (blk_cell BK122.out 0).trans rfl
       have hcz13_1 : wr.cell? ⟨gb122, 1, none⟩ = some (.string a0_1) := (blk_cell BK122.out 1).trans rfl
       have hcz13_2 : wr.cell? ⟨gb122, 2, none⟩ = some (.string a0_2) := (blk_cell BK122.out 2).trans rfl
       have hcz13_3 : wr.cell? ⟨gb122, 3, none⟩ = some (.string a0_3) := (blk_cell BK122.out 3).trans rfl
       have hcz13_4 : wr.cell? ⟨gb122, 4, none⟩ = some (.int .i64 a0_4) := (blk_cell BK122.out 4).trans rfl
       have hfz13_0 := blk_frozen BK122.out 0
       have hfz13_1 := blk_frozen BK122.out 1
       have hfz13_2 := blk_frozen BK122.out 2
       have hfz13_3 := blk_frozen BK122.out 3
       have hfz13_4 := blk_frozen BK122.out 4
       have p7 : 0 ≤ (x8_1 : Int) := of_decide_eq_true (by first | (with_reducible assumption) | assumption)
       have q7 : x8_1 < (a0_3.size : Int) := of_decide_eq_true (by first | (with_reducible assumption) | assumption)
       have hx7 := bt_at a0_3 x8_1
       replace p7 := eq_true p7
       replace q7 := eq_true q7
       go_wp2_with (first | ((with_reducible refine gate_callee (f := 30) rfl ?_); refine goesL_ (some 15) rfl rfl Tryd.func30 (by kernel_rfl) rfl #[.int .u8 (bt a0_3 x8_1)] rfl goa_ ?_; (with_reducible refine (number_digit.calls (bt a0_3 x8_1) false _ A8.out).mono ?_); rintro e w' ⟨rfl, ⟨nd, rfl⟩⟩; refine ⟨_, rfl, ?_⟩))
       go_roundg k1
       case measure => have := HK1.out; omega
       case rel => exact ⟨(x3_1), (wrap64 (x8_1 + 1)), rfs_, rfs_, H', ⟨by have := HK1.out; omega⟩, ⟨blk_⟩, ⟨bel_⟩⟩
     ·rw [if_neg c6] at H
      exact absurd H (by simp)
    ·rw [if_neg c5] at H
     exact absurd H (by simp)
   ·rw [if_neg c4] at H
    have c4b0 : decide (x8_1 < (a0_3.size : Int)) = false := decide_eq_false c4
    clear c4
    by_cases c14 : a0_3.toList = ([] : List UInt8)
    ·rw [if_pos c14] at H
     have c14b0 : (a0_3.toList == ([] : List UInt8)) = true := beq_iff_eq.mpr c14
     have c14b1 : (a0_3.toList != ([] : List UInt8)) = false := bne_eq_false_iff_eq.mpr c14
     clear c14
     obtain rfl := Option.some.inj H
     have hcz15_0 : wr.cell? ⟨gb122, 0, none⟩ = some (.bool a0_0) := (blk_cell BK122.out 0).trans rfl
     have hcz15_1 : wr.cell? ⟨gb122, 1, none⟩ = some (.string a0_1) := (blk_cell BK122.out 1).trans rfl
     have hcz15_2 : wr.cell? ⟨gb122, 2, none⟩ = some (.string a0_2) := (blk_cell BK122.out 2).trans rfl
     have hcz15_3 : wr.cell? ⟨gb122, 3, none⟩ = some (.string a0_3) := (blk_cell BK122.out 3).trans rfl
     have hcz15_4 : wr.cell? ⟨gb122, 4, none⟩ = some (.int .i64 a0_4) := (blk_cell BK122.out 4).trans rfl
     have hfz15_0 := blk_frozen BK122.out 0
     have hfz15_1 := blk_frozen BK122.out 1
     have hfz15_2 := blk_frozen BK122.out 2
     have hfz15_3 := blk_frozen BK122.out 3
     have hfz15_4 := blk_frozen BK122.out 4
     go_wp2
     go_ret
     exact ⟨rsl_, bel_⟩
    ·rw [if_neg c14] at H
     have c14b0 : (a0_3.toList == ([] : List UInt8)) = false := beq_eq_false_iff_ne.mpr c14
     have c14b1 : (a0_3.toList != ([] : List UInt8)) = true := bne_iff_ne.mpr c14
     by_cases c16 : 0 < (a0_3.size : Int)
     ·rw [if_pos c16] at H
      have c16b0 : decide (0 < (a0_3.size : Int)) = true := decide_eq_true c16
      have c16b1 : decide (0 < a0_3.size) = true := decide_eq_true (by omega)
      clear c16
      by_cases c18 : (bt a0_3 0) = 45
      ·rw [if_pos c18] at H
       have c18b0 : ((bt a0_3 0) == 45) = true := beq_iff_eq.mpr c18
       have c18b1 : ((bt a0_3 0) != 45) = false := bne_eq_false_iff_eq.mpr c18
       clear c18
       obtain rfl := Option.some.inj H
       have hcz19_0 : wr.cell? ⟨gb122, 0, none⟩ = some (.bool a0_0) := (blk_cell BK122.out 0).trans rfl
       have hcz19_1 : wr.cell? ⟨gb122, 1, none⟩ = some (.string a0_1) := (blk_cell BK122.out 1).trans rfl
       have hcz19_2 : wr.cell? ⟨gb122, 2, none⟩ = some (.string a0_2) := (blk_cell BK122.out 2).trans rfl
       have hcz19_3 : wr.cell? ⟨gb122, 3, none⟩ = some (.string a0_3) := (blk_cell BK122.out 3).trans rfl
       have hcz19_4 : wr.cell? ⟨gb122, 4, none⟩ = some (.int .i64 a0_4) := (blk_cell BK122.out 4).trans rfl
       have hfz19_0 := blk_frozen BK122.out 0
       have hfz19_1 := blk_frozen BK122.out 1
       have hfz19_2 := blk_frozen BK122.out 2
       have hfz19_3 := blk_frozen BK122.out 3
       have hfz19_4 := blk_frozen BK122.out 4
       have p17 : 0 ≤ (0 : Int) := (by omega)
       have q17 : 0 < a0_3.size := (by have : (0 : Int) < (a0_3.size : Int) := of_decide_eq_true (by first | (with_reducible assumption) | assumption); omega)
       have hx17 : ∀ h : 0 < a0_3.size, ((a0_3[0]'h).toNat : Int) = bt a0_3 0 := bt_at a0_3 0
       clear p17
       have qi17 : (0 < (a0_3.size : Int)) = True := eq_true (of_decide_eq_true (by first | (with_reducible assumption) | assumption))
       replace q17 := eq_true q17
       go_wp2
       go_ret
       exact ⟨rsl_, bel_⟩
      ·rw [if_neg c18] at H
       have c18b0 : ((bt a0_3 0) == 45) = false := beq_eq_false_iff_ne.mpr c18
       have c18b1 : ((bt a0_3 0) != 45) = true := bne_iff_ne.mpr c18
       obtain rfl := Option.some.inj H
       have hcz20_0 : wr.cell? ⟨gb122, 0, none⟩ = some (.bool a0_0) := (blk_cell BK122.out 0).trans rfl
       have hcz20_1 : wr.cell? ⟨gb122, 1, none⟩ = some (.string a0_1) := (blk_cell BK122.out 1).trans rfl
       have hcz20_2 : wr.cell? ⟨gb122, 2, none⟩ = some (.string a0_2) := (blk_cell BK122.out 2).trans rfl
       have hcz20_3 : wr.cell? ⟨gb122, 3, none⟩ = some (.string a0_3) := (blk_cell BK122.out 3).trans rfl
       have hcz20_4 : wr.cell? ⟨gb122, 4, none⟩ = some (.int .i64 a0_4) := (blk_cell BK122.out 4).trans rfl
       have hfz20_0 := blk_frozen BK122.out 0
       have hfz20_1 := blk_frozen BK122.out 1
       have hfz20_2 := blk_frozen BK122.out 2
       have hfz20_3 := blk_frozen BK122.out 3
       have hfz20_4 := blk_frozen BK122.out 4
       have p17 : 0 ≤ (0 : Int) := (by omega)
       have q17 : 0 < a0_3.size := (by have : (0 : Int) < (a0_3.size : Int) := of_decide_eq_true (by first | (with_reducible assumption) | assumption); omega)
       have hx17 : ∀ h : 0 < a0_3.size, ((a0_3[0]'h).toNat : Int) = bt a0_3 0 := bt_at a0_3 0
       clear p17
       have qi17 : (0 < (a0_3.size : Int)) = True := eq_true (of_decide_eq_true (by first | (with_reducible assumption) | assumption))
       replace q17 := eq_true q17
       go_wp2
       go_ret
       exact ⟨rsl_, bel_⟩
     ·rw [if_neg c16] at H
      exact absurd H (by simp)

end Go.Proofs.YtipjoejaeipgnaaDoor.PFl
