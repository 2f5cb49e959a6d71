/- LineTellsCardSaid, part 7 of 8: contracts of the program's functions, the words that they use, and the plain laws on what they compute. Conditions: none beyond what the statements say. -/
import Derived.Test.YtofdhdafabmhmaaGreatDoorKLt0
import Derived.Test.YtofdhdafabmhmaaGreatDoorKLt2
import Derived.Test.YtofdhdafabmhmaaGreatDoorKLt3
import Derived.Test.YtofdhdafabmhmaaGreatDoorProg
import Derived.Lib.LaidTab
import Derived.Lib.ItoaNum
import Derived.Lib.SmallJoins
import Derived.Lib.AppendIntMem
import Derived.Below
import Derived.WalkKit
set_option linter.unusedVariables false
set_option linter.unusedSimpArgs false
section
namespace Go.Proofs.YtofdhdafabmhmaaGreatDoor.PLt
open Go.RowKit Go.Proofs.YtofdhdafabmhmaaGreatDoorW.PrintWords Go.Proofs.YtofdhdafabmhmaaGreatDoorW.PrintLast Go.Proofs.YtofdhdafabmhmaaGreatDoorW.PrintMore
attribute [local go_sem] max2_int min2_int max_two min_two max_three min_three max_four min_four
open Go.Proofs.YtofdhdafabmhmaaGreatDoor.Opn Go.Proofs.YtofdhdafabmhmaaGreatDoor.Giv

attribute [local go_sem high] eqA32
/-! ### line_Good: function 16 -/
def line_Good.j0 : Nat → Bool → Int → Int → ByteArray → Option (Bool)
 | 0, _, _, _, _ => none
 | k + 1, x3, x282000, x282001, x282002 => if x282000 = 1 then ((line_auto.f).bind fun bt283 => (some (x282000 == bt283.1 && (x282001 == bt283.2.1 && (x282002.toList == bt283.2.2.toList))))) else (if x282000 = 2 then (if x282001 = 0 then (some false) else (if x282001 ≥ (-10000) then (if x282001 ≤ 10000 then (some x3) else (some false)) else (some false))) else (if x282000 = 3 then (if x282001 = 0 then (if x282002.toList = ([] : List UInt8) then (some false) else (some x3)) else (some false)) else (if x282000 = 4 then (if x282001 ≥ 1 then (if x282001 ≤ 10000 then (some x3) else (some false)) else (some false)) else (some false))))
def line_Good.f (k : Nat) (a0_0 : Int) (a0_1 : Int) (a0_2 : ByteArray) : Option (Bool) := if a0_2.toList = ([] : List UInt8) then (line_Good.j0 k true a0_0 a0_1 a0_2) else ((ident_Custom.f a0_2).bind fun t282 => (line_Good.j0 k t282 a0_0 a0_1 a0_2))
theorem line_Good.mono_l : ∀ k, (∀ y0 y1 y2 y3, LeO (line_Good.j0 k y0 y1 y2 y3) (line_Good.j0 (k + 1) y0 y1 y2 y3))
 | 0 => fun _ _ _ _ r h => by simp [line_Good.j0] at h
 | k + 1 => by
  have ih0 := line_Good.mono_l k
  ·intro y0 y1 y2 y3
   unfold line_Good.j0
   repeat' first
   | (with_reducible exact ih0 _ _ _ _)
   | (with_reducible exact LeO.refl _)
   | (with_reducible exact LeO.none _)
   | (with_reducible refine LeO.ite ?_ ?_)
   | (with_reducible refine LeO.bind ?_ (fun _ => ?_))
theorem line_Good.mono : ∀ a0 a1 a2 k, LeO (line_Good.f k a0 a1 a2) (line_Good.f (k + 1) a0 a1 a2) := by
 intro a0 a1 a2 k
 have ih0 := line_Good.mono_l k
 unfold line_Good.f
 repeat' first
   | (with_reducible exact ih0 _ _ _ _)
   | (with_reducible exact LeO.refl _)
   | (with_reducible exact LeO.none _)
   | (with_reducible refine LeO.ite ?_ ?_)
   | (with_reducible refine LeO.bind ?_ (fun _ => ?_))
set_option maxHeartbeats 8000000 in
set_option maxRecDepth 100000 in
theorem line_Good.calls (k : Nat) (a0_0 : Int) (a0_1 : Int) (a0_2 : ByteArray) (r : Bool) (w : World) (h : line_Good.f k a0_0 a0_1 a0_2 = some r) :
  Calls Tryz.prog 16 #[.agg #[.int .i64 a0_0, .int .i64 a0_1, .string a0_2]] w fun e w' => e = .returned (.bool r) ∧ Below w.heap.size w w' := by
 have hu32 := Tryz.underlying32
 have HB := Aside0.mk (Below.refl w.heap.size w)
 have H : (if a0_2.toList = ([] : List UInt8) then (line_Good.j0 k true a0_0 a0_1 a0_2) else ((ident_Custom.f a0_2).bind fun t282 => (line_Good.j0 k t282 a0_0 a0_1 a0_2))) = some r := h
 clear h
 have HC2 := Aside0.mk H
 clear H
 go_enter Tryz.func16, Tryz.ntmps16
 go_upto_region 1 with (first | ((with_reducible refine gate_dst (N := 1) rfl ?_); refine box_event ?hg (N := 1) ?hd (cs := #[.int .i64 a0_0, .int .i64 a0_1, .string a0_2]) (t := 32) ?hr ?_; (case hd => rfl); (case hg => rfl); (case hr => first | (go_simp; done) | (go_simp; rfl)); intro gb281 hg w3 hbox hb; have n0_ := Aside0.mk (below_step bel_ hb); have n1_ := Aside0.mk (hbox); have n2_ := Aside0.mk ((bsz_ hg : w.heap.size ≤ gb281)); have n3_ := Aside0.mk ((bsz_ hg : w.heap.size ≤ gb281)); clear HB; have HB := n0_; have BK281 := n1_; have GW281 := n2_; have GE281 := n3_; clear n0_ n1_ n2_ n3_; clear hb hbox hg))
 (try simp only [Act.put, List.setIfInBounds_toArray, List.set_cons_zero, List.set_cons_succ])
 go_cut [3] (fun v3 wc => ∃ (kq : Nat) (x3_1 : Bool), v3 = .bool x3_1 ∧ Aside0 (line_Good.j0 kq x3_1 a0_0 a0_1 a0_2 = some r) ∧ Aside0 (kq ≤ k) ∧ Aside0 (wc.heap[gb281]? = some (.cells #[.int .i64 a0_0, .int .i64 a0_1, .string a0_2] 32 (0, 0))) ∧ Aside0 (Below w.heap.size w wc))
 case first =>
  have H := HC2.out
  clear HC2
  by_cases c4 : a0_2.toList = ([] : List UInt8)
  ·rw [if_pos c4] at H
   have c4b0 : (a0_2.toList == ([] : List UInt8)) = true := beq_iff_eq.mpr c4
   have c4b1 : (a0_2.toList != ([] : List UInt8)) = false := bne_eq_false_iff_eq.mpr c4
   clear c4
   (first | rw [c4b0] | (simp only [i64_w, i32_w]; rw [c4b0]) | skip)
   have H' := Aside0.mk H
   clear H
   have hcz5_0 : w3.cell? ⟨gb281, 0, none⟩ = some (.int .i64 a0_0) := (blk_cell BK281.out 0).trans rfl
   have hcz5_1 : w3.cell? ⟨gb281, 1, none⟩ = some (.int .i64 a0_1) := (blk_cell BK281.out 1).trans rfl
   have hcz5_2 : w3.cell? ⟨gb281, 2, none⟩ = some (.string a0_2) := (blk_cell BK281.out 2).trans rfl
   have hfz5_0 := blk_frozen BK281.out 0
   have hfz5_1 := blk_frozen BK281.out 1
   have hfz5_2 := blk_frozen BK281.out 2
   go_wp2
   go_meet
   case rel => exact ⟨_, (true), rfs_, (by first | exact H' | (subst_vars; exact H')), ⟨ole_⟩, ⟨blk_⟩, ⟨bel_⟩⟩
  ·rw [if_neg c4] at H
   have c4b0 : (a0_2.toList == ([] : List UInt8)) = false := beq_eq_false_iff_ne.mpr c4
   have c4b1 : (a0_2.toList != ([] : List UInt8)) = true := bne_iff_ne.mpr c4
   (first | rw [c4b0] | (simp only [i64_w, i32_w]; rw [c4b0]) | skip)
   replace H := Option.bind_eq_some_iff.mp H
   obtain ⟨t282, A60, H⟩ := H
   try dsimp only at H
   have A6 := Aside0.mk A60
   clear A60
   have H' := Aside0.mk H
   clear H
   have hcz7_0 : w3.cell? ⟨gb281, 0, none⟩ = some (.int .i64 a0_0) := (blk_cell BK281.out 0).trans rfl
   have hcz7_1 : w3.cell? ⟨gb281, 1, none⟩ = some (.int .i64 a0_1) := (blk_cell BK281.out 1).trans rfl
   have hcz7_2 : w3.cell? ⟨gb281, 2, none⟩ = some (.string a0_2) := (blk_cell BK281.out 2).trans rfl
   have hfz7_0 := blk_frozen BK281.out 0
   have hfz7_1 := blk_frozen BK281.out 1
   have hfz7_2 := blk_frozen BK281.out 2
   go_wp2_with (first | (go_at_call 37; (with_reducible refine (ident_Custom.calls a0_2 t282 _ A6.out).mono ?_); rintro e w8 ⟨rfl, hb⟩; have n0_ := blb_ BK281 hb; have n1_ := Aside0.mk (below_step bel_ hb); clear BK281; clear HB; have BK281 := n0_; have HB := n1_; clear n0_ n1_; clear hb))
   go_meet
   case rel => exact ⟨_, (t282), rfs_, (by first | exact H' | (subst_vars; exact H')), ⟨ole_⟩, ⟨blk_⟩, ⟨bel_⟩⟩
 case rest =>
  clear HC2
  try clear c1
  try clear p2
  try clear c4
  try clear c4b0
  try clear c4b1
  try clear hcz5_0
  try clear hcz5_1
  try clear hcz5_2
  try clear hcz7_0
  try clear hcz7_1
  try clear hcz7_2
  try clear hfz5_0
  try clear hfz5_1
  try clear hfz5_2
  try clear hfz7_0
  try clear hfz7_1
  try clear hfz7_2
  obtain ⟨kq, x3_1, rfl, HA, HJ1, BK281, HB⟩ := hcut
  cases kq with
  | zero => exact absurd HA.out (by simp [line_Good.j0])
  | succ kj1 =>
   have H := HA.out
   clear HA
   simp only [line_Good.j0] at H
   by_cases c9 : a0_0 = 1
   ·rw [if_pos c9] at H
    have c9b0 : (a0_0 == 1) = true := beq_iff_eq.mpr c9
    have c9b1 : (a0_0 != 1) = false := bne_eq_false_iff_eq.mpr c9
    clear c9
    replace H := Option.bind_eq_some_iff.mp H
    obtain ⟨⟨t283, t284, t285⟩, A100, H⟩ := H
    try dsimp only at H
    have A10 := Aside0.mk A100
    clear A100
    obtain rfl := Option.some.inj H
    have hcz11_0 : wc.cell? ⟨gb281, 0, none⟩ = some (.int .i64 a0_0) := (blk_cell BK281.out 0).trans rfl
    have hcz11_1 : wc.cell? ⟨gb281, 1, none⟩ = some (.int .i64 a0_1) := (blk_cell BK281.out 1).trans rfl
    have hcz11_2 : wc.cell? ⟨gb281, 2, none⟩ = some (.string a0_2) := (blk_cell BK281.out 2).trans rfl
    have hfz11_0 := blk_frozen BK281.out 0
    have hfz11_1 := blk_frozen BK281.out 1
    have hfz11_2 := blk_frozen BK281.out 2
    try go_wp2
    have n0_ := Aside0.mk (blk_drew BK281.out)
    have n1_ := Aside0.mk (below_drew1 HB.out)
    clear BK281
    clear HB
    have BK281 := n0_
    have HB := n1_
    clear n0_ n1_
    refine start_ (n := 4) (S := fun w' => w'.cell? ⟨gb281, 0, none⟩ = some (.int .i64 a0_0) ∧ w'.cell? ⟨gb281, 1, none⟩ = some (.int .i64 a0_1) ∧ w'.cell? ⟨gb281, 2, none⟩ = some (.string a0_2)) (ds := []) #[false, false, false, false] (by kernel_rfl) rfl rfl ⟨(blk_cell BK281.out 0).trans rfl, (blk_cell BK281.out 1).trans rfl, (blk_cell BK281.out 2).trans rfl⟩ (fun hHeld => ?_)
    generalize wc.drew = w12 at BK281 HB hHeld ⊢
    refine take_ (i := 0) (N := some 16) (v := ?_) (a' := ?_) #[true, false, false, false] rfl rfl (by kernel_rfl) (fun _ _ _ h => h) (Or.inl ⟨by rfl, ?_⟩) hHeld ?_ ?_
    rotate_left
    ·rintro w' ⟨s0, s1, s2⟩
     go_simp
     with_reducible rfl
    rotate_left
    ·simp only [Act.put, List.setIfInBounds_toArray, List.set_cons_zero, List.set_cons_succ, i64_w, i32_w]
     rfl
    refine one_ (i := 1) (N := some 17) #[true, true, false, false] rfl rfl (by kernel_rfl) (by decide) (fun K hK => ?_)
    refine goes_ Tryz.func38 (by kernel_rfl) rfl #[] (by rfl) rfl rfl goa_ ?_
    with_reducible refine (line_auto.calls  t283 t284 t285 _ A10.out).mono ?_
    rintro e w13 ⟨rfl, hb⟩
    refine ⟨_, rfl, ?_⟩
    have n0_ := blb_ BK281 hb
    have n1_ := Aside0.mk (below_step bel_ hb)
    clear BK281
    clear HB
    have BK281 := n0_
    have HB := n1_
    clear n0_ n1_
    (try clear hb)
    (try clear hb2)
    (try clear hk)
    (try clear hi)
    refine hK.out _ _ ⟨(blk_cell BK281.out 0).trans rfl, (blk_cell BK281.out 1).trans rfl, (blk_cell BK281.out 2).trans rfl⟩ (fun hHeld => ?_)
    clear hK K
    refine norm_ (a' := ?_) ?_ ?_
    rotate_left
    ·show Act.put _ (some 17) _ = _
     simp only [Act.put, List.setIfInBounds_toArray, List.set_cons_zero, List.set_cons_succ, i64_w, i32_w]
     rfl
    refine pure_ (i := 2) (N := some 18) (v := ?_) (a' := ?_) #[true, true, true, false] rfl rfl (by kernel_rfl) (fun _ _ _ h => h) (Or.inl ⟨by rfl, ?_⟩) ?_ ?_
    rotate_left
    ·intro w'
     go_simp
     with_reducible rfl
    rotate_left
    ·simp only [Act.put, List.setIfInBounds_toArray, List.set_cons_zero, List.set_cons_succ, i64_w, i32_w]
     rfl
    refine pure_ (i := 3) (N := some 2) (v := ?_) (a' := ?_) #[true, true, true, true] rfl rfl (by kernel_rfl) (fun _ _ _ h => h) (Or.inl ⟨by rfl, ?_⟩) ?_ ?_
    rotate_left
    ·intro w'
     go_simp
     with_reducible rfl
    rotate_left
    ·simp only [Act.put, List.setIfInBounds_toArray, List.set_cons_zero, List.set_cons_succ, i64_w, i32_w]
     rfl
    refine done_ (by kernel_rfl) ?_
    try go_wp2
    go_ret
    exact ⟨rsl_, bel_⟩
   ·rw [if_neg c9] at H
    have c9b0 : (a0_0 == 1) = false := beq_eq_false_iff_ne.mpr c9
    have c9b1 : (a0_0 != 1) = true := bne_iff_ne.mpr c9
    by_cases c14 : a0_0 = 2
    ·rw [if_pos c14] at H
     have c14b0 : (a0_0 == 2) = true := beq_iff_eq.mpr c14
     have c14b1 : (a0_0 != 2) = false := bne_eq_false_iff_eq.mpr c14
     clear c14
     by_cases c15 : a0_1 = 0
     ·rw [if_pos c15] at H
      have c15b0 : (a0_1 == 0) = true := beq_iff_eq.mpr c15
      have c15b1 : (a0_1 != 0) = false := bne_eq_false_iff_eq.mpr c15
      clear c15
      obtain rfl := Option.some.inj H
      have hcz16_0 : wc.cell? ⟨gb281, 0, none⟩ = some (.int .i64 a0_0) := (blk_cell BK281.out 0).trans rfl
      have hcz16_1 : wc.cell? ⟨gb281, 1, none⟩ = some (.int .i64 a0_1) := (blk_cell BK281.out 1).trans rfl
      have hcz16_2 : wc.cell? ⟨gb281, 2, none⟩ = some (.string a0_2) := (blk_cell BK281.out 2).trans rfl
      have hfz16_0 := blk_frozen BK281.out 0
      have hfz16_1 := blk_frozen BK281.out 1
      have hfz16_2 := blk_frozen BK281.out 2
      go_wp2
      go_ret
      exact ⟨rsl_, bel_⟩
     ·rw [if_neg c15] at H
      have c15b0 : (a0_1 == 0) = false := beq_eq_false_iff_ne.mpr c15
      have c15b1 : (a0_1 != 0) = true := bne_iff_ne.mpr c15
      by_cases c17 : a0_1 ≥ (-10000)
      ·rw [if_pos c17] at H
       have c17b0 : decide ((-10000) ≤ a0_1) = true := decide_eq_true c17
       clear c17
       by_cases c18 : a0_1 ≤ 10000
       ·rw [if_pos c18] at H
        have c18b0 : decide (a0_1 ≤ 10000) = true := decide_eq_true c18
        clear c18
        obtain rfl := Option.some.inj H
        have hcz19_0 : wc.cell? ⟨gb281, 0, none⟩ = some (.int .i64 a0_0) := (blk_cell BK281.out 0).trans rfl
        have hcz19_1 : wc.cell? ⟨gb281, 1, none⟩ = some (.int .i64 a0_1) := (blk_cell BK281.out 1).trans rfl
        have hcz19_2 : wc.cell? ⟨gb281, 2, none⟩ = some (.string a0_2) := (blk_cell BK281.out 2).trans rfl
        have hfz19_0 := blk_frozen BK281.out 0
        have hfz19_1 := blk_frozen BK281.out 1
        have hfz19_2 := blk_frozen BK281.out 2
        go_wp2
        go_ret
        exact ⟨rsl_, bel_⟩
       ·rw [if_neg c18] at H
        have c18b0 : decide (a0_1 ≤ 10000) = false := decide_eq_false c18
        clear c18
        obtain rfl := Option.some.inj H
        have hcz20_0 : wc.cell? ⟨gb281, 0, none⟩ = some (.int .i64 a0_0) := (blk_cell BK281.out 0).trans rfl
        have hcz20_1 : wc.cell? ⟨gb281, 1, none⟩ = some (.int .i64 a0_1) := (blk_cell BK281.out 1).trans rfl
        have hcz20_2 : wc.cell? ⟨gb281, 2, none⟩ = some (.string a0_2) := (blk_cell BK281.out 2).trans rfl
        have hfz20_0 := blk_frozen BK281.out 0
        have hfz20_1 := blk_frozen BK281.out 1
        have hfz20_2 := blk_frozen BK281.out 2
        go_wp2
        go_ret
        exact ⟨rsl_, bel_⟩
      ·rw [if_neg c17] at H
       have c17b0 : decide ((-10000) ≤ a0_1) = false := decide_eq_false c17
       clear c17
       obtain rfl := Option.some.inj H
       have hcz21_0 : wc.cell? ⟨gb281, 0, none⟩ = some (.int .i64 a0_0) := (blk_cell BK281.out 0).trans rfl
       have hcz21_1 : wc.cell? ⟨gb281, 1, none⟩ = some (.int .i64 a0_1) := (blk_cell BK281.out 1).trans rfl
       have hcz21_2 : wc.cell? ⟨gb281, 2, none⟩ = some (.string a0_2) := (blk_cell BK281.out 2).trans rfl
       have hfz21_0 := blk_frozen BK281.out 0
       have hfz21_1 := blk_frozen BK281.out 1
       have hfz21_2 := blk_frozen BK281.out 2
       go_wp2
       go_ret
       exact ⟨rsl_, bel_⟩
    ·rw [if_neg c14] at H
     have c14b0 : (a0_0 == 2) = false := beq_eq_false_iff_ne.mpr c14
     have c14b1 : (a0_0 != 2) = true := bne_iff_ne.mpr c14
     by_cases c22 : a0_0 = 3
     ·rw [if_pos c22] at H
      have c22b0 : (a0_0 == 3) = true := beq_iff_eq.mpr c22
      have c22b1 : (a0_0 != 3) = false := bne_eq_false_iff_eq.mpr c22
      clear c22
      by_cases c23 : a0_1 = 0
      ·rw [if_pos c23] at H
       have c23b0 : (a0_1 == 0) = true := beq_iff_eq.mpr c23
       have c23b1 : (a0_1 != 0) = false := bne_eq_false_iff_eq.mpr c23
       clear c23
       by_cases c24 : a0_2.toList = ([] : List UInt8)
       ·rw [if_pos c24] at H
        have c24b0 : (a0_2.toList == ([] : List UInt8)) = true := beq_iff_eq.mpr c24
        have c24b1 : (a0_2.toList != ([] : List UInt8)) = false := bne_eq_false_iff_eq.mpr c24
        clear c24
        obtain rfl := Option.some.inj H
        have hcz25_0 : wc.cell? ⟨gb281, 0, none⟩ = some (.int .i64 a0_0) := (blk_cell BK281.out 0).trans rfl
        have hcz25_1 : wc.cell? ⟨gb281, 1, none⟩ = some (.int .i64 a0_1) := (blk_cell BK281.out 1).trans rfl
        have hcz25_2 : wc.cell? ⟨gb281, 2, none⟩ = some (.string a0_2) := (blk_cell BK281.out 2).trans rfl
        have hfz25_0 := blk_frozen BK281.out 0
        have hfz25_1 := blk_frozen BK281.out 1
        have hfz25_2 := blk_frozen BK281.out 2
        go_wp2
        go_ret
        exact ⟨rsl_, bel_⟩
       ·rw [if_neg c24] at H
        have c24b0 : (a0_2.toList == ([] : List UInt8)) = false := beq_eq_false_iff_ne.mpr c24
        have c24b1 : (a0_2.toList != ([] : List UInt8)) = true := bne_iff_ne.mpr c24
        obtain rfl := Option.some.inj H
        have hcz26_0 : wc.cell? ⟨gb281, 0, none⟩ = some (.int .i64 a0_0) := (blk_cell BK281.out 0).trans rfl
        have hcz26_1 : wc.cell? ⟨gb281, 1, none⟩ = some (.int .i64 a0_1) := (blk_cell BK281.out 1).trans rfl
        have hcz26_2 : wc.cell? ⟨gb281, 2, none⟩ = some (.string a0_2) := (blk_cell BK281.out 2).trans rfl
        have hfz26_0 := blk_frozen BK281.out 0
        have hfz26_1 := blk_frozen BK281.out 1
        have hfz26_2 := blk_frozen BK281.out 2
        go_wp2
        go_ret
        exact ⟨rsl_, bel_⟩
      ·rw [if_neg c23] at H
       have c23b0 : (a0_1 == 0) = false := beq_eq_false_iff_ne.mpr c23
       have c23b1 : (a0_1 != 0) = true := bne_iff_ne.mpr c23
       obtain rfl := Option.some.inj H
       have hcz27_0 : wc.cell? ⟨gb281, 0, none⟩ = some (.int .i64 a0_0) := (blk_cell BK281.out 0).trans rfl
       have hcz27_1 : wc.cell? ⟨gb281, 1, none⟩ = some (.int .i64 a0_1) := (blk_cell BK281.out 1).trans rfl
       have hcz27_2 : wc.cell? ⟨gb281, 2, none⟩ = some (.string a0_2) := (blk_cell BK281.out 2).trans rfl
       have hfz27_0 := blk_frozen BK281.out 0
       have hfz27_1 := blk_frozen BK281.out 1
       have hfz27_2 := blk_frozen BK281.out 2
       go_wp2
       go_ret
       exact ⟨rsl_, bel_⟩
     ·rw [if_neg c22] at H
      have c22b0 : (a0_0 == 3) = false := beq_eq_false_iff_ne.mpr c22
      have c22b1 : (a0_0 != 3) = true := bne_iff_ne.mpr c22
      by_cases c28 : a0_0 = 4
      ·rw [if_pos c28] at H
       have c28b0 : (a0_0 == 4) = true := beq_iff_eq.mpr c28
       have c28b1 : (a0_0 != 4) = false := bne_eq_false_iff_eq.mpr c28
       clear c28
       by_cases c29 : a0_1 ≥ 1
       ·rw [if_pos c29] at H
        have c29b0 : decide (1 ≤ a0_1) = true := decide_eq_true c29
        clear c29
        by_cases c30 : a0_1 ≤ 10000
        ·rw [if_pos c30] at H
         have c30b0 : decide (a0_1 ≤ 10000) = true := decide_eq_true c30
         clear c30
         obtain rfl := Option.some.inj H
         have hcz31_0 : wc.cell? ⟨gb281, 0, none⟩ = some (.int .i64 a0_0) := (blk_cell BK281.out 0).trans rfl
         have hcz31_1 : wc.cell? ⟨gb281, 1, none⟩ = some (.int .i64 a0_1) := (blk_cell BK281.out 1).trans rfl
         have hcz31_2 : wc.cell? ⟨gb281, 2, none⟩ = some (.string a0_2) := (blk_cell BK281.out 2).trans rfl
         have hfz31_0 := blk_frozen BK281.out 0
         have hfz31_1 := blk_frozen BK281.out 1
         have hfz31_2 := blk_frozen BK281.out 2
         go_wp2
         go_ret
         exact ⟨rsl_, bel_⟩
        ·rw [if_neg c30] at H
         have c30b0 : decide (a0_1 ≤ 10000) = false := decide_eq_false c30
         clear c30
         obtain rfl := Option.some.inj H
         have hcz32_0 : wc.cell? ⟨gb281, 0, none⟩ = some (.int .i64 a0_0) := (blk_cell BK281.out 0).trans rfl
         have hcz32_1 : wc.cell? ⟨gb281, 1, none⟩ = some (.int .i64 a0_1) := (blk_cell BK281.out 1).trans rfl
         have hcz32_2 : wc.cell? ⟨gb281, 2, none⟩ = some (.string a0_2) := (blk_cell BK281.out 2).trans rfl
         have hfz32_0 := blk_frozen BK281.out 0
         have hfz32_1 := blk_frozen BK281.out 1
         have hfz32_2 := blk_frozen BK281.out 2
         go_wp2
         go_ret
         exact ⟨rsl_, bel_⟩
       ·rw [if_neg c29] at H
        have c29b0 : decide (1 ≤ a0_1) = false := decide_eq_false c29
        clear c29
        obtain rfl := Option.some.inj H
        have hcz33_0 : wc.cell? ⟨gb281, 0, none⟩ = some (.int .i64 a0_0) := (blk_cell BK281.out 0).trans rfl
        have hcz33_1 : wc.cell? ⟨gb281, 1, none⟩ = some (.int .i64 a0_1) := (blk_cell BK281.out 1).trans rfl
        have hcz33_2 : wc.cell? ⟨gb281, 2, none⟩ = some (.string a0_2) := (blk_cell BK281.out 2).trans rfl
        have hfz33_0 := blk_frozen BK281.out 0
        have hfz33_1 := blk_frozen BK281.out 1
        have hfz33_2 := blk_frozen BK281.out 2
        go_wp2
        go_ret
        exact ⟨rsl_, bel_⟩
      ·rw [if_neg c28] at H
       have c28b0 : (a0_0 == 4) = false := beq_eq_false_iff_ne.mpr c28
       have c28b1 : (a0_0 != 4) = true := bne_iff_ne.mpr c28
       obtain rfl := Option.some.inj H
       have hcz34_0 : wc.cell? ⟨gb281, 0, none⟩ = some (.int .i64 a0_0) := (blk_cell BK281.out 0).trans rfl
       have hcz34_1 : wc.cell? ⟨gb281, 1, none⟩ = some (.int .i64 a0_1) := (blk_cell BK281.out 1).trans rfl
       have hcz34_2 : wc.cell? ⟨gb281, 2, none⟩ = some (.string a0_2) := (blk_cell BK281.out 2).trans rfl
       have hfz34_0 := blk_frozen BK281.out 0
       have hfz34_1 := blk_frozen BK281.out 1
       have hfz34_2 := blk_frozen BK281.out 2
       go_wp2
       go_ret
       exact ⟨rsl_, bel_⟩

end Go.Proofs.YtofdhdafabmhmaaGreatDoor.PLt
end
section
namespace Go.Proofs.YtofdhdafabmhmaaGreatDoor.PLt
open Go.RowKit Go.Proofs.YtofdhdafabmhmaaGreatDoorW.PrintWords Go.Proofs.YtofdhdafabmhmaaGreatDoorW.PrintLast Go.Proofs.YtofdhdafabmhmaaGreatDoorW.PrintMore
attribute [local go_sem] max2_int min2_int max_two min_two max_three min_three max_four min_four
open Go.Proofs.YtofdhdafabmhmaaGreatDoor.Opn Go.Proofs.YtofdhdafabmhmaaGreatDoor.Giv

/-! ### parterreref04_Lower: function 94 -/
def parterreref04_Lower.l0 : Nat → ByteArray → ByteArray → Int → Option (ByteArray)
 | 0, _, _, _ => none
 | k + 1, x0, x3, x4 => if x4 < (x0.size : Int) then (if 0 ≤ x4 then (if (bt x0 x4) ≥ 65 then (if (bt x0 x4) ≤ 90 then ((some (([((((bt x0 x4) - 65) % 256) + 97) % 256] : List Int) : List Int)).bind fun y286 => (if x3.size + (strOfNums y286).size ≤ 9223372036854775807 then (parterreref04_Lower.l0 k x0 (x3 ++ (strOfNums y286)) (wrap64 (x4 + 1))) else (none))) else ((some (([bt x0 x4] : List Int) : List Int)).bind fun y289 => (if x3.size + (strOfNums y289).size ≤ 9223372036854775807 then (parterreref04_Lower.l0 k x0 (x3 ++ (strOfNums y289)) (wrap64 (x4 + 1))) else (none)))) else ((some (([bt x0 x4] : List Int) : List Int)).bind fun y292 => (if x3.size + (strOfNums y292).size ≤ 9223372036854775807 then (parterreref04_Lower.l0 k x0 (x3 ++ (strOfNums y292)) (wrap64 (x4 + 1))) else (none)))) else (none)) else (some x3)
def parterreref04_Lower.f (k : Nat) (a0 : ByteArray) : Option (ByteArray) := parterreref04_Lower.l0 k a0 (⟨#[]⟩ : ByteArray) 0
theorem parterreref04_Lower.mono_l : ∀ k, (∀ y0 y1 y2, LeO (parterreref04_Lower.l0 k y0 y1 y2) (parterreref04_Lower.l0 (k + 1) y0 y1 y2))
 | 0 => fun _ _ _ r h => by simp [parterreref04_Lower.l0] at h
 | k + 1 => by
  have ih0 := parterreref04_Lower.mono_l k
  ·intro y0 y1 y2
   unfold parterreref04_Lower.l0
   repeat' first
   | (with_reducible exact ih0 _ _ _)
   | (with_reducible exact LeO.refl _)
   | (with_reducible exact LeO.none _)
   | (with_reducible refine LeO.ite ?_ ?_)
   | (with_reducible refine LeO.bind ?_ (fun _ => ?_))
theorem parterreref04_Lower.mono : ∀ a0 k, LeO (parterreref04_Lower.f k a0) (parterreref04_Lower.f (k + 1) a0) := by
 intro a0 k
 have ih0 := parterreref04_Lower.mono_l k
 unfold parterreref04_Lower.f
 repeat' first
   | (with_reducible exact ih0 _ _ _)
   | (with_reducible exact LeO.refl _)
   | (with_reducible exact LeO.none _)
   | (with_reducible refine LeO.ite ?_ ?_)
   | (with_reducible refine LeO.bind ?_ (fun _ => ?_))
set_option maxHeartbeats 8000000 in
set_option maxRecDepth 100000 in
theorem parterreref04_Lower.calls (k : Nat) (a0 : ByteArray) (r : ByteArray) (w : World) (h : parterreref04_Lower.f k a0 = some r) :
  Calls Tryz.prog 94 #[.string a0] w fun e w' => e = .returned (.string r) ∧ Below w.heap.size w w' := by
 have HB := Aside0.mk (Below.refl w.heap.size w)
 have H : (parterreref04_Lower.l0 k a0 (⟨#[]⟩ : ByteArray) 0) = some r := h
 clear h
 have H' := Aside0.mk H
 clear H
 go_enter Tryz.func94, Tryz.ntmps94
 go_wp2
 go_loopg [3, 4] k (fun kq v3 v4 w' => ∃ (x3_1 : ByteArray) (x4_1 : Int), v3 = .string x3_1 ∧ v4 = .int .i64 x4_1 ∧ Aside0 (parterreref04_Lower.l0 kq a0 x3_1 x4_1 = some r) ∧ Aside0 (kq ≤ k) ∧ Aside0 (Below w.heap.size w w'))
 case atStart => exact ⟨((⟨#[]⟩ : ByteArray)), (0), rfs_, rfs_, H', ⟨Nat.le_refl _⟩, ⟨bel_⟩⟩
 case round =>
  clear H'
  obtain ⟨x3_1, x4_1, rfl, rfl, HA, HK1, HB⟩ := hrel
  cases gk with
  | zero => exact absurd HA.out (by simp [parterreref04_Lower.l0])
  | succ k1 =>
   have H := HA.out
   clear HA
   simp only [parterreref04_Lower.l0] at H
   by_cases c2 : x4_1 < (a0.size : Int)
   ·rw [if_pos c2] at H
    have c2b0 : decide (x4_1 < (a0.size : Int)) = true := decide_eq_true c2
    clear c2
    by_cases c3 : 0 ≤ x4_1
    ·rw [if_pos c3] at H
     have c3b0 : decide (0 ≤ x4_1) = true := decide_eq_true c3
     clear c3
     by_cases c5 : (bt a0 x4_1) ≥ 65
     ·rw [if_pos c5] at H
      have c5b0 : decide (65 ≤ (bt a0 x4_1)) = true := decide_eq_true c5
      clear c5
      by_cases c6 : (bt a0 x4_1) ≤ 90
      ·rw [if_pos c6] at H
       have c6b0 : decide ((bt a0 x4_1) ≤ 90) = true := decide_eq_true c6
       clear c6
       obtain ⟨y286, hy286⟩ : ∃ y_ : List Int, y_ = (([((((bt a0 x4_1) - 65) % 256) + 97) % 256] : List Int)) := ⟨_, rfl⟩
       replace H : (if x3_1.size + (strOfNums y286).size ≤ 9223372036854775807 then (parterreref04_Lower.l0 k1 a0 (x3_1 ++ (strOfNums y286)) (wrap64 (x4_1 + 1))) else (none)) = some r := by first | (rw [hy286]; with_reducible exact H) | (have H2_ := (Option.bind_some _ _).symm.trans H; rw [hy286]; with_reducible exact H2_) | (have H2_ := (Option.bind_some _ _).symm.trans H; with_reducible exact H2_) | with_reducible exact H | (rw [hy286]; exact H) | exact H
       have Ny286 := Aside0.mk hy286
       clear hy286
       by_cases c7 : x3_1.size + (strOfNums y286).size ≤ 9223372036854775807
       ·rw [if_pos c7] at H
        have c7b0 := eq_true c7
        have c7b1 : decide (x3_1.size + (strOfNums y286).size ≤ 9223372036854775807) = true := decide_eq_true c7
        try have c7b2 : (9223372036854775807 < x3_1.size + (strOfNums y286).size) = False := eq_false (Nat.not_lt.2 c7)
        have H' := Aside0.mk H
        clear H
        have p4 : 0 ≤ (x4_1 : Int) := of_decide_eq_true (by first | (with_reducible assumption) | assumption)
        have q4 : x4_1 < (a0.size : Int) := of_decide_eq_true (by first | (with_reducible assumption) | assumption)
        have hx4 := bt_at a0 x4_1
        replace p4 := eq_true p4
        replace q4 := eq_true q4
        go_wp2_with (first | ((with_reducible refine gate_dst (N := 26) rfl ?_); refine Kd.R_lit (Kd.int .u8) _ 5 ?hg (N := 26) ?hd (xs := ([((((bt a0 x4_1) - 65) % 256) + 97) % 256] : List Int)) (inner := [.int .u8 (((((bt a0 x4_1) - 65) % 256) + 97) % 256)]) (ok := fun _ => True) (okp := fun _ => True) ?hr ?hp (fun _ hk => hk) trivial (Below.refl _ _) (Nat.le_refl _) (by simp) ?_; (case hd => rfl); (case hg => rfl); (case hr => first | (go_simp; done) | (go_simp; rfl)); (case hp => exact (Reps.one (show Kd.M (Kd.int .u8) _ _ _ (((((bt a0 x4_1) - 65) % 256) + 97) % 256) [.int .u8 (((((bt a0 x4_1) - 65) % 256) + 97) % 256)] from rfl) (Reps.none _ _))); intro v287 w8 ho9 hb hg_ hnew_; clear hg_ hnew_; (first | rw [← Ny286.out] at ho9 | (simp only [Int.reduceToNat] at ho9; rw [← Ny286.out] at ho9)); have n0_ := Aside0.mk (Kd.R_lower ho9 (below_size bel_)); have n1_ := Aside0.mk (below_step bel_ hb); clear HB; have HO288 := n0_; have HB := n1_; clear n0_ n1_; clear hb ho9; have hcv10 := own_string (P := Tryz.prog) Tryz.underlying67 Tryz.underlying5 Tryz.underlying9 (Kd.own_of_R HO288.out)))
        go_roundg k1
        case measure => have := HK1.out; omega
        case rel => exact ⟨(x3_1 ++ (strOfNums y286)), (wrap64 (x4_1 + 1)), rfs_, rfs_, H', ⟨by have := HK1.out; omega⟩, ⟨bel_⟩⟩
       ·rw [if_neg c7] at H
        exact absurd H (by simp)
      ·rw [if_neg c6] at H
       have c6b0 : decide ((bt a0 x4_1) ≤ 90) = false := decide_eq_false c6
       clear c6
       obtain ⟨y289, hy289⟩ : ∃ y_ : List Int, y_ = (([bt a0 x4_1] : List Int)) := ⟨_, rfl⟩
       replace H : (if x3_1.size + (strOfNums y289).size ≤ 9223372036854775807 then (parterreref04_Lower.l0 k1 a0 (x3_1 ++ (strOfNums y289)) (wrap64 (x4_1 + 1))) else (none)) = some r := by first | (rw [hy289]; with_reducible exact H) | (have H2_ := (Option.bind_some _ _).symm.trans H; rw [hy289]; with_reducible exact H2_) | (have H2_ := (Option.bind_some _ _).symm.trans H; with_reducible exact H2_) | with_reducible exact H | (rw [hy289]; exact H) | exact H
       have Ny289 := Aside0.mk hy289
       clear hy289
       by_cases c11 : x3_1.size + (strOfNums y289).size ≤ 9223372036854775807
       ·rw [if_pos c11] at H
        have c11b0 := eq_true c11
        have c11b1 : decide (x3_1.size + (strOfNums y289).size ≤ 9223372036854775807) = true := decide_eq_true c11
        try have c11b2 : (9223372036854775807 < x3_1.size + (strOfNums y289).size) = False := eq_false (Nat.not_lt.2 c11)
        have H' := Aside0.mk H
        clear H
        have p4 : 0 ≤ (x4_1 : Int) := of_decide_eq_true (by first | (with_reducible assumption) | assumption)
        have q4 : x4_1 < (a0.size : Int) := of_decide_eq_true (by first | (with_reducible assumption) | assumption)
        have hx4 := bt_at a0 x4_1
        replace p4 := eq_true p4
        replace q4 := eq_true q4
        go_wp2_with (first | ((with_reducible refine gate_dst (N := 26) rfl ?_); refine Kd.R_lit (Kd.int .u8) _ 5 ?hg (N := 26) ?hd (xs := ([bt a0 x4_1] : List Int)) (inner := [.int .u8 (bt a0 x4_1)]) (ok := fun _ => True) (okp := fun _ => True) ?hr ?hp (fun _ hk => hk) trivial (Below.refl _ _) (Nat.le_refl _) (by simp) ?_; (case hd => rfl); (case hg => rfl); (case hr => first | (go_simp; done) | (go_simp; rfl)); (case hp => exact (Reps.one (show Kd.M (Kd.int .u8) _ _ _ (bt a0 x4_1) [.int .u8 (bt a0 x4_1)] from rfl) (Reps.none _ _))); intro v290 w12 ho13 hb hg_ hnew_; clear hg_ hnew_; (first | rw [← Ny289.out] at ho13 | (simp only [Int.reduceToNat] at ho13; rw [← Ny289.out] at ho13)); have n0_ := Aside0.mk (Kd.R_lower ho13 (below_size bel_)); have n1_ := Aside0.mk (below_step bel_ hb); clear HB; have HO291 := n0_; have HB := n1_; clear n0_ n1_; clear hb ho13; have hcv14 := own_string (P := Tryz.prog) Tryz.underlying67 Tryz.underlying5 Tryz.underlying9 (Kd.own_of_R HO291.out)))
        go_roundg k1
        case measure => have := HK1.out; omega
        case rel => exact ⟨(x3_1 ++ (strOfNums y289)), (wrap64 (x4_1 + 1)), rfs_, rfs_, H', ⟨by have := HK1.out; omega⟩, ⟨bel_⟩⟩
       ·rw [if_neg c11] at H
        exact absurd H (by simp)
     ·rw [if_neg c5] at H
      have c5b0 : decide (65 ≤ (bt a0 x4_1)) = false := decide_eq_false c5
      clear c5
      obtain ⟨y292, hy292⟩ : ∃ y_ : List Int, y_ = (([bt a0 x4_1] : List Int)) := ⟨_, rfl⟩
      replace H : (if x3_1.size + (strOfNums y292).size ≤ 9223372036854775807 then (parterreref04_Lower.l0 k1 a0 (x3_1 ++ (strOfNums y292)) (wrap64 (x4_1 + 1))) else (none)) = some r := by first | (rw [hy292]; with_reducible exact H) | (have H2_ := (Option.bind_some _ _).symm.trans H; rw [hy292]; with_reducible exact H2_) | (have H2_ := (Option.bind_some _ _).symm.trans H; with_reducible exact H2_) | with_reducible exact H | (rw [hy292]; exact H) | exact H
      have Ny292 := Aside0.mk hy292
      clear hy292
      by_cases c15 : x3_1.size + (strOfNums y292).size ≤ 9223372036854775807
      ·rw [if_pos c15] at H
       have c15b0 := eq_true c15
       have c15b1 : decide (x3_1.size + (strOfNums y292).size ≤ 9223372036854775807) = true := decide_eq_true c15
       try have c15b2 : (9223372036854775807 < x3_1.size + (strOfNums y292).size) = False := eq_false (Nat.not_lt.2 c15)
       have H' := Aside0.mk H
       clear H
       have p4 : 0 ≤ (x4_1 : Int) := of_decide_eq_true (by first | (with_reducible assumption) | assumption)
       have q4 : x4_1 < (a0.size : Int) := of_decide_eq_true (by first | (with_reducible assumption) | assumption)
       have hx4 := bt_at a0 x4_1
       replace p4 := eq_true p4
       replace q4 := eq_true q4
       go_wp2_with (first | ((with_reducible refine gate_dst (N := 26) rfl ?_); refine Kd.R_lit (Kd.int .u8) _ 5 ?hg (N := 26) ?hd (xs := ([bt a0 x4_1] : List Int)) (inner := [.int .u8 (bt a0 x4_1)]) (ok := fun _ => True) (okp := fun _ => True) ?hr ?hp (fun _ hk => hk) trivial (Below.refl _ _) (Nat.le_refl _) (by simp) ?_; (case hd => rfl); (case hg => rfl); (case hr => first | (go_simp; done) | (go_simp; rfl)); (case hp => exact (Reps.one (show Kd.M (Kd.int .u8) _ _ _ (bt a0 x4_1) [.int .u8 (bt a0 x4_1)] from rfl) (Reps.none _ _))); intro v293 w16 ho17 hb hg_ hnew_; clear hg_ hnew_; (first | rw [← Ny292.out] at ho17 | (simp only [Int.reduceToNat] at ho17; rw [← Ny292.out] at ho17)); have n0_ := Aside0.mk (Kd.R_lower ho17 (below_size bel_)); have n1_ := Aside0.mk (below_step bel_ hb); clear HB; have HO294 := n0_; have HB := n1_; clear n0_ n1_; clear hb ho17; have hcv18 := own_string (P := Tryz.prog) Tryz.underlying67 Tryz.underlying5 Tryz.underlying9 (Kd.own_of_R HO294.out)))
       go_roundg k1
       case measure => have := HK1.out; omega
       case rel => exact ⟨(x3_1 ++ (strOfNums y292)), (wrap64 (x4_1 + 1)), rfs_, rfs_, H', ⟨by have := HK1.out; omega⟩, ⟨bel_⟩⟩
      ·rw [if_neg c15] at H
       exact absurd H (by simp)
    ·rw [if_neg c3] at H
     exact absurd H (by simp)
   ·rw [if_neg c2] at H
    have c2b0 : decide (x4_1 < (a0.size : Int)) = false := decide_eq_false c2
    clear c2
    obtain rfl := Option.some.inj H
    go_wp2
    go_ret
    exact ⟨rsl_, bel_⟩

/-! ### parterreref04_Is: function 71 -/
def parterreref04_Is.f (k : Nat) (a0 : ByteArray) (a1 : ByteArray) : Option (Bool) := (parterreref04_Lower.f k a0).bind fun t295 => ((parterreref04_Lower.f k a1).bind fun t296 => (some (t295.toList == t296.toList)))
theorem parterreref04_Is.mono : ∀ a0 a1 k, LeO (parterreref04_Is.f k a0 a1) (parterreref04_Is.f (k + 1) a0 a1) := by
 intro a0 a1 k
 unfold parterreref04_Is.f
 repeat' first
   | (with_reducible exact parterreref04_Lower.mono _ _)
   | (with_reducible exact LeO.refl _)
   | (with_reducible exact LeO.none _)
   | (with_reducible refine LeO.ite ?_ ?_)
   | (with_reducible refine LeO.bind ?_ (fun _ => ?_))
set_option maxHeartbeats 8000000 in
set_option maxRecDepth 100000 in
theorem parterreref04_Is.calls (k : Nat) (a0 : ByteArray) (a1 : ByteArray) (r : Bool) (w : World) (h : parterreref04_Is.f k a0 a1 = some r) :
  Calls Tryz.prog 71 #[.string a0, .string a1] w fun e w' => e = .returned (.bool r) ∧ Below w.heap.size w w' := by
 have HB := Aside0.mk (Below.refl w.heap.size w)
 have H : ((parterreref04_Lower.f k a0).bind fun t295 => ((parterreref04_Lower.f k a1).bind fun t296 => (some (t295.toList == t296.toList)))) = some r := h
 clear h
 replace H := Option.bind_eq_some_iff.mp H
 obtain ⟨t295, A30, H⟩ := H
 try dsimp only at H
 have A3 := Aside0.mk A30
 clear A30
 replace H := Option.bind_eq_some_iff.mp H
 obtain ⟨t296, A40, H⟩ := H
 try dsimp only at H
 have A4 := Aside0.mk A40
 clear A40
 obtain rfl := Option.some.inj H
 go_enter Tryz.func71, Tryz.ntmps71
 go_wp2_with (first | ((with_reducible refine gate_callee (f := 94) rfl ?_); refine goesL_ (some 6) rfl rfl Tryz.func94 (by kernel_rfl) rfl #[.string a0] rfl goa_ ?_; (with_reducible refine (parterreref04_Lower.calls k a0 t295 _ A3.out).mono ?_); rintro e w5 ⟨rfl, hb⟩; refine ⟨_, rfl, ?_⟩; have n0_ := Aside0.mk (below_step bel_ hb); clear HB; have HB := n0_; clear n0_; clear hb) | ((with_reducible refine gate_callee (f := 94) rfl ?_); refine goesL_ (some 8) rfl rfl Tryz.func94 (by kernel_rfl) rfl #[.string a1] rfl goa_ ?_; (with_reducible refine (parterreref04_Lower.calls k a1 t296 _ A4.out).mono ?_); rintro e w6 ⟨rfl, hb⟩; refine ⟨_, rfl, ?_⟩; have n0_ := Aside0.mk (below_step bel_ hb); clear HB; have HB := n0_; clear n0_; clear hb))
 go_ret
 exact ⟨rsl_, bel_⟩

/-! ### parterreref04_nought: function 61 -/
def parterreref04_nought.l0 : Nat → ByteArray → Int → Option (Bool)
 | 0, _, _ => none
 | k + 1, x0, x3 => if x3 < (x0.size : Int) then (if 0 ≤ x3 then (if (bt x0 x3) = 0 then (some true) else (parterreref04_nought.l0 k x0 (wrap64 (x3 + 1)))) else (none)) else (some false)
def parterreref04_nought.f (k : Nat) (a0 : ByteArray) : Option (Bool) := parterreref04_nought.l0 k a0 0
theorem parterreref04_nought.mono_l : ∀ k, (∀ y0 y1, LeO (parterreref04_nought.l0 k y0 y1) (parterreref04_nought.l0 (k + 1) y0 y1))
 | 0 => fun _ _ r h => by simp [parterreref04_nought.l0] at h
 | k + 1 => by
  have ih0 := parterreref04_nought.mono_l k
  ·intro y0 y1
   unfold parterreref04_nought.l0
   repeat' first
   | (with_reducible exact ih0 _ _)
   | (with_reducible exact LeO.refl _)
   | (with_reducible exact LeO.none _)
   | (with_reducible refine LeO.ite ?_ ?_)
   | (with_reducible refine LeO.bind ?_ (fun _ => ?_))
theorem parterreref04_nought.mono : ∀ a0 k, LeO (parterreref04_nought.f k a0) (parterreref04_nought.f (k + 1) a0) := by
 intro a0 k
 have ih0 := parterreref04_nought.mono_l k
 unfold parterreref04_nought.f
 repeat' first
   | (with_reducible exact ih0 _ _)
   | (with_reducible exact LeO.refl _)
   | (with_reducible exact LeO.none _)
   | (with_reducible refine LeO.ite ?_ ?_)
   | (with_reducible refine LeO.bind ?_ (fun _ => ?_))
set_option maxHeartbeats 8000000 in
set_option maxRecDepth 100000 in
theorem parterreref04_nought.calls (k : Nat) (a0 : ByteArray) (r : Bool) (w : World) (h : parterreref04_nought.f k a0 = some r) :
  Calls Tryz.prog 61 #[.string a0] w fun e w' => e = .returned (.bool r) ∧ Drawn0 w w' := by
 have H : (parterreref04_nought.l0 k a0 0) = some r := h
 clear h
 have H' := Aside0.mk H
 clear H
 go_enter Tryz.func61, Tryz.ntmps61
 go_wp2
 go_loopg [3] k (fun kq v3 w' => ∃ (x3_1 : Int), v3 = .int .i64 x3_1 ∧ Aside0 (parterreref04_nought.l0 kq a0 x3_1 = some r) ∧ Aside0 (kq ≤ k) ∧ Drawn0 w w')
 case atStart => exact ⟨(0), rfs_, H', ⟨Nat.le_refl _⟩, drs_⟩
 case round =>
  clear H'
  obtain ⟨x3_1, rfl, HA, HK1, ⟨m1, rfl⟩⟩ := hrel
  cases gk with
  | zero => exact absurd HA.out (by simp [parterreref04_nought.l0])
  | succ k1 =>
   have H := HA.out
   clear HA
   simp only [parterreref04_nought.l0] at H
   by_cases c2 : x3_1 < (a0.size : Int)
   ·rw [if_pos c2] at H
    have c2b0 : decide (x3_1 < (a0.size : Int)) = true := decide_eq_true c2
    clear c2
    by_cases c3 : 0 ≤ x3_1
    ·rw [if_pos c3] at H
     have c3b0 : decide (0 ≤ x3_1) = true := decide_eq_true c3
     clear c3
     by_cases c5 : (bt a0 x3_1) = 0
     ·rw [if_pos c5] at H
      have c5b0 : ((bt a0 x3_1) == 0) = true := beq_iff_eq.mpr c5
      have c5b1 : ((bt a0 x3_1) != 0) = false := bne_eq_false_iff_eq.mpr c5
      clear c5
      obtain rfl := Option.some.inj H
      have p4 : 0 ≤ (x3_1 : Int) := of_decide_eq_true (by first | (with_reducible assumption) | assumption)
      have q4 : x3_1 < (a0.size : Int) := of_decide_eq_true (by first | (with_reducible assumption) | assumption)
      have hx4 := bt_at a0 x3_1
      replace p4 := eq_true p4
      replace q4 := eq_true q4
      go_wp2
      go_ret
      exact ⟨by first | rfl | (simp; done) | (simp [*]; done), drs_⟩
     ·rw [if_neg c5] at H
      have c5b0 : ((bt a0 x3_1) == 0) = false := beq_eq_false_iff_ne.mpr c5
      have c5b1 : ((bt a0 x3_1) != 0) = true := bne_iff_ne.mpr c5
      have H' := Aside0.mk H
      clear H
      have p4 : 0 ≤ (x3_1 : Int) := of_decide_eq_true (by first | (with_reducible assumption) | assumption)
      have q4 : x3_1 < (a0.size : Int) := of_decide_eq_true (by first | (with_reducible assumption) | assumption)
      have hx4 := bt_at a0 x3_1
      replace p4 := eq_true p4
      replace q4 := eq_true q4
      go_wp2
      go_roundg k1
      case measure => have := HK1.out; omega
      case rel => exact ⟨(wrap64 (x3_1 + 1)), rfs_, H', ⟨by have := HK1.out; omega⟩, drs_⟩
    ·rw [if_neg c3] at H
     exact absurd H (by simp)
   ·rw [if_neg c2] at H
    have c2b0 : decide (x3_1 < (a0.size : Int)) = false := decide_eq_false c2
    clear c2
    obtain rfl := Option.some.inj H
    go_wp2
    go_ret
    exact ⟨by first | rfl | (simp; done) | (simp [*]; done), drs_⟩

/-! ### parterreref04_Name: function 72 -/
def parterreref04_Name.f (k : Nat) (a0 : ByteArray) : Option (Bool) := if a0.toList = ([] : List UInt8) then (some false) else (if (a0.size : Int) ≤ 64 then ((parterreref04_nought.f k a0).bind fun t297 => (some (!t297))) else (some false))
theorem parterreref04_Name.mono : ∀ a0 k, LeO (parterreref04_Name.f k a0) (parterreref04_Name.f (k + 1) a0) := by
 intro a0 k
 unfold parterreref04_Name.f
 repeat' first
   | (with_reducible exact parterreref04_nought.mono _ _)
   | (with_reducible exact LeO.refl _)
   | (with_reducible exact LeO.none _)
   | (with_reducible refine LeO.ite ?_ ?_)
   | (with_reducible refine LeO.bind ?_ (fun _ => ?_))
set_option maxHeartbeats 8000000 in
set_option maxRecDepth 100000 in
theorem parterreref04_Name.calls (k : Nat) (a0 : ByteArray) (r : Bool) (w : World) (h : parterreref04_Name.f k a0 = some r) :
  Calls Tryz.prog 72 #[.string a0] w fun e w' => e = .returned (.bool r) ∧ Drawn0 w w' := by
 have H : (if a0.toList = ([] : List UInt8) then (some false) else (if (a0.size : Int) ≤ 64 then ((parterreref04_nought.f k a0).bind fun t297 => (some (!t297))) else (some false))) = some r := h
 clear h
 by_cases c2 : a0.toList = ([] : List UInt8)
 ·rw [if_pos c2] at H
  have c2b0 : (a0.toList == ([] : List UInt8)) = true := beq_iff_eq.mpr c2
  have c2b1 : (a0.toList != ([] : List UInt8)) = false := bne_eq_false_iff_eq.mpr c2
  clear c2
  obtain rfl := Option.some.inj H
  go_enter Tryz.func72, Tryz.ntmps72
  go_wp2
  go_ret
  exact ⟨by first | rfl | (simp; done) | (simp [*]; done), drs_⟩
 ·rw [if_neg c2] at H
  have c2b0 : (a0.toList == ([] : List UInt8)) = false := beq_eq_false_iff_ne.mpr c2
  have c2b1 : (a0.toList != ([] : List UInt8)) = true := bne_iff_ne.mpr c2
  by_cases c3 : (a0.size : Int) ≤ 64
  ·rw [if_pos c3] at H
   have c3b0 : decide ((a0.size : Int) ≤ 64) = true := decide_eq_true c3
   have c3b1 : decide (a0.size ≤ 64) = true := decide_eq_true (by omega)
   clear c3
   replace H := Option.bind_eq_some_iff.mp H
   obtain ⟨t297, A40, H⟩ := H
   try dsimp only at H
   have A4 := Aside0.mk A40
   clear A40
   obtain rfl := Option.some.inj H
   go_enter Tryz.func72, Tryz.ntmps72
   go_wp2_with (first | (go_at_call 61; (with_reducible refine (parterreref04_nought.calls k a0 t297 _ A4.out).mono ?_); rintro e w' ⟨rfl, ⟨nd, rfl⟩⟩))
   go_ret
   exact ⟨by first | rfl | (simp; done) | (simp [*]; done), drs_⟩
  ·rw [if_neg c3] at H
   have c3b0 : decide ((a0.size : Int) ≤ 64) = false := decide_eq_false c3
   have c3b1 : decide (a0.size ≤ 64) = false := decide_eq_false (by omega)
   clear c3
   obtain rfl := Option.some.inj H
   go_enter Tryz.func72, Tryz.ntmps72
   go_wp2
   go_ret
   exact ⟨by first | rfl | (simp; done) | (simp [*]; done), drs_⟩

end Go.Proofs.YtofdhdafabmhmaaGreatDoor.PLt
end
section
namespace Go.Proofs.YtofdhdafabmhmaaGreatDoor.PLt
open Go.RowKit Go.Proofs.YtofdhdafabmhmaaGreatDoorW.PrintWords Go.Proofs.YtofdhdafabmhmaaGreatDoorW.PrintLast Go.Proofs.YtofdhdafabmhmaaGreatDoorW.PrintMore
attribute [local go_sem] max2_int min2_int max_two min_two max_three min_three max_four min_four
open Go.Proofs.YtofdhdafabmhmaaGreatDoor.Opn Go.Proofs.YtofdhdafabmhmaaGreatDoor.Giv

/-! ### parterreref04_Custom: function 39 -/
def parterreref04_Custom.l0 : Nat → ByteArray → List ByteArray → Int → Option (Bool)
 | 0, _, _, _ => none
 | k + 1, x0, x3, x4 => if x4 < (x3.length : Int) then (if 0 ≤ x4 then ((parterreref04_Is.f k x0 (rdOf ByteArray.empty x3 x4)).bind fun t302 => (if t302 = true then (some false) else (parterreref04_Custom.l0 k x0 x3 (wrap64 (x4 + 1))))) else (none)) else ((parterreref04_Name.f k x0).bind fun t303 => (some t303))
def parterreref04_Custom.f (k : Nat) (a0 : ByteArray) : Option (Bool) := parterreref04_Custom.l0 k a0 (([(⟨#[115, 112, 97, 110]⟩ : ByteArray), (⟨#[97, 117, 116, 111]⟩ : ByteArray), (⟨#[105, 110, 105, 116, 105, 97, 108]⟩ : ByteArray), (⟨#[105, 110, 104, 101, 114, 105, 116]⟩ : ByteArray), (⟨#[117, 110, 115, 101, 116]⟩ : ByteArray), (⟨#[100, 101, 102, 97, 117, 108, 116]⟩ : ByteArray), (⟨#[114, 101, 118, 101, 114, 116]⟩ : ByteArray)] : List ByteArray)) 0
theorem parterreref04_Custom.mono_l : ∀ k, (∀ y0 y1 y2, LeO (parterreref04_Custom.l0 k y0 y1 y2) (parterreref04_Custom.l0 (k + 1) y0 y1 y2))
 | 0 => fun _ _ _ r h => by simp [parterreref04_Custom.l0] at h
 | k + 1 => by
  have ih0 := parterreref04_Custom.mono_l k
  ·intro y0 y1 y2
   unfold parterreref04_Custom.l0
   repeat' first
   | (with_reducible exact ih0 _ _ _)
   | (with_reducible exact parterreref04_Is.mono _ _ _)
   | (with_reducible exact parterreref04_Name.mono _ _)
   | (with_reducible exact LeO.refl _)
   | (with_reducible exact LeO.none _)
   | (with_reducible refine LeO.ite ?_ ?_)
   | (with_reducible refine LeO.bind ?_ (fun _ => ?_))
theorem parterreref04_Custom.mono : ∀ a0 k, LeO (parterreref04_Custom.f k a0) (parterreref04_Custom.f (k + 1) a0) := by
 intro a0 k
 have ih0 := parterreref04_Custom.mono_l k
 unfold parterreref04_Custom.f
 repeat' first
   | (with_reducible exact ih0 _ _ _)
   | (with_reducible exact parterreref04_Is.mono _ _ _)
   | (with_reducible exact parterreref04_Name.mono _ _)
   | (with_reducible exact LeO.refl _)
   | (with_reducible exact LeO.none _)
   | (with_reducible refine LeO.ite ?_ ?_)
   | (with_reducible refine LeO.bind ?_ (fun _ => ?_))
set_option maxHeartbeats 8000000 in
set_option maxRecDepth 100000 in
theorem parterreref04_Custom.calls (k : Nat) (a0 : ByteArray) (r : Bool) (w : World) (h : parterreref04_Custom.f k a0 = some r) :
  Calls Tryz.prog 39 #[.string a0] w fun e w' => e = .returned (.bool r) ∧ Below w.heap.size w w' := by
 have HB := Aside0.mk (Below.refl w.heap.size w)
 have H : (parterreref04_Custom.l0 k a0 (([(⟨#[115, 112, 97, 110]⟩ : ByteArray), (⟨#[97, 117, 116, 111]⟩ : ByteArray), (⟨#[105, 110, 105, 116, 105, 97, 108]⟩ : ByteArray), (⟨#[105, 110, 104, 101, 114, 105, 116]⟩ : ByteArray), (⟨#[117, 110, 115, 101, 116]⟩ : ByteArray), (⟨#[100, 101, 102, 97, 117, 108, 116]⟩ : ByteArray), (⟨#[114, 101, 118, 101, 114, 116]⟩ : ByteArray)] : List ByteArray)) 0) = some r := h
 clear h
 obtain ⟨y298, hy298⟩ : ∃ y_ : List ByteArray, y_ = (([(⟨#[115, 112, 97, 110]⟩ : ByteArray), (⟨#[97, 117, 116, 111]⟩ : ByteArray), (⟨#[105, 110, 105, 116, 105, 97, 108]⟩ : ByteArray), (⟨#[105, 110, 104, 101, 114, 105, 116]⟩ : ByteArray), (⟨#[117, 110, 115, 101, 116]⟩ : ByteArray), (⟨#[100, 101, 102, 97, 117, 108, 116]⟩ : ByteArray), (⟨#[114, 101, 118, 101, 114, 116]⟩ : ByteArray)] : List ByteArray)) := ⟨_, rfl⟩
 replace H : (parterreref04_Custom.l0 k a0 y298 0) = some r := by first | (rw [hy298]; with_reducible exact H) | (have H2_ := (Option.bind_some _ _).symm.trans H; rw [hy298]; with_reducible exact H2_) | (have H2_ := (Option.bind_some _ _).symm.trans H; with_reducible exact H2_) | with_reducible exact H | (rw [hy298]; exact H) | exact H
 have Ny298 := Aside0.mk hy298
 clear hy298
 have H' := Aside0.mk H
 clear H
 go_enter Tryz.func39, Tryz.ntmps39
 go_wp2_with (first | ((with_reducible refine gate_dst (N := 5) rfl ?_); refine Kd.R_lit Kd.string _ 9 ?hg (N := 5) ?hd (xs := ([(⟨#[115, 112, 97, 110]⟩ : ByteArray), (⟨#[97, 117, 116, 111]⟩ : ByteArray), (⟨#[105, 110, 105, 116, 105, 97, 108]⟩ : ByteArray), (⟨#[105, 110, 104, 101, 114, 105, 116]⟩ : ByteArray), (⟨#[117, 110, 115, 101, 116]⟩ : ByteArray), (⟨#[100, 101, 102, 97, 117, 108, 116]⟩ : ByteArray), (⟨#[114, 101, 118, 101, 114, 116]⟩ : ByteArray)] : List ByteArray)) (inner := [.string (⟨#[115, 112, 97, 110]⟩ : ByteArray), .string (⟨#[97, 117, 116, 111]⟩ : ByteArray), .string (⟨#[105, 110, 105, 116, 105, 97, 108]⟩ : ByteArray), .string (⟨#[105, 110, 104, 101, 114, 105, 116]⟩ : ByteArray), .string (⟨#[117, 110, 115, 101, 116]⟩ : ByteArray), .string (⟨#[100, 101, 102, 97, 117, 108, 116]⟩ : ByteArray), .string (⟨#[114, 101, 118, 101, 114, 116]⟩ : ByteArray)]) (ok := fun _ => True) (okp := fun _ => True) ?hr ?hp (fun _ hk => hk) trivial (Below.refl _ _) (Nat.le_refl _) (by simp) ?_; (case hd => rfl); (case hg => rfl); (case hr => first | (go_simp; done) | (go_simp; rfl)); (case hp => exact (Reps.one (show Kd.M Kd.string _ _ _ (⟨#[115, 112, 97, 110]⟩ : ByteArray) [.string (⟨#[115, 112, 97, 110]⟩ : ByteArray)] from rfl) (Reps.one (show Kd.M Kd.string _ _ _ (⟨#[97, 117, 116, 111]⟩ : ByteArray) [.string (⟨#[97, 117, 116, 111]⟩ : ByteArray)] from rfl) (Reps.one (show Kd.M Kd.string _ _ _ (⟨#[105, 110, 105, 116, 105, 97, 108]⟩ : ByteArray) [.string (⟨#[105, 110, 105, 116, 105, 97, 108]⟩ : ByteArray)] from rfl) (Reps.one (show Kd.M Kd.string _ _ _ (⟨#[105, 110, 104, 101, 114, 105, 116]⟩ : ByteArray) [.string (⟨#[105, 110, 104, 101, 114, 105, 116]⟩ : ByteArray)] from rfl) (Reps.one (show Kd.M Kd.string _ _ _ (⟨#[117, 110, 115, 101, 116]⟩ : ByteArray) [.string (⟨#[117, 110, 115, 101, 116]⟩ : ByteArray)] from rfl) (Reps.one (show Kd.M Kd.string _ _ _ (⟨#[100, 101, 102, 97, 117, 108, 116]⟩ : ByteArray) [.string (⟨#[100, 101, 102, 97, 117, 108, 116]⟩ : ByteArray)] from rfl) (Reps.one (show Kd.M Kd.string _ _ _ (⟨#[114, 101, 118, 101, 114, 116]⟩ : ByteArray) [.string (⟨#[114, 101, 118, 101, 114, 116]⟩ : ByteArray)] from rfl) (Reps.none _ _))))))))); intro v299 w2 ho3 hb hg_ hnew_; clear hg_ hnew_; (first | rw [← Ny298.out] at ho3 | (simp only [Int.reduceToNat] at ho3; rw [← Ny298.out] at ho3)); have n0_ := Aside0.mk (Kd.R_lower ho3 (below_size bel_)); have n1_ := Aside0.mk (below_step bel_ hb); clear HB; have HO300 := n0_; have HB := n1_; clear n0_ n1_; clear hb ho3))
 go_loopg [4] k (fun kq v4 w' => ∃ (x4_1 : Int), v4 = .int .i64 x4_1 ∧ Aside0 (parterreref04_Custom.l0 kq a0 y298 x4_1 = some r) ∧ Aside0 (kq ≤ k) ∧ Aside0 (Kd.R Kd.string 9 w' w.heap.size (fun _ => True) v299 y298) ∧ Aside0 (Below w.heap.size w w'))
 case atStart => exact ⟨(0), rfs_, H', ⟨Nat.le_refl _⟩, ⟨by (with_reducible repeat (first | apply Kd.R_alloc | apply Kd.R_drewN | apply Kd.R_drew)); exact HO300.out⟩, ⟨bel_⟩⟩
 case round =>
  clear H'
  try clear p2
  try clear c3
  obtain ⟨x4_1, rfl, HA, HK1, HO_3, HB⟩ := hrel
  cases gk with
  | zero => exact absurd HA.out (by simp [parterreref04_Custom.l0])
  | succ k1 =>
   have H := HA.out
   clear HA
   simp only [parterreref04_Custom.l0] at H
   by_cases c4 : x4_1 < (y298.length : Int)
   ·rw [if_pos c4] at H
    have c4b0 : decide (x4_1 < (y298.length : Int)) = true := decide_eq_true c4
    clear c4
    by_cases c5 : 0 ≤ x4_1
    ·rw [if_pos c5] at H
     have c5b0 : decide (0 ≤ x4_1) = true := decide_eq_true c5
     clear c5
     replace H := Option.bind_eq_some_iff.mp H
     obtain ⟨t302, A60, H⟩ := H
     try dsimp only at H
     have A6 := Aside0.mk A60
     clear A60
     by_cases c7 : t302 = true
     ·subst c7
      rw [if_pos rfl] at H
      obtain rfl := Option.some.inj H
      obtain ⟨Ao8, co8, eo8⟩ := Kd.R_slice HO_3.out
      subst eo8
      have p301 : 0 ≤ (x4_1 : Int) := of_decide_eq_true (by first | (with_reducible assumption) | assumption)
      have q301 : x4_1 < (y298.length : Int) := of_decide_eq_true (by first | (with_reducible assumption) | assumption)
      obtain ⟨ad301, e301, hx301_0⟩ := Kd.at_string (Kd.R_reads' HO_3.out).2.2 x4_1 p301 q301
      cases e301
      replace p301 := eq_true p301
      replace q301 := eq_true q301
      go_wp2_with (first | ((with_reducible refine gate_callee (f := 71) rfl ?_); refine goesL_ (some 17) rfl rfl Tryz.func71 (by kernel_rfl) rfl #[.string a0, .string (rdOf ByteArray.empty y298 x4_1)] rfl goa_ ?_; (with_reducible refine (parterreref04_Is.calls k1 a0 (rdOf ByteArray.empty y298 x4_1) true _ A6.out).mono ?_); rintro e w9 ⟨rfl, hb⟩; refine ⟨_, rfl, ?_⟩; have n0_ := Aside0.mk (Kd.R_below (by (with_reducible repeat (first | apply Kd.R_alloc | apply Kd.R_drewN | apply Kd.R_drew)); exact HO_3.out) hb); have n1_ := Aside0.mk (below_step bel_ hb); clear HO_3; clear HB; have HO_3 := n0_; have HB := n1_; clear n0_ n1_; clear hb))
      go_ret
      exact ⟨rsl_, bel_⟩
     ·replace c7 := Bool.eq_false_iff.mpr c7
      subst c7
      rw [if_neg (show ¬ (false = true) by decide)] at H
      have H' := Aside0.mk H
      clear H
      obtain ⟨Ao10, co10, eo10⟩ := Kd.R_slice HO_3.out
      subst eo10
      have p301 : 0 ≤ (x4_1 : Int) := of_decide_eq_true (by first | (with_reducible assumption) | assumption)
      have q301 : x4_1 < (y298.length : Int) := of_decide_eq_true (by first | (with_reducible assumption) | assumption)
      obtain ⟨ad301, e301, hx301_0⟩ := Kd.at_string (Kd.R_reads' HO_3.out).2.2 x4_1 p301 q301
      cases e301
      replace p301 := eq_true p301
      replace q301 := eq_true q301
      go_wp2_with (first | ((with_reducible refine gate_callee (f := 71) rfl ?_); refine goesL_ (some 17) rfl rfl Tryz.func71 (by kernel_rfl) rfl #[.string a0, .string (rdOf ByteArray.empty y298 x4_1)] rfl goa_ ?_; (with_reducible refine (parterreref04_Is.calls k1 a0 (rdOf ByteArray.empty y298 x4_1) false _ A6.out).mono ?_); rintro e w11 ⟨rfl, hb⟩; refine ⟨_, rfl, ?_⟩; have n0_ := Aside0.mk (Kd.R_below (by (with_reducible repeat (first | apply Kd.R_alloc | apply Kd.R_drewN | apply Kd.R_drew)); exact HO_3.out) hb); have n1_ := Aside0.mk (below_step bel_ hb); clear HO_3; clear HB; have HO_3 := n0_; have HB := n1_; clear n0_ n1_; clear hb))
      go_roundg k1
      case measure => have := HK1.out; omega
      case rel => exact ⟨(wrap64 (x4_1 + 1)), rfs_, H', ⟨by have := HK1.out; omega⟩, ⟨by (with_reducible repeat (first | apply Kd.R_alloc | apply Kd.R_drewN | apply Kd.R_drew)); exact HO_3.out⟩, ⟨bel_⟩⟩
    ·rw [if_neg c5] at H
     exact absurd H (by simp)
   ·rw [if_neg c4] at H
    have c4b0 : decide (x4_1 < (y298.length : Int)) = false := decide_eq_false c4
    clear c4
    replace H := Option.bind_eq_some_iff.mp H
    obtain ⟨t303, A120, H⟩ := H
    try dsimp only at H
    have A12 := Aside0.mk A120
    clear A120
    obtain rfl := Option.some.inj H
    obtain ⟨Ao13, co13, eo13⟩ := Kd.R_slice HO_3.out
    subst eo13
    go_wp2_with (first | ((with_reducible refine gate_callee (f := 72) rfl ?_); refine goesL_ (some 19) rfl rfl Tryz.func72 (by kernel_rfl) rfl #[.string a0] rfl goa_ ?_; (with_reducible refine (parterreref04_Name.calls k1 a0 t303 _ A12.out).mono ?_); rintro e w' ⟨rfl, ⟨nd, rfl⟩⟩; refine ⟨_, rfl, ?_⟩))
    go_ret
    exact ⟨rsl_, bel_⟩

/-! ### parterreref07_Good: function 17 -/
def parterreref07_Good.f (k : Nat) (a0_0 : Int) (a0_1 : Int) (a0_2 : ByteArray) : Option (Bool) := (parterreref04_Custom.f k a0_2).bind fun t305 => (if a0_0 = 1 then (if a0_1 = 0 then (some (a0_2.toList == ([] : List UInt8))) else (some false)) else (if a0_0 = 2 then (if a0_1 = 0 then (some false) else (if a0_1 ≥ (-10000) then (if a0_1 ≤ 10000 then (if a0_2.toList = ([] : List UInt8) then (some true) else (some t305)) else (some false)) else (some false))) else (if a0_0 = 3 then (if a0_1 = 0 then (some t305) else (some false)) else (if a0_0 = 4 then (if a0_1 ≥ 1 then (if a0_1 ≤ 10000 then (if a0_2.toList = ([] : List UInt8) then (some true) else (some t305)) else (some false)) else (some false)) else (some false)))))
theorem parterreref07_Good.mono : ∀ a0 a1 a2 k, LeO (parterreref07_Good.f k a0 a1 a2) (parterreref07_Good.f (k + 1) a0 a1 a2) := by
 intro a0 a1 a2 k
 unfold parterreref07_Good.f
 repeat' first
   | (with_reducible exact parterreref04_Custom.mono _ _)
   | (with_reducible exact LeO.refl _)
   | (with_reducible exact LeO.none _)
   | (with_reducible refine LeO.ite ?_ ?_)
   | (with_reducible refine LeO.bind ?_ (fun _ => ?_))
set_option maxHeartbeats 8000000 in
set_option maxRecDepth 100000 in
theorem parterreref07_Good.calls (k : Nat) (a0_0 : Int) (a0_1 : Int) (a0_2 : ByteArray) (r : Bool) (w : World) (h : parterreref07_Good.f k a0_0 a0_1 a0_2 = some r) :
  Calls Tryz.prog 17 #[.agg #[.int .i64 a0_0, .int .i64 a0_1, .string a0_2]] w fun e w' => e = .returned (.bool r) ∧ Below w.heap.size w w' := by
 have hu32 := Tryz.underlying32
 have HB := Aside0.mk (Below.refl w.heap.size w)
 have H : ((parterreref04_Custom.f k a0_2).bind fun t305 => (if a0_0 = 1 then (if a0_1 = 0 then (some (a0_2.toList == ([] : List UInt8))) else (some false)) else (if a0_0 = 2 then (if a0_1 = 0 then (some false) else (if a0_1 ≥ (-10000) then (if a0_1 ≤ 10000 then (if a0_2.toList = ([] : List UInt8) then (some true) else (some t305)) else (some false)) else (some false))) else (if a0_0 = 3 then (if a0_1 = 0 then (some t305) else (some false)) else (if a0_0 = 4 then (if a0_1 ≥ 1 then (if a0_1 ≤ 10000 then (if a0_2.toList = ([] : List UInt8) then (some true) else (some t305)) else (some false)) else (some false)) else (some false)))))) = some r := h
 clear h
 replace H := Option.bind_eq_some_iff.mp H
 obtain ⟨t305, A20, H⟩ := H
 try dsimp only at H
 have A2 := Aside0.mk A20
 clear A20
 by_cases c3 : a0_0 = 1
 ·rw [if_pos c3] at H
  have c3b0 : (a0_0 == 1) = true := beq_iff_eq.mpr c3
  have c3b1 : (a0_0 != 1) = false := bne_eq_false_iff_eq.mpr c3
  clear c3
  by_cases c4 : a0_1 = 0
  ·rw [if_pos c4] at H
   have c4b0 : (a0_1 == 0) = true := beq_iff_eq.mpr c4
   have c4b1 : (a0_1 != 0) = false := bne_eq_false_iff_eq.mpr c4
   clear c4
   obtain rfl := Option.some.inj H
   go_enter Tryz.func17, Tryz.ntmps17
   go_wp2_with (first | ((with_reducible refine gate_dst (N := 1) rfl ?_); refine box_event ?hg (N := 1) ?hd (cs := #[.int .i64 a0_0, .int .i64 a0_1, .string a0_2]) (t := 32) ?hr ?_; (case hd => rfl); (case hg => rfl); (case hr => first | (go_simp; done) | (go_simp; rfl)); intro gb304 hg w5 hbox hb; have n0_ := Aside0.mk (below_step bel_ hb); have n1_ := Aside0.mk (hbox); have n2_ := Aside0.mk ((bsz_ hg : w.heap.size ≤ gb304)); have n3_ := Aside0.mk ((bsz_ hg : w.heap.size ≤ gb304)); clear HB; have HB := n0_; have BK304 := n1_; have GW304 := n2_; have GE304 := n3_; clear n0_ n1_ n2_ n3_; clear hb hbox hg; have hcz6_0 : w5.cell? ⟨gb304, 0, none⟩ = some (.int .i64 a0_0) := (blk_cell BK304.out 0).trans rfl; have hcz6_1 : w5.cell? ⟨gb304, 1, none⟩ = some (.int .i64 a0_1) := (blk_cell BK304.out 1).trans rfl; have hcz6_2 : w5.cell? ⟨gb304, 2, none⟩ = some (.string a0_2) := (blk_cell BK304.out 2).trans rfl; have hfz6_0 := blk_frozen BK304.out 0; have hfz6_1 := blk_frozen BK304.out 1; have hfz6_2 := blk_frozen BK304.out 2) | ((with_reducible refine gate_callee (f := 39) rfl ?_); refine goesL_ (some 6) rfl rfl Tryz.func39 (by kernel_rfl) rfl #[.string a0_2] rfl goa_ ?_; (with_reducible refine (parterreref04_Custom.calls k a0_2 t305 _ A2.out).mono ?_); rintro e w7 ⟨rfl, hb⟩; refine ⟨_, rfl, ?_⟩; have n0_ := blb_ BK304 hb; have n1_ := Aside0.mk (below_step bel_ hb); clear BK304; clear HB; have BK304 := n0_; have HB := n1_; clear n0_ n1_; clear hb; have hcz8_0 : w7.cell? ⟨gb304, 0, none⟩ = some (.int .i64 a0_0) := (blk_cell BK304.out 0).trans rfl; have hcz8_1 : w7.cell? ⟨gb304, 1, none⟩ = some (.int .i64 a0_1) := (blk_cell BK304.out 1).trans rfl; have hcz8_2 : w7.cell? ⟨gb304, 2, none⟩ = some (.string a0_2) := (blk_cell BK304.out 2).trans rfl; have hfz8_0 := blk_frozen BK304.out 0; have hfz8_1 := blk_frozen BK304.out 1; have hfz8_2 := blk_frozen BK304.out 2))
   go_ret
   exact ⟨rsl_, bel_⟩
  ·rw [if_neg c4] at H
   have c4b0 : (a0_1 == 0) = false := beq_eq_false_iff_ne.mpr c4
   have c4b1 : (a0_1 != 0) = true := bne_iff_ne.mpr c4
   obtain rfl := Option.some.inj H
   go_enter Tryz.func17, Tryz.ntmps17
   go_wp2_with (first | ((with_reducible refine gate_dst (N := 1) rfl ?_); refine box_event ?hg (N := 1) ?hd (cs := #[.int .i64 a0_0, .int .i64 a0_1, .string a0_2]) (t := 32) ?hr ?_; (case hd => rfl); (case hg => rfl); (case hr => first | (go_simp; done) | (go_simp; rfl)); intro gb304 hg w9 hbox hb; have n0_ := Aside0.mk (below_step bel_ hb); have n1_ := Aside0.mk (hbox); have n2_ := Aside0.mk ((bsz_ hg : w.heap.size ≤ gb304)); have n3_ := Aside0.mk ((bsz_ hg : w.heap.size ≤ gb304)); clear HB; have HB := n0_; have BK304 := n1_; have GW304 := n2_; have GE304 := n3_; clear n0_ n1_ n2_ n3_; clear hb hbox hg; have hcz10_0 : w9.cell? ⟨gb304, 0, none⟩ = some (.int .i64 a0_0) := (blk_cell BK304.out 0).trans rfl; have hcz10_1 : w9.cell? ⟨gb304, 1, none⟩ = some (.int .i64 a0_1) := (blk_cell BK304.out 1).trans rfl; have hcz10_2 : w9.cell? ⟨gb304, 2, none⟩ = some (.string a0_2) := (blk_cell BK304.out 2).trans rfl; have hfz10_0 := blk_frozen BK304.out 0; have hfz10_1 := blk_frozen BK304.out 1; have hfz10_2 := blk_frozen BK304.out 2) | ((with_reducible refine gate_callee (f := 39) rfl ?_); refine goesL_ (some 6) rfl rfl Tryz.func39 (by kernel_rfl) rfl #[.string a0_2] rfl goa_ ?_; (with_reducible refine (parterreref04_Custom.calls k a0_2 t305 _ A2.out).mono ?_); rintro e w11 ⟨rfl, hb⟩; refine ⟨_, rfl, ?_⟩; have n0_ := blb_ BK304 hb; have n1_ := Aside0.mk (below_step bel_ hb); clear BK304; clear HB; have BK304 := n0_; have HB := n1_; clear n0_ n1_; clear hb; have hcz12_0 : w11.cell? ⟨gb304, 0, none⟩ = some (.int .i64 a0_0) := (blk_cell BK304.out 0).trans rfl; have hcz12_1 : w11.cell? ⟨gb304, 1, none⟩ = some (.int .i64 a0_1) := (blk_cell BK304.out 1).trans rfl; have hcz12_2 : w11.cell? ⟨gb304, 2, none⟩ = some (.string a0_2) := (blk_cell BK304.out 2).trans rfl; have hfz12_0 := blk_frozen BK304.out 0; have hfz12_1 := blk_frozen BK304.out 1; have hfz12_2 := blk_frozen BK304.out 2))
   go_ret
   exact ⟨rsl_, bel_⟩
 ·rw [if_neg c3] at H
  have c3b0 : (a0_0 == 1) = false := beq_eq_false_iff_ne.mpr c3
  have c3b1 : (a0_0 != 1) = true := bne_iff_ne.mpr c3
  by_cases c13 : a0_0 = 2
  ·rw [if_pos c13] at H
   have c13b0 : (a0_0 == 2) = true := beq_iff_eq.mpr c13
   have c13b1 : (a0_0 != 2) = false := bne_eq_false_iff_eq.mpr c13
   clear c13
   by_cases c14 : a0_1 = 0
   ·rw [if_pos c14] at H
    have c14b0 : (a0_1 == 0) = true := beq_iff_eq.mpr c14
    have c14b1 : (a0_1 != 0) = false := bne_eq_false_iff_eq.mpr c14
    clear c14
    obtain rfl := Option.some.inj H
    go_enter Tryz.func17, Tryz.ntmps17
    go_wp2_with (first | ((with_reducible refine gate_dst (N := 1) rfl ?_); refine box_event ?hg (N := 1) ?hd (cs := #[.int .i64 a0_0, .int .i64 a0_1, .string a0_2]) (t := 32) ?hr ?_; (case hd => rfl); (case hg => rfl); (case hr => first | (go_simp; done) | (go_simp; rfl)); intro gb304 hg w15 hbox hb; have n0_ := Aside0.mk (below_step bel_ hb); have n1_ := Aside0.mk (hbox); have n2_ := Aside0.mk ((bsz_ hg : w.heap.size ≤ gb304)); have n3_ := Aside0.mk ((bsz_ hg : w.heap.size ≤ gb304)); clear HB; have HB := n0_; have BK304 := n1_; have GW304 := n2_; have GE304 := n3_; clear n0_ n1_ n2_ n3_; clear hb hbox hg; have hcz16_0 : w15.cell? ⟨gb304, 0, none⟩ = some (.int .i64 a0_0) := (blk_cell BK304.out 0).trans rfl; have hcz16_1 : w15.cell? ⟨gb304, 1, none⟩ = some (.int .i64 a0_1) := (blk_cell BK304.out 1).trans rfl; have hcz16_2 : w15.cell? ⟨gb304, 2, none⟩ = some (.string a0_2) := (blk_cell BK304.out 2).trans rfl; have hfz16_0 := blk_frozen BK304.out 0; have hfz16_1 := blk_frozen BK304.out 1; have hfz16_2 := blk_frozen BK304.out 2) | ((with_reducible refine gate_callee (f := 39) rfl ?_); refine goesL_ (some 6) rfl rfl Tryz.func39 (by kernel_rfl) rfl #[.string a0_2] rfl goa_ ?_; (with_reducible refine (parterreref04_Custom.calls k a0_2 t305 _ A2.out).mono ?_); rintro e w17 ⟨rfl, hb⟩; refine ⟨_, rfl, ?_⟩; have n0_ := blb_ BK304 hb; have n1_ := Aside0.mk (below_step bel_ hb); clear BK304; clear HB; have BK304 := n0_; have HB := n1_; clear n0_ n1_; clear hb; have hcz18_0 : w17.cell? ⟨gb304, 0, none⟩ = some (.int .i64 a0_0) := (blk_cell BK304.out 0).trans rfl; have hcz18_1 : w17.cell? ⟨gb304, 1, none⟩ = some (.int .i64 a0_1) := (blk_cell BK304.out 1).trans rfl; have hcz18_2 : w17.cell? ⟨gb304, 2, none⟩ = some (.string a0_2) := (blk_cell BK304.out 2).trans rfl; have hfz18_0 := blk_frozen BK304.out 0; have hfz18_1 := blk_frozen BK304.out 1; have hfz18_2 := blk_frozen BK304.out 2))
    go_ret
    exact ⟨rsl_, bel_⟩
   ·rw [if_neg c14] at H
    have c14b0 : (a0_1 == 0) = false := beq_eq_false_iff_ne.mpr c14
    have c14b1 : (a0_1 != 0) = true := bne_iff_ne.mpr c14
    by_cases c19 : a0_1 ≥ (-10000)
    ·rw [if_pos c19] at H
     have c19b0 : decide ((-10000) ≤ a0_1) = true := decide_eq_true c19
     clear c19
     by_cases c20 : a0_1 ≤ 10000
     ·rw [if_pos c20] at H
      have c20b0 : decide (a0_1 ≤ 10000) = true := decide_eq_true c20
      clear c20
      by_cases c21 : a0_2.toList = ([] : List UInt8)
      ·rw [if_pos c21] at H
       have c21b0 : (a0_2.toList == ([] : List UInt8)) = true := beq_iff_eq.mpr c21
       have c21b1 : (a0_2.toList != ([] : List UInt8)) = false := bne_eq_false_iff_eq.mpr c21
       clear c21
       obtain rfl := Option.some.inj H
       go_enter Tryz.func17, Tryz.ntmps17
       go_wp2_with (first | ((with_reducible refine gate_dst (N := 1) rfl ?_); refine box_event ?hg (N := 1) ?hd (cs := #[.int .i64 a0_0, .int .i64 a0_1, .string a0_2]) (t := 32) ?hr ?_; (case hd => rfl); (case hg => rfl); (case hr => first | (go_simp; done) | (go_simp; rfl)); intro gb304 hg w22 hbox hb; have n0_ := Aside0.mk (below_step bel_ hb); have n1_ := Aside0.mk (hbox); have n2_ := Aside0.mk ((bsz_ hg : w.heap.size ≤ gb304)); have n3_ := Aside0.mk ((bsz_ hg : w.heap.size ≤ gb304)); clear HB; have HB := n0_; have BK304 := n1_; have GW304 := n2_; have GE304 := n3_; clear n0_ n1_ n2_ n3_; clear hb hbox hg; have hcz23_0 : w22.cell? ⟨gb304, 0, none⟩ = some (.int .i64 a0_0) := (blk_cell BK304.out 0).trans rfl; have hcz23_1 : w22.cell? ⟨gb304, 1, none⟩ = some (.int .i64 a0_1) := (blk_cell BK304.out 1).trans rfl; have hcz23_2 : w22.cell? ⟨gb304, 2, none⟩ = some (.string a0_2) := (blk_cell BK304.out 2).trans rfl; have hfz23_0 := blk_frozen BK304.out 0; have hfz23_1 := blk_frozen BK304.out 1; have hfz23_2 := blk_frozen BK304.out 2) | ((with_reducible refine gate_callee (f := 39) rfl ?_); refine goesL_ (some 6) rfl rfl Tryz.func39 (by kernel_rfl) rfl #[.string a0_2] rfl goa_ ?_; (with_reducible refine (parterreref04_Custom.calls k a0_2 t305 _ A2.out).mono ?_); rintro e w24 ⟨rfl, hb⟩; refine ⟨_, rfl, ?_⟩; have n0_ := blb_ BK304 hb; have n1_ := Aside0.mk (below_step bel_ hb); clear BK304; clear HB; have BK304 := n0_; have HB := n1_; clear n0_ n1_; clear hb; have hcz25_0 : w24.cell? ⟨gb304, 0, none⟩ = some (.int .i64 a0_0) := (blk_cell BK304.out 0).trans rfl; have hcz25_1 : w24.cell? ⟨gb304, 1, none⟩ = some (.int .i64 a0_1) := (blk_cell BK304.out 1).trans rfl; have hcz25_2 : w24.cell? ⟨gb304, 2, none⟩ = some (.string a0_2) := (blk_cell BK304.out 2).trans rfl; have hfz25_0 := blk_frozen BK304.out 0; have hfz25_1 := blk_frozen BK304.out 1; have hfz25_2 := blk_frozen BK304.out 2))
       go_ret
       exact ⟨rsl_, bel_⟩
      ·rw [if_neg c21] at H
       have c21b0 : (a0_2.toList == ([] : List UInt8)) = false := beq_eq_false_iff_ne.mpr c21
       have c21b1 : (a0_2.toList != ([] : List UInt8)) = true := bne_iff_ne.mpr c21
       obtain rfl := Option.some.inj H
       go_enter Tryz.func17, Tryz.ntmps17
       go_wp2_with (first | ((with_reducible refine gate_dst (N := 1) rfl ?_); refine box_event ?hg (N := 1) ?hd (cs := #[.int .i64 a0_0, .int .i64 a0_1, .string a0_2]) (t := 32) ?hr ?_; (case hd => rfl); (case hg => rfl); (case hr => first | (go_simp; done) | (go_simp; rfl)); intro gb304 hg w26 hbox hb; have n0_ := Aside0.mk (below_step bel_ hb); have n1_ := Aside0.mk (hbox); have n2_ := Aside0.mk ((bsz_ hg : w.heap.size ≤ gb304)); have n3_ := Aside0.mk ((bsz_ hg : w.heap.size ≤ gb304)); clear HB; have HB := n0_; have BK304 := n1_; have GW304 := n2_; have GE304 := n3_; clear n0_ n1_ n2_ n3_; clear hb hbox hg; have hcz27_0 : w26.cell? ⟨gb304, 0, none⟩ = some (.int .i64 a0_0) := (blk_cell BK304.out 0).trans rfl; have hcz27_1 : w26.cell? ⟨gb304, 1, none⟩ = some (.int .i64 a0_1) := (blk_cell BK304.out 1).trans rfl; have hcz27_2 : w26.cell? ⟨gb304, 2, none⟩ = some (.string a0_2) := (blk_cell BK304.out 2).trans rfl; have hfz27_0 := blk_frozen BK304.out 0; have hfz27_1 := blk_frozen BK304.out 1; have hfz27_2 := blk_frozen BK304.out 2) | ((with_reducible refine gate_callee (f := 39) rfl ?_); refine goesL_ (some 6) rfl rfl Tryz.func39 (by kernel_rfl) rfl #[.string a0_2] rfl goa_ ?_; (with_reducible refine (parterreref04_Custom.calls k a0_2 t305 _ A2.out).mono ?_); rintro e w28 ⟨rfl, hb⟩; refine ⟨_, rfl, ?_⟩; have n0_ := blb_ BK304 hb; have n1_ := Aside0.mk (below_step bel_ hb); clear BK304; clear HB; have BK304 := n0_; have HB := n1_; clear n0_ n1_; clear hb; have hcz29_0 : w28.cell? ⟨gb304, 0, none⟩ = some (.int .i64 a0_0) := (blk_cell BK304.out 0).trans rfl; have hcz29_1 : w28.cell? ⟨gb304, 1, none⟩ = some (.int .i64 a0_1) := (blk_cell BK304.out 1).trans rfl; have hcz29_2 : w28.cell? ⟨gb304, 2, none⟩ = some (.string a0_2) := (blk_cell BK304.out 2).trans rfl; have hfz29_0 := blk_frozen BK304.out 0; have hfz29_1 := blk_frozen BK304.out 1; have hfz29_2 := blk_frozen BK304.out 2))
       go_ret
       exact ⟨rsl_, bel_⟩
     ·rw [if_neg c20] at H
      have c20b0 : decide (a0_1 ≤ 10000) = false := decide_eq_false c20
      clear c20
      obtain rfl := Option.some.inj H
      go_enter Tryz.func17, Tryz.ntmps17
      go_wp2_with (first | ((with_reducible refine gate_dst (N := 1) rfl ?_); refine box_event ?hg (N := 1) ?hd (cs := #[.int .i64 a0_0, .int .i64 a0_1, .string a0_2]) (t := 32) ?hr ?_; (case hd => rfl); (case hg => rfl); (case hr => first | (go_simp; done) | (go_simp; rfl)); intro gb304 hg w30 hbox hb; have n0_ := Aside0.mk (below_step bel_ hb); have n1_ := Aside0.mk (hbox); have n2_ := Aside0.mk ((bsz_ hg : w.heap.size ≤ gb304)); have n3_ := Aside0.mk ((bsz_ hg : w.heap.size ≤ gb304)); clear HB; have HB := n0_; have BK304 := n1_; have GW304 := n2_; have GE304 := n3_; clear n0_ n1_ n2_ n3_; clear hb hbox hg; have hcz31_0 : w30.cell? ⟨gb304, 0, none⟩ = some (.int .i64 a0_0) := (blk_cell BK304.out 0).trans rfl; have hcz31_1 : w30.cell? ⟨gb304, 1, none⟩ = some (.int .i64 a0_1) := (blk_cell BK304.out 1).trans rfl; have hcz31_2 : w30.cell? ⟨gb304, 2, none⟩ = some (.string a0_2) := (blk_cell BK304.out 2).trans rfl; have hfz31_0 := blk_frozen BK304.out 0; have hfz31_1 := blk_frozen BK304.out 1; have hfz31_2 := blk_frozen BK304.out 2) | ((with_reducible refine gate_callee (f := 39) rfl ?_); refine goesL_ (some 6) rfl rfl Tryz.func39 (by kernel_rfl) rfl #[.string a0_2] rfl goa_ ?_; (with_reducible refine (parterreref04_Custom.calls k a0_2 t305 _ A2.out).mono ?_); rintro e w32 ⟨rfl, hb⟩; refine ⟨_, rfl, ?_⟩; have n0_ := blb_ BK304 hb; have n1_ := Aside0.mk (below_step bel_ hb); clear BK304; clear HB; have BK304 := n0_; have HB := n1_; clear n0_ n1_; clear hb; have hcz33_0 : w32.cell? ⟨gb304, 0, none⟩ = some (.int .i64 a0_0) := (blk_cell BK304.out 0).trans rfl; have hcz33_1 : w32.cell? ⟨gb304, 1, none⟩ = some (.int .i64 a0_1) := (blk_cell BK304.out 1).trans rfl; have hcz33_2 : w32.cell? ⟨gb304, 2, none⟩ = some (.string a0_2) := (blk_cell BK304.out 2).trans rfl; have hfz33_0 := blk_frozen BK304.out 0; have hfz33_1 := blk_frozen BK304.out 1; have hfz33_2 := blk_frozen BK304.out 2))
      go_ret
      exact ⟨rsl_, bel_⟩
    ·rw [if_neg c19] at H
     have c19b0 : decide ((-10000) ≤ a0_1) = false := decide_eq_false c19
     clear c19
     obtain rfl := Option.some.inj H
     go_enter Tryz.func17, Tryz.ntmps17
     go_wp2_with (first | ((with_reducible refine gate_dst (N := 1) rfl ?_); refine box_event ?hg (N := 1) ?hd (cs := #[.int .i64 a0_0, .int .i64 a0_1, .string a0_2]) (t := 32) ?hr ?_; (case hd => rfl); (case hg => rfl); (case hr => first | (go_simp; done) | (go_simp; rfl)); intro gb304 hg w34 hbox hb; have n0_ := Aside0.mk (below_step bel_ hb); have n1_ := Aside0.mk (hbox); have n2_ := Aside0.mk ((bsz_ hg : w.heap.size ≤ gb304)); have n3_ := Aside0.mk ((bsz_ hg : w.heap.size ≤ gb304)); clear HB; have HB := n0_; have BK304 := n1_; have GW304 := n2_; have GE304 := n3_; clear n0_ n1_ n2_ n3_; clear hb hbox hg; have hcz35_0 : w34.cell? ⟨gb304, 0, none⟩ = some (.int .i64 a0_0) := (blk_cell BK304.out 0).trans rfl; have hcz35_1 : w34.cell? ⟨gb304, 1, none⟩ = some (.int .i64 a0_1) := (blk_cell BK304.out 1).trans rfl; have hcz35_2 : w34.cell? ⟨gb304, 2, none⟩ = some (.string a0_2) := (blk_cell BK304.out 2).trans rfl; have hfz35_0 := blk_frozen BK304.out 0; have hfz35_1 := blk_frozen BK304.out 1; have hfz35_2 := blk_frozen BK304.out 2) | ((with_reducible refine gate_callee (f := 39) rfl ?_); refine goesL_ (some 6) rfl rfl Tryz.func39 (by kernel_rfl) rfl #[.string a0_2] rfl goa_ ?_; (with_reducible refine (parterreref04_Custom.calls k a0_2 t305 _ A2.out).mono ?_); rintro e w36 ⟨rfl, hb⟩; refine ⟨_, rfl, ?_⟩; have n0_ := blb_ BK304 hb; have n1_ := Aside0.mk (below_step bel_ hb); clear BK304; clear HB; have BK304 := n0_; have HB := n1_; clear n0_ n1_; clear hb; have hcz37_0 : w36.cell? ⟨gb304, 0, none⟩ = some (.int .i64 a0_0) := (blk_cell BK304.out 0).trans rfl; have hcz37_1 : w36.cell? ⟨gb304, 1, none⟩ = some (.int .i64 a0_1) := (blk_cell BK304.out 1).trans rfl; have hcz37_2 : w36.cell? ⟨gb304, 2, none⟩ = some (.string a0_2) := (blk_cell BK304.out 2).trans rfl; have hfz37_0 := blk_frozen BK304.out 0; have hfz37_1 := blk_frozen BK304.out 1; have hfz37_2 := blk_frozen BK304.out 2))
     go_ret
     exact ⟨rsl_, bel_⟩
  ·rw [if_neg c13] at H
   have c13b0 : (a0_0 == 2) = false := beq_eq_false_iff_ne.mpr c13
   have c13b1 : (a0_0 != 2) = true := bne_iff_ne.mpr c13
   by_cases c38 : a0_0 = 3
   ·rw [if_pos c38] at H
    have c38b0 : (a0_0 == 3) = true := beq_iff_eq.mpr c38
    have c38b1 : (a0_0 != 3) = false := bne_eq_false_iff_eq.mpr c38
    clear c38
    by_cases c39 : a0_1 = 0
    ·rw [if_pos c39] at H
     have c39b0 : (a0_1 == 0) = true := beq_iff_eq.mpr c39
     have c39b1 : (a0_1 != 0) = false := bne_eq_false_iff_eq.mpr c39
     clear c39
     obtain rfl := Option.some.inj H
     go_enter Tryz.func17, Tryz.ntmps17
     go_wp2_with (first | ((with_reducible refine gate_dst (N := 1) rfl ?_); refine box_event ?hg (N := 1) ?hd (cs := #[.int .i64 a0_0, .int .i64 a0_1, .string a0_2]) (t := 32) ?hr ?_; (case hd => rfl); (case hg => rfl); (case hr => first | (go_simp; done) | (go_simp; rfl)); intro gb304 hg w40 hbox hb; have n0_ := Aside0.mk (below_step bel_ hb); have n1_ := Aside0.mk (hbox); have n2_ := Aside0.mk ((bsz_ hg : w.heap.size ≤ gb304)); have n3_ := Aside0.mk ((bsz_ hg : w.heap.size ≤ gb304)); clear HB; have HB := n0_; have BK304 := n1_; have GW304 := n2_; have GE304 := n3_; clear n0_ n1_ n2_ n3_; clear hb hbox hg; have hcz41_0 : w40.cell? ⟨gb304, 0, none⟩ = some (.int .i64 a0_0) := (blk_cell BK304.out 0).trans rfl; have hcz41_1 : w40.cell? ⟨gb304, 1, none⟩ = some (.int .i64 a0_1) := (blk_cell BK304.out 1).trans rfl; have hcz41_2 : w40.cell? ⟨gb304, 2, none⟩ = some (.string a0_2) := (blk_cell BK304.out 2).trans rfl; have hfz41_0 := blk_frozen BK304.out 0; have hfz41_1 := blk_frozen BK304.out 1; have hfz41_2 := blk_frozen BK304.out 2) | ((with_reducible refine gate_callee (f := 39) rfl ?_); refine goesL_ (some 6) rfl rfl Tryz.func39 (by kernel_rfl) rfl #[.string a0_2] rfl goa_ ?_; (with_reducible refine (parterreref04_Custom.calls k a0_2 t305 _ A2.out).mono ?_); rintro e w42 ⟨rfl, hb⟩; refine ⟨_, rfl, ?_⟩; have n0_ := blb_ BK304 hb; have n1_ := Aside0.mk (below_step bel_ hb); clear BK304; clear HB; have BK304 := n0_; have HB := n1_; clear n0_ n1_; clear hb; have hcz43_0 : w42.cell? ⟨gb304, 0, none⟩ = some (.int .i64 a0_0) := (blk_cell BK304.out 0).trans rfl; have hcz43_1 : w42.cell? ⟨gb304, 1, none⟩ = some (.int .i64 a0_1) := (blk_cell BK304.out 1).trans rfl; have hcz43_2 : w42.cell? ⟨gb304, 2, none⟩ = some (.string a0_2) := (blk_cell BK304.out 2).trans rfl; have hfz43_0 := blk_frozen BK304.out 0; have hfz43_1 := blk_frozen BK304.out 1; have hfz43_2 := blk_frozen BK304.out 2))
     go_ret
     exact ⟨rsl_, bel_⟩
    ·rw [if_neg c39] at H
     have c39b0 : (a0_1 == 0) = false := beq_eq_false_iff_ne.mpr c39
     have c39b1 : (a0_1 != 0) = true := bne_iff_ne.mpr c39
     obtain rfl := Option.some.inj H
     go_enter Tryz.func17, Tryz.ntmps17
     go_wp2_with (first | ((with_reducible refine gate_dst (N := 1) rfl ?_); refine box_event ?hg (N := 1) ?hd (cs := #[.int .i64 a0_0, .int .i64 a0_1, .string a0_2]) (t := 32) ?hr ?_; (case hd => rfl); (case hg => rfl); (case hr => first | (go_simp; done) | (go_simp; rfl)); intro gb304 hg w44 hbox hb; have n0_ := Aside0.mk (below_step bel_ hb); have n1_ := Aside0.mk (hbox); have n2_ := Aside0.mk ((bsz_ hg : w.heap.size ≤ gb304)); have n3_ := Aside0.mk ((bsz_ hg : w.heap.size ≤ gb304)); clear HB; have HB := n0_; have BK304 := n1_; have GW304 := n2_; have GE304 := n3_; clear n0_ n1_ n2_ n3_; clear hb hbox hg; have hcz45_0 : w44.cell? ⟨gb304, 0, none⟩ = some (.int .i64 a0_0) := (blk_cell BK304.out 0).trans rfl; have hcz45_1 : w44.cell? ⟨gb304, 1, none⟩ = some (.int .i64 a0_1) := (blk_cell BK304.out 1).trans rfl; have hcz45_2 : w44.cell? ⟨gb304, 2, none⟩ = some (.string a0_2) := (blk_cell BK304.out 2).trans rfl; have hfz45_0 := blk_frozen BK304.out 0; have hfz45_1 := blk_frozen BK304.out 1; have hfz45_2 := blk_frozen BK304.out 2) | ((with_reducible refine gate_callee (f := 39) rfl ?_); refine goesL_ (some 6) rfl rfl Tryz.func39 (by kernel_rfl) rfl #[.string a0_2] rfl goa_ ?_; (with_reducible refine (parterreref04_Custom.calls k a0_2 t305 _ A2.out).mono ?_); rintro e w46 ⟨rfl, hb⟩; refine ⟨_, rfl, ?_⟩; have n0_ := blb_ BK304 hb; have n1_ := Aside0.mk (below_step bel_ hb); clear BK304; clear HB; have BK304 := n0_; have HB := n1_; clear n0_ n1_; clear hb; have hcz47_0 : w46.cell? ⟨gb304, 0, none⟩ = some (.int .i64 a0_0) := (blk_cell BK304.out 0).trans rfl; have hcz47_1 : w46.cell? ⟨gb304, 1, none⟩ = some (.int .i64 a0_1) := (blk_cell BK304.out 1).trans rfl; have hcz47_2 : w46.cell? ⟨gb304, 2, none⟩ = some (.string a0_2) := (blk_cell BK304.out 2).trans rfl; have hfz47_0 := blk_frozen BK304.out 0; have hfz47_1 := blk_frozen BK304.out 1; have hfz47_2 := blk_frozen BK304.out 2))
     go_ret
     exact ⟨rsl_, bel_⟩
   ·rw [if_neg c38] at H
    have c38b0 : (a0_0 == 3) = false := beq_eq_false_iff_ne.mpr c38
    have c38b1 : (a0_0 != 3) = true := bne_iff_ne.mpr c38
    by_cases c48 : a0_0 = 4
    ·rw [if_pos c48] at H
     have c48b0 : (a0_0 == 4) = true := beq_iff_eq.mpr c48
     have c48b1 : (a0_0 != 4) = false := bne_eq_false_iff_eq.mpr c48
     clear c48
     by_cases c49 : a0_1 ≥ 1
     ·rw [if_pos c49] at H
      have c49b0 : decide (1 ≤ a0_1) = true := decide_eq_true c49
      clear c49
      by_cases c50 : a0_1 ≤ 10000
      ·rw [if_pos c50] at H
       have c50b0 : decide (a0_1 ≤ 10000) = true := decide_eq_true c50
       clear c50
       by_cases c51 : a0_2.toList = ([] : List UInt8)
       ·rw [if_pos c51] at H
        have c51b0 : (a0_2.toList == ([] : List UInt8)) = true := beq_iff_eq.mpr c51
        have c51b1 : (a0_2.toList != ([] : List UInt8)) = false := bne_eq_false_iff_eq.mpr c51
        clear c51
        obtain rfl := Option.some.inj H
        go_enter Tryz.func17, Tryz.ntmps17
        go_wp2_with (first | ((with_reducible refine gate_dst (N := 1) rfl ?_); refine box_event ?hg (N := 1) ?hd (cs := #[.int .i64 a0_0, .int .i64 a0_1, .string a0_2]) (t := 32) ?hr ?_; (case hd => rfl); (case hg => rfl); (case hr => first | (go_simp; done) | (go_simp; rfl)); intro gb304 hg w52 hbox hb; have n0_ := Aside0.mk (below_step bel_ hb); have n1_ := Aside0.mk (hbox); have n2_ := Aside0.mk ((bsz_ hg : w.heap.size ≤ gb304)); have n3_ := Aside0.mk ((bsz_ hg : w.heap.size ≤ gb304)); clear HB; have HB := n0_; have BK304 := n1_; have GW304 := n2_; have GE304 := n3_; clear n0_ n1_ n2_ n3_; clear hb hbox hg; have hcz53_0 : w52.cell? ⟨gb304, 0, none⟩ = some (.int .i64 a0_0) := (blk_cell BK304.out 0).trans rfl; have hcz53_1 : w52.cell? ⟨gb304, 1, none⟩ = some (.int .i64 a0_1) := (blk_cell BK304.out 1).trans rfl; have hcz53_2 : w52.cell? ⟨gb304, 2, none⟩ = some (.string a0_2) := (blk_cell BK304.out 2).trans rfl; have hfz53_0 := blk_frozen BK304.out 0; have hfz53_1 := blk_frozen BK304.out 1; have hfz53_2 := blk_frozen BK304.out 2) | ((with_reducible refine gate_callee (f := 39) rfl ?_); refine goesL_ (some 6) rfl rfl Tryz.func39 (by kernel_rfl) rfl #[.string a0_2] rfl goa_ ?_; (with_reducible refine (parterreref04_Custom.calls k a0_2 t305 _ A2.out).mono ?_); rintro e w54 ⟨rfl, hb⟩; refine ⟨_, rfl, ?_⟩; have n0_ := blb_ BK304 hb; have n1_ := Aside0.mk (below_step bel_ hb); clear BK304; clear HB; have BK304 := n0_; have HB := n1_; clear n0_ n1_; clear hb; have hcz55_0 : w54.cell? ⟨gb304, 0, none⟩ = some (.int .i64 a0_0) := (blk_cell BK304.out 0).trans rfl; have hcz55_1 : w54.cell? ⟨gb304, 1, none⟩ = some (.int .i64 a0_1) := (blk_cell BK304.out 1).trans rfl; have hcz55_2 : w54.cell? ⟨gb304, 2, none⟩ = some (.string a0_2) := (blk_cell BK304.out 2).trans rfl; have hfz55_0 := blk_frozen BK304.out 0; have hfz55_1 := blk_frozen BK304.out 1; have hfz55_2 := blk_frozen BK304.out 2))
        go_ret
        exact ⟨rsl_, bel_⟩
       ·rw [if_neg c51] at H
        have c51b0 : (a0_2.toList == ([] : List UInt8)) = false := beq_eq_false_iff_ne.mpr c51
        have c51b1 : (a0_2.toList != ([] : List UInt8)) = true := bne_iff_ne.mpr c51
        obtain rfl := Option.some.inj H
        go_enter Tryz.func17, Tryz.ntmps17
        go_wp2_with (first | ((with_reducible refine gate_dst (N := 1) rfl ?_); refine box_event ?hg (N := 1) ?hd (cs := #[.int .i64 a0_0, .int .i64 a0_1, .string a0_2]) (t := 32) ?hr ?_; (case hd => rfl); (case hg => rfl); (case hr => first | (go_simp; done) | (go_simp; rfl)); intro gb304 hg w56 hbox hb; have n0_ := Aside0.mk (below_step bel_ hb); have n1_ := Aside0.mk (hbox); have n2_ := Aside0.mk ((bsz_ hg : w.heap.size ≤ gb304)); have n3_ := Aside0.mk ((bsz_ hg : w.heap.size ≤ gb304)); clear HB; have HB := n0_; have BK304 := n1_; have GW304 := n2_; have GE304 := n3_; clear n0_ n1_ n2_ n3_; clear hb hbox hg; have hcz57_0 : w56.cell? ⟨gb304, 0, none⟩ = some (.int .i64 a0_0) := (blk_cell BK304.out 0).trans rfl; have hcz57_1 : w56.cell? ⟨gb304, 1, none⟩ = some (.int .i64 a0_1) := (blk_cell BK304.out 1).trans rfl; have hcz57_2 : w56.cell? ⟨gb304, 2, none⟩ = some (.string a0_2) := (blk_cell BK304.out 2).trans rfl; have hfz57_0 := blk_frozen BK304.out 0; have hfz57_1 := blk_frozen BK304.out 1; have hfz57_2 := blk_frozen BK304.out 2) | ((with_reducible refine gate_callee (f := 39) rfl ?_); refine goesL_ (some 6) rfl rfl Tryz.func39 (by kernel_rfl) rfl #[.string a0_2] rfl goa_ ?_; (with_reducible refine (parterreref04_Custom.calls k a0_2 t305 _ A2.out).mono ?_); rintro e w58 ⟨rfl, hb⟩; refine ⟨_, rfl, ?_⟩; have n0_ := blb_ BK304 hb; have n1_ := Aside0.mk (below_step bel_ hb); clear BK304; clear HB; have BK304 := n0_; have HB := n1_; clear n0_ n1_; clear hb; have hcz59_0 : w58.cell? ⟨gb304, 0, none⟩ = some (.int .i64 a0_0) := (blk_cell BK304.out 0).trans rfl; have hcz59_1 : w58.cell? ⟨gb304, 1, none⟩ = some (.int .i64 a0_1) := (blk_cell BK304.out 1).trans rfl; have hcz59_2 : w58.cell? ⟨gb304, 2, none⟩ = some (.string a0_2) := (blk_cell BK304.out 2).trans rfl; have hfz59_0 := blk_frozen BK304.out 0; have hfz59_1 := blk_frozen BK304.out 1; have hfz59_2 := blk_frozen BK304.out 2))
        go_ret
        exact ⟨rsl_, bel_⟩
      ·rw [if_neg c50] at H
       have c50b0 : decide (a0_1 ≤ 10000) = false := decide_eq_false c50
       clear c50
       obtain rfl := Option.some.inj H
       go_enter Tryz.func17, Tryz.ntmps17
       go_wp2_with (first | ((with_reducible refine gate_dst (N := 1) rfl ?_); refine box_event ?hg (N := 1) ?hd (cs := #[.int .i64 a0_0, .int .i64 a0_1, .string a0_2]) (t := 32) ?hr ?_; (case hd => rfl); (case hg => rfl); (case hr => first | (go_simp; done) | (go_simp; rfl)); intro gb304 hg w60 hbox hb; have n0_ := Aside0.mk (below_step bel_ hb); have n1_ := Aside0.mk (hbox); have n2_ := Aside0.mk ((bsz_ hg : w.heap.size ≤ gb304)); have n3_ := Aside0.mk ((bsz_ hg : w.heap.size ≤ gb304)); clear HB; have HB := n0_; have BK304 := n1_; have GW304 := n2_; have GE304 := n3_; clear n0_ n1_ n2_ n3_; clear hb hbox hg; have hcz61_0 : w60.cell? ⟨gb304, 0, none⟩ = some (.int .i64 a0_0) := (blk_cell BK304.out 0).trans rfl; have hcz61_1 : w60.cell? ⟨gb304, 1, none⟩ = some (.int .i64 a0_1) := (blk_cell BK304.out 1).trans rfl; have hcz61_2 : w60.cell? ⟨gb304, 2, none⟩ = some (.string a0_2) := (blk_cell BK304.out 2).trans rfl; have hfz61_0 := blk_frozen BK304.out 0; have hfz61_1 := blk_frozen BK304.out 1; have hfz61_2 := blk_frozen BK304.out 2) | ((with_reducible refine gate_callee (f := 39) rfl ?_); refine goesL_ (some 6) rfl rfl Tryz.func39 (by kernel_rfl) rfl #[.string a0_2] rfl goa_ ?_; (with_reducible refine (parterreref04_Custom.calls k a0_2 t305 _ A2.out).mono ?_); rintro e w62 ⟨rfl, hb⟩; refine ⟨_, rfl, ?_⟩; have n0_ := blb_ BK304 hb; have n1_ := Aside0.mk (below_step bel_ hb); clear BK304; clear HB; have BK304 := n0_; have HB := n1_; clear n0_ n1_; clear hb; have hcz63_0 : w62.cell? ⟨gb304, 0, none⟩ = some (.int .i64 a0_0) := (blk_cell BK304.out 0).trans rfl; have hcz63_1 : w62.cell? ⟨gb304, 1, none⟩ = some (.int .i64 a0_1) := (blk_cell BK304.out 1).trans rfl; have hcz63_2 : w62.cell? ⟨gb304, 2, none⟩ = some (.string a0_2) := (blk_cell BK304.out 2).trans rfl; have hfz63_0 := blk_frozen BK304.out 0; have hfz63_1 := blk_frozen BK304.out 1; have hfz63_2 := blk_frozen BK304.out 2))
       go_ret
       exact ⟨rsl_, bel_⟩
     ·rw [if_neg c49] at H
      have c49b0 : decide (1 ≤ a0_1) = false := decide_eq_false c49
      clear c49
      obtain rfl := Option.some.inj H
      go_enter Tryz.func17, Tryz.ntmps17
      go_wp2_with (first | ((with_reducible refine gate_dst (N := 1) rfl ?_); refine box_event ?hg (N := 1) ?hd (cs := #[.int .i64 a0_0, .int .i64 a0_1, .string a0_2]) (t := 32) ?hr ?_; (case hd => rfl); (case hg => rfl); (case hr => first | (go_simp; done) | (go_simp; rfl)); intro gb304 hg w64 hbox hb; have n0_ := Aside0.mk (below_step bel_ hb); have n1_ := Aside0.mk (hbox); have n2_ := Aside0.mk ((bsz_ hg : w.heap.size ≤ gb304)); have n3_ := Aside0.mk ((bsz_ hg : w.heap.size ≤ gb304)); clear HB; have HB := n0_; have BK304 := n1_; have GW304 := n2_; have GE304 := n3_; clear n0_ n1_ n2_ n3_; clear hb hbox hg; have hcz65_0 : w64.cell? ⟨gb304, 0, none⟩ = some (.int .i64 a0_0) := (blk_cell BK304.out 0).trans rfl; have hcz65_1 : w64.cell? ⟨gb304, 1, none⟩ = some (.int .i64 a0_1) := (blk_cell BK304.out 1).trans rfl; have hcz65_2 : w64.cell? ⟨gb304, 2, none⟩ = some (.string a0_2) := (blk_cell BK304.out 2).trans rfl; have hfz65_0 := blk_frozen BK304.out 0; have hfz65_1 := blk_frozen BK304.out 1; have hfz65_2 := blk_frozen BK304.out 2) | ((with_reducible refine gate_callee (f := 39) rfl ?_); refine goesL_ (some 6) rfl rfl Tryz.func39 (by kernel_rfl) rfl #[.string a0_2] rfl goa_ ?_; (with_reducible refine (parterreref04_Custom.calls k a0_2 t305 _ A2.out).mono ?_); rintro e w66 ⟨rfl, hb⟩; refine ⟨_, rfl, ?_⟩; have n0_ := blb_ BK304 hb; have n1_ := Aside0.mk (below_step bel_ hb); clear BK304; clear HB; have BK304 := n0_; have HB := n1_; clear n0_ n1_; clear hb; have hcz67_0 : w66.cell? ⟨gb304, 0, none⟩ = some (.int .i64 a0_0) := (blk_cell BK304.out 0).trans rfl; have hcz67_1 : w66.cell? ⟨gb304, 1, none⟩ = some (.int .i64 a0_1) := (blk_cell BK304.out 1).trans rfl; have hcz67_2 : w66.cell? ⟨gb304, 2, none⟩ = some (.string a0_2) := (blk_cell BK304.out 2).trans rfl; have hfz67_0 := blk_frozen BK304.out 0; have hfz67_1 := blk_frozen BK304.out 1; have hfz67_2 := blk_frozen BK304.out 2))
      go_ret
      exact ⟨rsl_, bel_⟩
    ·rw [if_neg c48] at H
     have c48b0 : (a0_0 == 4) = false := beq_eq_false_iff_ne.mpr c48
     have c48b1 : (a0_0 != 4) = true := bne_iff_ne.mpr c48
     obtain rfl := Option.some.inj H
     go_enter Tryz.func17, Tryz.ntmps17
     go_wp2_with (first | ((with_reducible refine gate_dst (N := 1) rfl ?_); refine box_event ?hg (N := 1) ?hd (cs := #[.int .i64 a0_0, .int .i64 a0_1, .string a0_2]) (t := 32) ?hr ?_; (case hd => rfl); (case hg => rfl); (case hr => first | (go_simp; done) | (go_simp; rfl)); intro gb304 hg w68 hbox hb; have n0_ := Aside0.mk (below_step bel_ hb); have n1_ := Aside0.mk (hbox); have n2_ := Aside0.mk ((bsz_ hg : w.heap.size ≤ gb304)); have n3_ := Aside0.mk ((bsz_ hg : w.heap.size ≤ gb304)); clear HB; have HB := n0_; have BK304 := n1_; have GW304 := n2_; have GE304 := n3_; clear n0_ n1_ n2_ n3_; clear hb hbox hg; have hcz69_0 : w68.cell? ⟨gb304, 0, none⟩ = some (.int .i64 a0_0) := (blk_cell BK304.out 0).trans rfl; have hcz69_1 : w68.cell? ⟨gb304, 1, none⟩ = some (.int .i64 a0_1) := (blk_cell BK304.out 1).trans rfl; have hcz69_2 : w68.cell? ⟨gb304, 2, none⟩ = some (.string a0_2) := (blk_cell BK304.out 2).trans rfl; have hfz69_0 := blk_frozen BK304.out 0; have hfz69_1 := blk_frozen BK304.out 1; have hfz69_2 := blk_frozen BK304.out 2) | ((with_reducible refine gate_callee (f := 39) rfl ?_); refine goesL_ (some 6) rfl rfl Tryz.func39 (by kernel_rfl) rfl #[.string a0_2] rfl goa_ ?_; (with_reducible refine (parterreref04_Custom.calls k a0_2 t305 _ A2.out).mono ?_); rintro e w70 ⟨rfl, hb⟩; refine ⟨_, rfl, ?_⟩; have n0_ := blb_ BK304 hb; have n1_ := Aside0.mk (below_step bel_ hb); clear BK304; clear HB; have BK304 := n0_; have HB := n1_; clear n0_ n1_; clear hb; have hcz71_0 : w70.cell? ⟨gb304, 0, none⟩ = some (.int .i64 a0_0) := (blk_cell BK304.out 0).trans rfl; have hcz71_1 : w70.cell? ⟨gb304, 1, none⟩ = some (.int .i64 a0_1) := (blk_cell BK304.out 1).trans rfl; have hcz71_2 : w70.cell? ⟨gb304, 2, none⟩ = some (.string a0_2) := (blk_cell BK304.out 2).trans rfl; have hfz71_0 := blk_frozen BK304.out 0; have hfz71_1 := blk_frozen BK304.out 1; have hfz71_2 := blk_frozen BK304.out 2))
     go_ret
     exact ⟨rsl_, bel_⟩

/-! ### ident_control: function 56 -/
def ident_control.f (a0 : Int) : Option (Bool) := if a0 < 32 then (some true) else (some (a0 == 127))
set_option maxHeartbeats 8000000 in
set_option maxRecDepth 100000 in
theorem ident_control.calls (a0 : Int) (r : Bool) (w : World) (h : ident_control.f a0 = some r) :
  Calls Tryz.prog 56 #[.int .u8 a0] w fun e w' => e = .returned (.bool r) ∧ Drawn0 w w' := by
 have H : (if a0 < 32 then (some true) else (some (a0 == 127))) = some r := h
 clear h
 by_cases c2 : a0 < 32
 ·rw [if_pos c2] at H
  have c2b0 : decide (a0 < 32) = true := decide_eq_true c2
  clear c2
  obtain rfl := Option.some.inj H
  go_enter Tryz.func56, Tryz.ntmps56
  go_wp2
  go_ret
  exact ⟨by first | rfl | (simp; done) | (simp [*]; done), drs_⟩
 ·rw [if_neg c2] at H
  have c2b0 : decide (a0 < 32) = false := decide_eq_false c2
  clear c2
  obtain rfl := Option.some.inj H
  go_enter Tryz.func56, Tryz.ntmps56
  go_wp2
  go_ret
  exact ⟨by first | rfl | (simp; done) | (simp [*]; done), drs_⟩

end Go.Proofs.YtofdhdafabmhmaaGreatDoor.PLt
end
section
namespace Go.Proofs.YtofdhdafabmhmaaGreatDoor.PLt
open Go.RowKit Go.Proofs.YtofdhdafabmhmaaGreatDoorW.PrintWords Go.Proofs.YtofdhdafabmhmaaGreatDoorW.PrintLast Go.Proofs.YtofdhdafabmhmaaGreatDoorW.PrintMore
attribute [local go_sem] max2_int min2_int max_two min_two max_three min_three max_four min_four
open Go.Proofs.YtofdhdafabmhmaaGreatDoor.Opn Go.Proofs.YtofdhdafabmhmaaGreatDoor.Giv

/-! ### ident_escaped: function 57 -/
def ident_escaped.f (a0 : Int) : Option (ByteArray) := if (a0 / 16) > 0 then (if 0 ≤ (a0 / 16) then (if (a0 / 16) ≤ (((a0 / 16) + 1) % 256) then (if (((a0 / 16) + 1) % 256) ≤ 16 then (if 1 + ((⟨#[48, 49, 50, 51, 52, 53, 54, 55, 56, 57, 97, 98, 99, 100, 101, 102]⟩ : ByteArray).extract ((a0 / 16) : Int).toNat ((((a0 / 16) + 1) % 256) : Int).toNat).size ≤ 9223372036854775807 then (if 0 ≤ (Go.bits .and .u8 a0 15) then (if (Go.bits .and .u8 a0 15) ≤ (((Go.bits .and .u8 a0 15) + 1) % 256) then (if (((Go.bits .and .u8 a0 15) + 1) % 256) ≤ 16 then (if ((⟨#[92]⟩ : ByteArray) ++ ((⟨#[48, 49, 50, 51, 52, 53, 54, 55, 56, 57, 97, 98, 99, 100, 101, 102]⟩ : ByteArray).extract ((a0 / 16) : Int).toNat ((((a0 / 16) + 1) % 256) : Int).toNat)).size + ((⟨#[48, 49, 50, 51, 52, 53, 54, 55, 56, 57, 97, 98, 99, 100, 101, 102]⟩ : ByteArray).extract ((Go.bits .and .u8 a0 15) : Int).toNat ((((Go.bits .and .u8 a0 15) + 1) % 256) : Int).toNat).size ≤ 9223372036854775807 then (if (((⟨#[92]⟩ : ByteArray) ++ ((⟨#[48, 49, 50, 51, 52, 53, 54, 55, 56, 57, 97, 98, 99, 100, 101, 102]⟩ : ByteArray).extract ((a0 / 16) : Int).toNat ((((a0 / 16) + 1) % 256) : Int).toNat)) ++ ((⟨#[48, 49, 50, 51, 52, 53, 54, 55, 56, 57, 97, 98, 99, 100, 101, 102]⟩ : ByteArray).extract ((Go.bits .and .u8 a0 15) : Int).toNat ((((Go.bits .and .u8 a0 15) + 1) % 256) : Int).toNat)).size + 1 ≤ 9223372036854775807 then (some ((((⟨#[92]⟩ : ByteArray) ++ ((⟨#[48, 49, 50, 51, 52, 53, 54, 55, 56, 57, 97, 98, 99, 100, 101, 102]⟩ : ByteArray).extract ((a0 / 16) : Int).toNat ((((a0 / 16) + 1) % 256) : Int).toNat)) ++ ((⟨#[48, 49, 50, 51, 52, 53, 54, 55, 56, 57, 97, 98, 99, 100, 101, 102]⟩ : ByteArray).extract ((Go.bits .and .u8 a0 15) : Int).toNat ((((Go.bits .and .u8 a0 15) + 1) % 256) : Int).toNat)) ++ (⟨#[32]⟩ : ByteArray))) else (none)) else (none)) else (none)) else (none)) else (none)) else (none)) else (none)) else (none)) else (none)) else (if 0 ≤ (Go.bits .and .u8 a0 15) then (if (Go.bits .and .u8 a0 15) ≤ (((Go.bits .and .u8 a0 15) + 1) % 256) then (if (((Go.bits .and .u8 a0 15) + 1) % 256) ≤ 16 then (if 1 + ((⟨#[48, 49, 50, 51, 52, 53, 54, 55, 56, 57, 97, 98, 99, 100, 101, 102]⟩ : ByteArray).extract ((Go.bits .and .u8 a0 15) : Int).toNat ((((Go.bits .and .u8 a0 15) + 1) % 256) : Int).toNat).size ≤ 9223372036854775807 then (if ((⟨#[92]⟩ : ByteArray) ++ ((⟨#[48, 49, 50, 51, 52, 53, 54, 55, 56, 57, 97, 98, 99, 100, 101, 102]⟩ : ByteArray).extract ((Go.bits .and .u8 a0 15) : Int).toNat ((((Go.bits .and .u8 a0 15) + 1) % 256) : Int).toNat)).size + 1 ≤ 9223372036854775807 then (some (((⟨#[92]⟩ : ByteArray) ++ ((⟨#[48, 49, 50, 51, 52, 53, 54, 55, 56, 57, 97, 98, 99, 100, 101, 102]⟩ : ByteArray).extract ((Go.bits .and .u8 a0 15) : Int).toNat ((((Go.bits .and .u8 a0 15) + 1) % 256) : Int).toNat)) ++ (⟨#[32]⟩ : ByteArray))) else (none)) else (none)) else (none)) else (none)) else (none))
set_option maxHeartbeats 8000000 in
set_option maxRecDepth 100000 in
theorem ident_escaped.calls (a0 : Int) (r : ByteArray) (w : World) (h : ident_escaped.f a0 = some r) :
  Calls Tryz.prog 57 #[.int .u8 a0] w fun e w' => e = .returned (.string r) ∧ Drawn0 w w' := by
 have H : (if (a0 / 16) > 0 then (if 0 ≤ (a0 / 16) then (if (a0 / 16) ≤ (((a0 / 16) + 1) % 256) then (if (((a0 / 16) + 1) % 256) ≤ 16 then (if 1 + ((⟨#[48, 49, 50, 51, 52, 53, 54, 55, 56, 57, 97, 98, 99, 100, 101, 102]⟩ : ByteArray).extract ((a0 / 16) : Int).toNat ((((a0 / 16) + 1) % 256) : Int).toNat).size ≤ 9223372036854775807 then (if 0 ≤ (Go.bits .and .u8 a0 15) then (if (Go.bits .and .u8 a0 15) ≤ (((Go.bits .and .u8 a0 15) + 1) % 256) then (if (((Go.bits .and .u8 a0 15) + 1) % 256) ≤ 16 then (if ((⟨#[92]⟩ : ByteArray) ++ ((⟨#[48, 49, 50, 51, 52, 53, 54, 55, 56, 57, 97, 98, 99, 100, 101, 102]⟩ : ByteArray).extract ((a0 / 16) : Int).toNat ((((a0 / 16) + 1) % 256) : Int).toNat)).size + ((⟨#[48, 49, 50, 51, 52, 53, 54, 55, 56, 57, 97, 98, 99, 100, 101, 102]⟩ : ByteArray).extract ((Go.bits .and .u8 a0 15) : Int).toNat ((((Go.bits .and .u8 a0 15) + 1) % 256) : Int).toNat).size ≤ 9223372036854775807 then (if (((⟨#[92]⟩ : ByteArray) ++ ((⟨#[48, 49, 50, 51, 52, 53, 54, 55, 56, 57, 97, 98, 99, 100, 101, 102]⟩ : ByteArray).extract ((a0 / 16) : Int).toNat ((((a0 / 16) + 1) % 256) : Int).toNat)) ++ ((⟨#[48, 49, 50, 51, 52, 53, 54, 55, 56, 57, 97, 98, 99, 100, 101, 102]⟩ : ByteArray).extract ((Go.bits .and .u8 a0 15) : Int).toNat ((((Go.bits .and .u8 a0 15) + 1) % 256) : Int).toNat)).size + 1 ≤ 9223372036854775807 then (some ((((⟨#[92]⟩ : ByteArray) ++ ((⟨#[48, 49, 50, 51, 52, 53, 54, 55, 56, 57, 97, 98, 99, 100, 101, 102]⟩ : ByteArray).extract ((a0 / 16) : Int).toNat ((((a0 / 16) + 1) % 256) : Int).toNat)) ++ ((⟨#[48, 49, 50, 51, 52, 53, 54, 55, 56, 57, 97, 98, 99, 100, 101, 102]⟩ : ByteArray).extract ((Go.bits .and .u8 a0 15) : Int).toNat ((((Go.bits .and .u8 a0 15) + 1) % 256) : Int).toNat)) ++ (⟨#[32]⟩ : ByteArray))) else (none)) else (none)) else (none)) else (none)) else (none)) else (none)) else (none)) else (none)) else (none)) else (if 0 ≤ (Go.bits .and .u8 a0 15) then (if (Go.bits .and .u8 a0 15) ≤ (((Go.bits .and .u8 a0 15) + 1) % 256) then (if (((Go.bits .and .u8 a0 15) + 1) % 256) ≤ 16 then (if 1 + ((⟨#[48, 49, 50, 51, 52, 53, 54, 55, 56, 57, 97, 98, 99, 100, 101, 102]⟩ : ByteArray).extract ((Go.bits .and .u8 a0 15) : Int).toNat ((((Go.bits .and .u8 a0 15) + 1) % 256) : Int).toNat).size ≤ 9223372036854775807 then (if ((⟨#[92]⟩ : ByteArray) ++ ((⟨#[48, 49, 50, 51, 52, 53, 54, 55, 56, 57, 97, 98, 99, 100, 101, 102]⟩ : ByteArray).extract ((Go.bits .and .u8 a0 15) : Int).toNat ((((Go.bits .and .u8 a0 15) + 1) % 256) : Int).toNat)).size + 1 ≤ 9223372036854775807 then (some (((⟨#[92]⟩ : ByteArray) ++ ((⟨#[48, 49, 50, 51, 52, 53, 54, 55, 56, 57, 97, 98, 99, 100, 101, 102]⟩ : ByteArray).extract ((Go.bits .and .u8 a0 15) : Int).toNat ((((Go.bits .and .u8 a0 15) + 1) % 256) : Int).toNat)) ++ (⟨#[32]⟩ : ByteArray))) else (none)) else (none)) else (none)) else (none)) else (none))) = some r := h
 clear h
 by_cases c2 : (a0 / 16) > 0
 ·rw [if_pos c2] at H
  have c2b0 : decide (0 < (a0 / 16)) = true := decide_eq_true c2
  clear c2
  obtain ⟨ji3, hji3⟩ : ∃ j_ : Int, (a0 / 16) = j_ := ⟨_, rfl⟩
  replace H : (if 0 ≤ (ji3) then (if (ji3) ≤ (((ji3) + 1) % 256) then (if (((ji3) + 1) % 256) ≤ 16 then (if 1 + ((⟨#[48, 49, 50, 51, 52, 53, 54, 55, 56, 57, 97, 98, 99, 100, 101, 102]⟩ : ByteArray).extract ((ji3) : Int).toNat ((((ji3) + 1) % 256) : Int).toNat).size ≤ 9223372036854775807 then (if 0 ≤ (Go.bits .and .u8 a0 15) then (if (Go.bits .and .u8 a0 15) ≤ (((Go.bits .and .u8 a0 15) + 1) % 256) then (if (((Go.bits .and .u8 a0 15) + 1) % 256) ≤ 16 then (if ((⟨#[92]⟩ : ByteArray) ++ ((⟨#[48, 49, 50, 51, 52, 53, 54, 55, 56, 57, 97, 98, 99, 100, 101, 102]⟩ : ByteArray).extract ((ji3) : Int).toNat ((((ji3) + 1) % 256) : Int).toNat)).size + ((⟨#[48, 49, 50, 51, 52, 53, 54, 55, 56, 57, 97, 98, 99, 100, 101, 102]⟩ : ByteArray).extract ((Go.bits .and .u8 a0 15) : Int).toNat ((((Go.bits .and .u8 a0 15) + 1) % 256) : Int).toNat).size ≤ 9223372036854775807 then (if (((⟨#[92]⟩ : ByteArray) ++ ((⟨#[48, 49, 50, 51, 52, 53, 54, 55, 56, 57, 97, 98, 99, 100, 101, 102]⟩ : ByteArray).extract ((ji3) : Int).toNat ((((ji3) + 1) % 256) : Int).toNat)) ++ ((⟨#[48, 49, 50, 51, 52, 53, 54, 55, 56, 57, 97, 98, 99, 100, 101, 102]⟩ : ByteArray).extract ((Go.bits .and .u8 a0 15) : Int).toNat ((((Go.bits .and .u8 a0 15) + 1) % 256) : Int).toNat)).size + 1 ≤ 9223372036854775807 then (some ((((⟨#[92]⟩ : ByteArray) ++ ((⟨#[48, 49, 50, 51, 52, 53, 54, 55, 56, 57, 97, 98, 99, 100, 101, 102]⟩ : ByteArray).extract ((ji3) : Int).toNat ((((ji3) + 1) % 256) : Int).toNat)) ++ ((⟨#[48, 49, 50, 51, 52, 53, 54, 55, 56, 57, 97, 98, 99, 100, 101, 102]⟩ : ByteArray).extract ((Go.bits .and .u8 a0 15) : Int).toNat ((((Go.bits .and .u8 a0 15) + 1) % 256) : Int).toNat)) ++ (⟨#[32]⟩ : ByteArray))) else (none)) else (none)) else (none)) else (none)) else (none)) else (none)) else (none)) else (none)) else (none)) = some r := by first | (rw [hji3] at H; exact H) | (simp only [hji3] at H ⊢; exact H)
  (try rw [hji3] at c2b0)
  by_cases c4 : 0 ≤ (ji3)
  ·rw [if_pos c4] at H
   have c4b0 := eq_true c4
   have c4b1 : decide (0 ≤ (ji3)) = true := decide_eq_true c4
   clear c4
   by_cases c5 : (ji3) ≤ (((ji3) + 1) % 256)
   ·rw [if_pos c5] at H
    have c5b0 := eq_true c5
    have c5b1 : decide ((ji3) ≤ (((ji3) + 1) % 256)) = true := decide_eq_true c5
    by_cases c6 : (((ji3) + 1) % 256) ≤ 16
    ·rw [if_pos c6] at H
     have c6b0 := eq_true c6
     have c6b1 : decide ((((ji3) + 1) % 256) ≤ 16) = true := decide_eq_true c6
     by_cases c7 : 1 + ((⟨#[48, 49, 50, 51, 52, 53, 54, 55, 56, 57, 97, 98, 99, 100, 101, 102]⟩ : ByteArray).extract ((ji3) : Int).toNat ((((ji3) + 1) % 256) : Int).toNat).size ≤ 9223372036854775807
     ·rw [if_pos c7] at H
      have c7b0 := eq_true c7
      have c7b1 : decide (1 + ((⟨#[48, 49, 50, 51, 52, 53, 54, 55, 56, 57, 97, 98, 99, 100, 101, 102]⟩ : ByteArray).extract ((ji3) : Int).toNat ((((ji3) + 1) % 256) : Int).toNat).size ≤ 9223372036854775807) = true := decide_eq_true c7
      try have c7b2 : (9223372036854775807 < 1 + ((⟨#[48, 49, 50, 51, 52, 53, 54, 55, 56, 57, 97, 98, 99, 100, 101, 102]⟩ : ByteArray).extract ((ji3) : Int).toNat ((((ji3) + 1) % 256) : Int).toNat).size) = False := eq_false (Nat.not_lt.2 c7)
      by_cases c8 : 0 ≤ (Go.bits .and .u8 a0 15)
      ·rw [if_pos c8] at H
       have c8b0 := eq_true c8
       have c8b1 : decide (0 ≤ (Go.bits .and .u8 a0 15)) = true := decide_eq_true c8
       clear c8
       by_cases c9 : (Go.bits .and .u8 a0 15) ≤ (((Go.bits .and .u8 a0 15) + 1) % 256)
       ·rw [if_pos c9] at H
        have c9b0 := eq_true c9
        have c9b1 : decide ((Go.bits .and .u8 a0 15) ≤ (((Go.bits .and .u8 a0 15) + 1) % 256)) = true := decide_eq_true c9
        by_cases c10 : (((Go.bits .and .u8 a0 15) + 1) % 256) ≤ 16
        ·rw [if_pos c10] at H
         have c10b0 := eq_true c10
         have c10b1 : decide ((((Go.bits .and .u8 a0 15) + 1) % 256) ≤ 16) = true := decide_eq_true c10
         by_cases c11 : ((⟨#[92]⟩ : ByteArray) ++ ((⟨#[48, 49, 50, 51, 52, 53, 54, 55, 56, 57, 97, 98, 99, 100, 101, 102]⟩ : ByteArray).extract ((ji3) : Int).toNat ((((ji3) + 1) % 256) : Int).toNat)).size + ((⟨#[48, 49, 50, 51, 52, 53, 54, 55, 56, 57, 97, 98, 99, 100, 101, 102]⟩ : ByteArray).extract ((Go.bits .and .u8 a0 15) : Int).toNat ((((Go.bits .and .u8 a0 15) + 1) % 256) : Int).toNat).size ≤ 9223372036854775807
         ·rw [if_pos c11] at H
          have c11b0 := eq_true c11
          have c11b1 : decide (((⟨#[92]⟩ : ByteArray) ++ ((⟨#[48, 49, 50, 51, 52, 53, 54, 55, 56, 57, 97, 98, 99, 100, 101, 102]⟩ : ByteArray).extract ((ji3) : Int).toNat ((((ji3) + 1) % 256) : Int).toNat)).size + ((⟨#[48, 49, 50, 51, 52, 53, 54, 55, 56, 57, 97, 98, 99, 100, 101, 102]⟩ : ByteArray).extract ((Go.bits .and .u8 a0 15) : Int).toNat ((((Go.bits .and .u8 a0 15) + 1) % 256) : Int).toNat).size ≤ 9223372036854775807) = true := decide_eq_true c11
          try have c11b2 : (9223372036854775807 < ((⟨#[92]⟩ : ByteArray) ++ ((⟨#[48, 49, 50, 51, 52, 53, 54, 55, 56, 57, 97, 98, 99, 100, 101, 102]⟩ : ByteArray).extract ((ji3) : Int).toNat ((((ji3) + 1) % 256) : Int).toNat)).size + ((⟨#[48, 49, 50, 51, 52, 53, 54, 55, 56, 57, 97, 98, 99, 100, 101, 102]⟩ : ByteArray).extract ((Go.bits .and .u8 a0 15) : Int).toNat ((((Go.bits .and .u8 a0 15) + 1) % 256) : Int).toNat).size) = False := eq_false (Nat.not_lt.2 c11)
          by_cases c12 : (((⟨#[92]⟩ : ByteArray) ++ ((⟨#[48, 49, 50, 51, 52, 53, 54, 55, 56, 57, 97, 98, 99, 100, 101, 102]⟩ : ByteArray).extract ((ji3) : Int).toNat ((((ji3) + 1) % 256) : Int).toNat)) ++ ((⟨#[48, 49, 50, 51, 52, 53, 54, 55, 56, 57, 97, 98, 99, 100, 101, 102]⟩ : ByteArray).extract ((Go.bits .and .u8 a0 15) : Int).toNat ((((Go.bits .and .u8 a0 15) + 1) % 256) : Int).toNat)).size + 1 ≤ 9223372036854775807
          ·rw [if_pos c12] at H
           have c12b0 := eq_true c12
           have c12b1 : decide ((((⟨#[92]⟩ : ByteArray) ++ ((⟨#[48, 49, 50, 51, 52, 53, 54, 55, 56, 57, 97, 98, 99, 100, 101, 102]⟩ : ByteArray).extract ((ji3) : Int).toNat ((((ji3) + 1) % 256) : Int).toNat)) ++ ((⟨#[48, 49, 50, 51, 52, 53, 54, 55, 56, 57, 97, 98, 99, 100, 101, 102]⟩ : ByteArray).extract ((Go.bits .and .u8 a0 15) : Int).toNat ((((Go.bits .and .u8 a0 15) + 1) % 256) : Int).toNat)).size + 1 ≤ 9223372036854775807) = true := decide_eq_true c12
           try have c12b2 : (9223372036854775807 < (((⟨#[92]⟩ : ByteArray) ++ ((⟨#[48, 49, 50, 51, 52, 53, 54, 55, 56, 57, 97, 98, 99, 100, 101, 102]⟩ : ByteArray).extract ((ji3) : Int).toNat ((((ji3) + 1) % 256) : Int).toNat)) ++ ((⟨#[48, 49, 50, 51, 52, 53, 54, 55, 56, 57, 97, 98, 99, 100, 101, 102]⟩ : ByteArray).extract ((Go.bits .and .u8 a0 15) : Int).toNat ((((Go.bits .and .u8 a0 15) + 1) % 256) : Int).toNat)).size + 1) = False := eq_false (Nat.not_lt.2 c12)
           obtain rfl := Option.some.inj H
           go_enter Tryz.func57, Tryz.ntmps57
           go_wp2
           go_ret
           exact ⟨by first | rfl | (simp; done) | (simp only [← hji3] <;> (first | rfl | simp)) | (simp [*]; done), drs_⟩
          ·rw [if_neg c12] at H
           exact absurd H (by simp)
         ·rw [if_neg c11] at H
          exact absurd H (by simp)
        ·rw [if_neg c10] at H
         exact absurd H (by simp)
       ·rw [if_neg c9] at H
        exact absurd H (by simp)
      ·rw [if_neg c8] at H
       exact absurd H (by simp)
     ·rw [if_neg c7] at H
      exact absurd H (by simp)
    ·rw [if_neg c6] at H
     exact absurd H (by simp)
   ·rw [if_neg c5] at H
    exact absurd H (by simp)
  ·rw [if_neg c4] at H
   exact absurd H (by simp)
 ·rw [if_neg c2] at H
  have c2b0 : decide (0 < (a0 / 16)) = false := decide_eq_false c2
  clear c2
  by_cases c13 : 0 ≤ (Go.bits .and .u8 a0 15)
  ·rw [if_pos c13] at H
   have c13b0 := eq_true c13
   have c13b1 : decide (0 ≤ (Go.bits .and .u8 a0 15)) = true := decide_eq_true c13
   clear c13
   by_cases c14 : (Go.bits .and .u8 a0 15) ≤ (((Go.bits .and .u8 a0 15) + 1) % 256)
   ·rw [if_pos c14] at H
    have c14b0 := eq_true c14
    have c14b1 : decide ((Go.bits .and .u8 a0 15) ≤ (((Go.bits .and .u8 a0 15) + 1) % 256)) = true := decide_eq_true c14
    by_cases c15 : (((Go.bits .and .u8 a0 15) + 1) % 256) ≤ 16
    ·rw [if_pos c15] at H
     have c15b0 := eq_true c15
     have c15b1 : decide ((((Go.bits .and .u8 a0 15) + 1) % 256) ≤ 16) = true := decide_eq_true c15
     by_cases c16 : 1 + ((⟨#[48, 49, 50, 51, 52, 53, 54, 55, 56, 57, 97, 98, 99, 100, 101, 102]⟩ : ByteArray).extract ((Go.bits .and .u8 a0 15) : Int).toNat ((((Go.bits .and .u8 a0 15) + 1) % 256) : Int).toNat).size ≤ 9223372036854775807
     ·rw [if_pos c16] at H
      have c16b0 := eq_true c16
      have c16b1 : decide (1 + ((⟨#[48, 49, 50, 51, 52, 53, 54, 55, 56, 57, 97, 98, 99, 100, 101, 102]⟩ : ByteArray).extract ((Go.bits .and .u8 a0 15) : Int).toNat ((((Go.bits .and .u8 a0 15) + 1) % 256) : Int).toNat).size ≤ 9223372036854775807) = true := decide_eq_true c16
      try have c16b2 : (9223372036854775807 < 1 + ((⟨#[48, 49, 50, 51, 52, 53, 54, 55, 56, 57, 97, 98, 99, 100, 101, 102]⟩ : ByteArray).extract ((Go.bits .and .u8 a0 15) : Int).toNat ((((Go.bits .and .u8 a0 15) + 1) % 256) : Int).toNat).size) = False := eq_false (Nat.not_lt.2 c16)
      by_cases c17 : ((⟨#[92]⟩ : ByteArray) ++ ((⟨#[48, 49, 50, 51, 52, 53, 54, 55, 56, 57, 97, 98, 99, 100, 101, 102]⟩ : ByteArray).extract ((Go.bits .and .u8 a0 15) : Int).toNat ((((Go.bits .and .u8 a0 15) + 1) % 256) : Int).toNat)).size + 1 ≤ 9223372036854775807
      ·rw [if_pos c17] at H
       have c17b0 := eq_true c17
       have c17b1 : decide (((⟨#[92]⟩ : ByteArray) ++ ((⟨#[48, 49, 50, 51, 52, 53, 54, 55, 56, 57, 97, 98, 99, 100, 101, 102]⟩ : ByteArray).extract ((Go.bits .and .u8 a0 15) : Int).toNat ((((Go.bits .and .u8 a0 15) + 1) % 256) : Int).toNat)).size + 1 ≤ 9223372036854775807) = true := decide_eq_true c17
       try have c17b2 : (9223372036854775807 < ((⟨#[92]⟩ : ByteArray) ++ ((⟨#[48, 49, 50, 51, 52, 53, 54, 55, 56, 57, 97, 98, 99, 100, 101, 102]⟩ : ByteArray).extract ((Go.bits .and .u8 a0 15) : Int).toNat ((((Go.bits .and .u8 a0 15) + 1) % 256) : Int).toNat)).size + 1) = False := eq_false (Nat.not_lt.2 c17)
       obtain rfl := Option.some.inj H
       go_enter Tryz.func57, Tryz.ntmps57
       go_wp2
       go_ret
       exact ⟨by first | rfl | (simp; done) | (simp [*]; done), drs_⟩
      ·rw [if_neg c17] at H
       exact absurd H (by simp)
     ·rw [if_neg c16] at H
      exact absurd H (by simp)
    ·rw [if_neg c15] at H
     exact absurd H (by simp)
   ·rw [if_neg c14] at H
    exact absurd H (by simp)
  ·rw [if_neg c13] at H
   exact absurd H (by simp)

/-! ### ident_digit: function 74 -/
def ident_digit.f (a0 : Int) : Option (Bool) := if a0 ≥ 48 then (some (decide (a0 ≤ 57))) else (some false)
set_option maxHeartbeats 8000000 in
set_option maxRecDepth 100000 in
theorem ident_digit.calls (a0 : Int) (r : Bool) (w : World) (h : ident_digit.f a0 = some r) :
  Calls Tryz.prog 74 #[.int .u8 a0] w fun e w' => e = .returned (.bool r) ∧ Drawn0 w w' := by
 have H : (if a0 ≥ 48 then (some (decide (a0 ≤ 57))) else (some false)) = some r := h
 clear h
 by_cases c2 : a0 ≥ 48
 ·rw [if_pos c2] at H
  have c2b0 : decide (48 ≤ a0) = true := decide_eq_true c2
  clear c2
  obtain rfl := Option.some.inj H
  go_enter Tryz.func74, Tryz.ntmps74
  go_wp2
  go_ret
  exact ⟨by first | rfl | (simp; done) | (simp [*]; done), drs_⟩
 ·rw [if_neg c2] at H
  have c2b0 : decide (48 ≤ a0) = false := decide_eq_false c2
  clear c2
  obtain rfl := Option.some.inj H
  go_enter Tryz.func74, Tryz.ntmps74
  go_wp2
  go_ret
  exact ⟨by first | rfl | (simp; done) | (simp [*]; done), drs_⟩

/-! ### ident_Write: function 40 -/
def ident_Write.sub (s : ByteArray) (i : Int) : ByteArray := s.extract i.toNat (wrap64 (i + 1)).toNat
def ident_Write.first (s : ByteArray) (i : Int) : Bool := decide (i = 0) || (decide (i = 1) && decide (bt s 0 = 45))
def ident_Write.one (s : ByteArray) (i : Int) : Option ByteArray :=
 (token_Letter.f (bt s i)).bind fun t1 => (ident_digit.f (bt s i)).bind fun t2 => (ident_control.f (bt s i)).bind fun t3 => (ident_escaped.f (bt s i)).bind fun t4 =>
  some (if t1 = true then ident_Write.sub s i else if bt s i = 45 ∧ 1 < (s.size : Int) then ident_Write.sub s i else if t2 = true ∧ ident_Write.first s i = false then ident_Write.sub s i
   else if t2 = true then t4 else if t3 = true then t4 else (⟨#[92]⟩ : ByteArray) ++ ident_Write.sub s i)

/-- The pieces of the first bytes, one behind the other. -/
def ident_Write.cat (s : ByteArray) : Nat → Option (List UInt8)
 | 0 => some []
 | n + 1 => (ident_Write.cat s n).bind fun l => (ident_Write.one s n).bind fun r => if r.size ≤ 8 then some (l ++ r.data.toList) else none
theorem ident_Write.cat_lt (s : ByteArray) : ∀ {n : Nat} {l : List UInt8}, ident_Write.cat s n = some l → ∀ {i : Nat}, i < n → ∃ c r, ident_Write.cat s i = some c ∧ ident_Write.one s i = some r ∧ r.size ≤ 8 ∧ ident_Write.cat s (i + 1) = some (c ++ r.data.toList)
 | 0, _, _, _, h => absurd h (Nat.not_lt_zero _)
 | n + 1, l, h, i, hi => by
  simp only [ident_Write.cat] at h
  obtain ⟨c, h1, h⟩ := Option.bind_eq_some_iff.1 h
  obtain ⟨r, h2, h⟩ := Option.bind_eq_some_iff.1 h
  by_cases h3 : r.size ≤ 8
  ·rw [if_pos h3] at h
   rcases Nat.lt_or_ge i n with h4 | h4
   ·exact ident_Write.cat_lt s h1 h4
   ·obtain rfl : i = n := by omega
    refine ⟨c, r, h1, h2, h3, ?_⟩
    show (ident_Write.cat s i).bind _ = _
    rw [h1]
    show (ident_Write.one s i).bind _ = _
    rw [h2]
    exact if_pos h3
  ·rw [if_neg h3] at h
   cases h
theorem ident_Write.cat_len (s : ByteArray) : ∀ (n : Nat) (l : List UInt8), ident_Write.cat s n = some l → l.length ≤ n * 8
 | 0, l, h => by
  obtain rfl := Option.some.inj h
  simp
 | n + 1, l, h => by
  simp only [ident_Write.cat] at h
  obtain ⟨c, h1, h⟩ := Option.bind_eq_some_iff.1 h
  obtain ⟨r, h2, h⟩ := Option.bind_eq_some_iff.1 h
  by_cases h3 : r.size ≤ 8
  ·rw [if_pos h3] at h
   obtain rfl := Option.some.inj h
   have := ident_Write.cat_len s n c h1
   have h5 : r.data.toList.length = r.size := by simp
   rw [List.length_append, h5]
   omega
  ·rw [if_neg h3] at h
   cases h

set_option maxHeartbeats 8000000 in
set_option maxRecDepth 100000 in
theorem ident_Write.one_calls (cb : Nat) (i : Int) (s : ByteArray) (r : ByteArray) (w : World) (hi0 : 0 ≤ i) (hi1 : i < (s.size : Int)) (hc : w.cell? ⟨cb, 0, none⟩ = some (.string s)) (hs : s.size ≤ 1000000) (h : ident_Write.one s i = some r) :
  Calls Tryz.prog 73 #[.int .i64 i, .int .u8 (bt s i), .pointer (some ⟨cb, 0, none⟩)] w fun e w' => e = .returned (.string r) ∧ Drawn0 w w' := by
 obtain ⟨t1, ht1, h⟩ := Option.bind_eq_some_iff.1 h
 obtain ⟨t2, ht2, h⟩ := Option.bind_eq_some_iff.1 h
 obtain ⟨t3, ht3, h⟩ := Option.bind_eq_some_iff.1 h
 obtain ⟨t4, ht4, h⟩ := Option.bind_eq_some_iff.1 h
 replace h := Option.some.inj h
 have T1 := Aside0.mk ht1
 have T2 := Aside0.mk ht2
 have T3 := Aside0.mk ht3
 have T4 := Aside0.mk ht4
 clear ht1 ht2 ht3 ht4
 have hx0 : ∀ h : 0 < s.size, ((s[0].toNat : Nat) : Int) = bt s 0 := fun h => bt_at s 0 h
 have k0 : ((0 : Int) < (s.size : Int)) = True := eq_true (by omega)
 have k0b : (0 < s.size) = True := eq_true (by omega)
 have hw1 : wrap64 (i + 1) = i + 1 := by unfold wrap64; omega
 have q0 : (0 ≤ i) = True := eq_true hi0
 have q2 : (i ≤ wrap64 (i + 1)) = True := eq_true (by omega)
 have q3 : (wrap64 (i + 1) ≤ (s.size : Int)) = True := eq_true (by omega)
 have q2b : decide (i ≤ wrap64 (i + 1)) = true := decide_eq_true (by omega)
 have q3b : decide (wrap64 (i + 1) ≤ (s.size : Int)) = true := decide_eq_true (by omega)
 have q0b : decide (0 ≤ i) = true := decide_eq_true hi0
 have qs : (1 + (s.extract i.toNat (wrap64 (i + 1)).toNat).size ≤ 9223372036854775807) = True := eq_true (by rw [ByteArray.size_extract]; omega)
 have qs2 : (9223372036854775807 < 1 + (s.extract i.toNat (wrap64 (i + 1)).toNat).size) = False := eq_false (by rw [ByteArray.size_extract]; omega)
 have qs3 : (9223372036854775807 < 1 + ((wrap64 (i + 1)).toNat - i.toNat)) = False := eq_false (by rw [hw1]; omega)
 have hF : (∃ b0 b1 b2 : Bool, (i == 0) = b0 ∧ (i == 1) = b1 ∧ (bt s 0 == 45) = b2 ∧ ident_Write.first s i = (b0 || (b1 && b2))) := ⟨_, _, _, rfl, rfl, rfl, rfl⟩
 obtain ⟨b0, b1, b2, p0, p1, p2, hF⟩ := hF
 have hD : (∃ b3 b4 : Bool, (bt s i == 45) = b3 ∧ decide (1 < (s.size : Int)) = b4 ∧ decide (1 < s.size) = b4) := ⟨_, _, rfl, rfl, by simp only [decide_eq_decide]; omega⟩
 obtain ⟨b3, b4, p3, p4, p4b⟩ := hD
 have h' : r = (if t1 = true then ident_Write.sub s i else if b3 = true ∧ b4 = true then ident_Write.sub s i else if t2 = true ∧ (b0 || (b1 && b2)) = false then ident_Write.sub s i
   else if t2 = true then t4 else if t3 = true then t4 else (⟨#[92]⟩ : ByteArray) ++ ident_Write.sub s i) := by
  rw [← h, hF]
  simp only [← p3, ← p4, beq_iff_eq, decide_eq_true_eq]
 unfold ident_Write.sub at h'
 clear h hF hw1 hi0 hi1 hs
 have HP : (b0 = true) ∨ (b0 = false ∧ b1 = true) ∨ (b0 = false ∧ b1 = false) := by cases b0 <;> cases b1 <;> simp
 rcases HP with rfl | ⟨rfl, rfl⟩ | ⟨rfl, rfl⟩
 all_goals
  cases t1 with
  | true =>
   simp only [if_pos] at h'
   subst h'
   go_enter Tryz.func73, Tryz.ntmps73
   go_wp2_with (first
    | (go_at_call 50; refine (token_Letter.calls _ _ _ T1.out).mono ?_; rintro e w5 ⟨rfl, ⟨nd, rfl⟩⟩))
   go_ret
   exact ⟨rfl, drs_⟩
  | false =>
   simp only [Bool.false_eq_true, if_false] at h'
   have HQ : (b3 = true ∧ b4 = true) ∨ (b3 = true ∧ b4 = false) ∨ b3 = false := by cases b3 <;> cases b4 <;> simp
   rcases HQ with ⟨rfl, rfl⟩ | HQ
   ·simp only [and_self, if_true] at h'
    subst h'
    go_enter Tryz.func73, Tryz.ntmps73
    go_wp2_with (first
     | (go_at_call 50; refine (token_Letter.calls _ _ _ T1.out).mono ?_; rintro e w5 ⟨rfl, ⟨nd, rfl⟩⟩))
    go_ret
    exact ⟨rfl, drs_⟩
   ·rw [if_neg (by rcases HQ with ⟨_, h⟩ | h <;> simp [h])] at h'
    rcases HQ with ⟨rfl, rfl⟩ | rfl
    all_goals
     cases t2 with
     | true =>
      cases b2
      all_goals
       simp at h'
       subst h'
       go_enter Tryz.func73, Tryz.ntmps73
       go_wp2_with (first
        | (go_at_call 50; refine (token_Letter.calls _ _ _ T1.out).mono ?_; rintro e w5 ⟨rfl, ⟨nd, rfl⟩⟩)
        | (go_at_call 74; refine (ident_digit.calls _ _ _ T2.out).mono ?_; rintro e w5 ⟨rfl, ⟨nd2, rfl⟩⟩)
        | (go_at_call 57; refine (ident_escaped.calls _ _ _ T4.out).mono ?_; rintro e w5 ⟨rfl, ⟨nd4, rfl⟩⟩))
       go_ret
       exact ⟨rfl, drs_⟩
     | false =>
      cases t3 <;> cases b2
      all_goals
       simp at h'
       subst h'
       go_enter Tryz.func73, Tryz.ntmps73
       go_wp2_with (first
        | (go_at_call 50; refine (token_Letter.calls _ _ _ T1.out).mono ?_; rintro e w5 ⟨rfl, ⟨nd, rfl⟩⟩)
        | (go_at_call 74; refine (ident_digit.calls _ _ _ T2.out).mono ?_; rintro e w5 ⟨rfl, ⟨nd2, rfl⟩⟩)
        | (go_at_call 56; refine (ident_control.calls _ _ _ T3.out).mono ?_; rintro e w5 ⟨rfl, ⟨nd3, rfl⟩⟩)
        | (go_at_call 57; refine (ident_escaped.calls _ _ _ T4.out).mono ?_; rintro e w5 ⟨rfl, ⟨nd4, rfl⟩⟩))
       go_ret
       exact ⟨rfl, drs_⟩

theorem ident_Write.isB {T e : TypeId} {B b : Nat} {l : List Value} {w : World} (h : Lib.IsBuilder T e B b l w) (n : Nat) : Lib.IsBuilder T e B b l (w.drewN n) := h
theorem ident_Write.belowN {B : Nat} {a w : World} (h : Below B a w) (n : Nat) : Below B a (w.drewN n) := h.trans ⟨rfl, rfl, rfl, Nat.le_refl _, fun _ _ => rfl⟩
theorem ident_Write.built {T e : TypeId} {B b : Nat} {l : List UInt8} {r : ByteArray} {w : World} (h : Lib.BuilderAt T e B b (.pointer (some ⟨b, 0, none⟩)) (Lib.byteCells l ++ Lib.strCells r) w) : Lib.IsBuilder T e B b (Lib.byteCells (l ++ r.data.toList)) w := Or.inr (by
 unfold Lib.byteCells Lib.strCells at *
 rw [List.map_append]
 exact h)
theorem ident_Write.short {c : List UInt8} {r s : ByteArray} {i : Nat} (h1 : c.length ≤ i * 8) (h2 : r.size ≤ 8) (h3 : s.size ≤ 1000000) (h4 : (i : Int) < (s.size : Int)) : (Lib.byteCells c).length + r.size ≤ 140737488355328 := by
 unfold Lib.byteCells
 rw [List.length_map]
 omega
theorem ident_Write.next {i : Nat} {s : ByteArray} (h1 : (i : Int) < (s.size : Int)) (hs : s.size ≤ 1000000) : wrap64 ((i : Int) + 1) = ((i + 1 : Nat) : Int) := by
 unfold wrap64
 omega
theorem ident_Write.less {i : Nat} {s : ByteArray} (h1 : (i : Int) < (s.size : Int)) (hw : wrap64 ((i : Int) + 1) = ((i + 1 : Nat) : Int)) : s.size - (intOf (.int .i64 (wrap64 ((i : Int) + 1)))).toNat < s.size - (intOf (.int .i64 (i : Int))).toNat := by
 rw [hw]
 show s.size - (((i + 1 : Nat) : Int)).toNat < s.size - ((i : Int)).toNat
 rw [Int.toNat_natCast, Int.toNat_natCast]
 clear hw
 omega
theorem ident_Write.small {i : Int} {s : ByteArray} (h0 : 0 ≤ i) (h1 : i < (s.size : Int)) (hs : s.size ≤ 1000000) : wrap64 (i + 1) = i + 1 := by unfold wrap64; omega

set_option maxHeartbeats 4000000 in
set_option maxRecDepth 100000 in
theorem ident_Write.each_calls (cb : Nat) (s : ByteArray) (l : List UInt8) (w : World) (hc : w.cell? ⟨cb, 0, none⟩ = some (.string s)) (hs : s.size ≤ 1000000) (hl : ident_Write.cat s s.size = some l) :
  Calls Tryz.prog 54 #[.string s, .func (.func 73) #[] #[.pointer (some ⟨cb, 0, none⟩)]] w fun e w' => e = .returned (.string ⟨l.toArray⟩) ∧ Below w.heap.size w w' := by
 have hcl := World.block_lt_of_cell? w _ hc
 have HC := Aside0.mk hc
 have HL := Aside0.mk hl
 have HS := Aside0.mk hs
 clear hc hl hs
 go_enter Tryz.func54, Tryz.ntmps54
 go_wp2
 go_loopw [9] (fun v9 wr => ∃ (i : Nat) (c : List UInt8), i ≤ s.size ∧ v9 = .int .i64 i ∧ Aside0 (ident_Write.cat s i = some c) ∧ Aside0 (Lib.IsBuilder 81 5 w.heap.size w.heap.size (Lib.byteCells c) wr) ∧ Aside0 (Below w.heap.size w wr))
  (fun v9 _ => s.size - (intOf v9).toNat)
 case atStart => exact ⟨0, [], Nat.zero_le _, rfl, ⟨rfl⟩, ⟨Lib.fresh_isBuilder _ _ w⟩, ⟨(Below.refl _ _).alloc (Nat.le_refl _) _⟩⟩
 case round =>
  obtain ⟨i, c, hi, rfl, HK, HB, HW⟩ := hrel
  by_cases hlt : i < s.size
  ·have q0 : (0 ≤ (i : Int)) = True := eq_true (by omega)
   have q1 : ((i : Int) < (s.size : Int)) = True := eq_true (by omega)
   have q2 : decide ((i : Int) < (s.size : Int)) = true := decide_eq_true (by omega)
   have q3 : decide (i < s.size) = true := decide_eq_true hlt
   have hx : ∀ h : i < s.size, ((s[i].toNat : Nat) : Int) = bt s i := fun h => bt_at s i h
   have q4 : (i < s.size) = True := eq_true hlt
   obtain ⟨c', r, h1, h2, h3, h4⟩ := ident_Write.cat_lt s HL.out hlt
   obtain rfl := Option.some.inj (HK.out.symm.trans h1)
   have HN := Aside0.mk h4
   have HO := Aside0.mk h2
   have HR := Aside0.mk h3
   have hcw := (HW.out.cell hcl).trans HC.out
   have HCW := Aside0.mk hcw
   have HLEN := Aside0.mk (ident_Write.short (ident_Write.cat_len s i c HK.out) HR.out HS.out (q1.mpr trivial))
   have H0 := Aside0.mk (q0.mpr trivial)
   have H1 := Aside0.mk (q1.mpr trivial)
   have HSW := Aside0.mk HW.out.size
   clear h1 h2 h3 h4 hcw hlt hi
   go_wp2_with (first
    | (go_at_call 73; refine (ident_Write.one_calls cb i s r _ H0.out H1.out HCW.out HS.out HO.out).mono ?_; rintro e w5 ⟨rfl, ⟨nd, rfl⟩⟩)
    | (go_at_call 59; refine (Giv.writeString_calls w.heap.size w.heap.size (Lib.byteCells c) r _ ?g1 HLEN.out ?g2).mono ?_; (case g1 => repeat (first | (with_reducible exact HB.out) | (with_reducible apply ident_Write.isB))); (case g2 => exact HSW.out); rintro e w6 ⟨rfl, hb6, hbe6⟩; have HW6 := Aside0.mk (Below.trans (by repeat (first | (with_reducible exact HW.out) | (with_reducible apply ident_Write.belowN))) hbe6); clear hbe6))
   have HWR := Aside0.mk (ident_Write.next H1.out HS.out)
   go_roundw
   case rel => exact ⟨i + 1, c ++ r.data.toList, by have := H1.out; omega, by rw [HWR.out], HN, ⟨ident_Write.built hb6⟩, HW6⟩
   case measure => exact ident_Write.less H1.out HWR.out
  ·have hie : i = s.size := by omega
   subst hie
   have q2 : decide ((s.size : Int) < (s.size : Int)) = false := decide_eq_false (by omega)
   have q3 : decide (s.size < s.size) = false := decide_eq_false (by omega)
   obtain rfl := Option.some.inj (HK.out.symm.trans HL.out)
   have HSW := Aside0.mk HW.out.size
   clear hlt
   go_wp2_with (first
    | (go_at_call 60; refine (Tryz.Builder_String_any w.heap.size w.heap.size c _ HB.out HSW.out).mono ?_; rintro e w6 ⟨rfl, hb6⟩))
   go_ret
   exact ⟨rfl, HW.out.trans hb6⟩

theorem ident_Write.boxed (w : World) (s : ByteArray) (T : TypeId) : (w.alloc (.cells #[.string s] T)).cell? ⟨w.heap.size, 0, none⟩ = some (.string s) := by
 simp
theorem ident_Write.cellN {w : World} {p : Addr} {v : Value} (h : w.cell? p = some v) (n : Nat) : (w.drewN n).cell? p = some v := h
theorem ident_Write.belowA (w : World) (o : Obj) : Below w.heap.size w (w.alloc o) := below_alloc (Below.refl _ _) _

def ident_Write.f (s : ByteArray) : Option ByteArray := (ident_Name.f s).bind fun t => if t = true then (if s.size ≤ 1000000 then (ident_Write.cat s s.size).bind fun l => some ⟨l.toArray⟩ else none) else some ⟨#[]⟩
set_option maxHeartbeats 2000000 in
set_option maxRecDepth 100000 in
theorem ident_Write.calls (s : ByteArray) (r : ByteArray) (w : World) (h : ident_Write.f s = some r) :
  Calls Tryz.prog 40 #[.string s] w fun e w' => e = .returned (.string r) ∧ Below w.heap.size w w' := by
 obtain ⟨t, ht, h⟩ := Option.bind_eq_some_iff.1 h
 have HT := Aside0.mk ht
 clear ht
 cases t with
 | false =>
  obtain rfl := Option.some.inj h
  go_enter Tryz.func40, Tryz.ntmps40
  go_wp2_with (first
   | (go_at_call 70; refine (ident_Name.calls _ _ _ HT.out).mono ?_; rintro e w5 ⟨rfl, ⟨nd, rfl⟩⟩))
  go_ret
  exact ⟨rfl, by repeat (first | (with_reducible exact ident_Write.belowA _ _) | (with_reducible apply ident_Write.belowN))⟩
 | true =>
  rw [if_pos rfl] at h
  by_cases hs : s.size ≤ 1000000
  ·rw [if_pos hs] at h
   obtain ⟨l, hl, h⟩ := Option.bind_eq_some_iff.1 h
   obtain rfl := Option.some.inj h
   have HL := Aside0.mk hl
   have HS := Aside0.mk hs
   clear hl hs h
   go_enter Tryz.func40, Tryz.ntmps40
   go_wp2_with (first
    | (go_at_call 70; refine (ident_Name.calls _ _ _ HT.out).mono ?_; rintro e w5 ⟨rfl, ⟨nd, rfl⟩⟩)
    | (go_at_call 54; refine (ident_Write.each_calls w.heap.size s l _ ?g1 HS.out HL.out).mono ?_; (case g1 => repeat (first | (with_reducible exact ident_Write.boxed _ _ _) | (with_reducible apply ident_Write.cellN))); rintro e w6 ⟨rfl, hb6⟩; have HW6 := Aside0.mk (below_step (by repeat (first | (with_reducible exact ident_Write.belowA _ _) | (with_reducible apply ident_Write.belowN))) hb6); clear hb6))
   go_ret
   exact ⟨rfl, HW6.out⟩
  ·rw [if_neg hs] at h
   cases h

end Go.Proofs.YtofdhdafabmhmaaGreatDoor.PLt
end
section
/- The table of the powers of ten, carried along a run. Conditions: none. -/
namespace Go.Proofs.YtofdhdafabmhmaaGreatDoor.Tbl
open Go.RowKit
def Tab0 (w : World) : Prop := Lib.TabIs Tryz.prog w "internal/strconv.uint64pow10" .u64 Lib.pow10Tab
theorem glob : ∃ g, Tryz.prog.globalNamed "internal/strconv.uint64pow10" = some g := ⟨1, by kernel_rfl⟩
theorem tab0_stays {w W : World} (h : Tab0 w) (hb : Below w.heap.size w W) : Tab0 W := by
  obtain ⟨g, hg⟩ := glob
  exact Joins.tab_stays hg h hb (Nat.le_refl _)
end Go.Proofs.YtofdhdafabmhmaaGreatDoor.Tbl
end
section
namespace Go.Proofs.YtofdhdafabmhmaaGreatDoor.PLt
open Go.RowKit Go.Proofs.YtofdhdafabmhmaaGreatDoorW.PrintWords Go.Proofs.YtofdhdafabmhmaaGreatDoorW.PrintLast Go.Proofs.YtofdhdafabmhmaaGreatDoorW.PrintMore
attribute [local go_sem] max2_int min2_int max_two min_two max_three min_three max_four min_four
open Go.Proofs.YtofdhdafabmhmaaGreatDoor.Opn Go.Proofs.YtofdhdafabmhmaaGreatDoor.Giv

/-! ### strconv_Itoa: function 41 -/
def strconv_Itoa.f (a0 : Int) : Option (ByteArray) := if -9223372036854775808 ≤ a0 then (if a0 ≤ 9223372036854775807 then some ⟨(Lib.itoa a0).toArray⟩ else none) else none
theorem strconv_Itoa.calls (a0 : Int) (r : ByteArray) (w : World) (h : strconv_Itoa.f a0 = some r) (htab : Tbl.Tab0 w) :
  Calls Tryz.prog 41 #[.int .i64 a0] w fun e w' => e = .returned (.string r) ∧ Below w.heap.size w w' := by
 unfold strconv_Itoa.f at h
 by_cases h0 : -9223372036854775808 ≤ a0
 ·rw [if_pos h0] at h
  by_cases h1 : a0 ≤ 9223372036854775807
  ·rw [if_pos h1] at h
   refine (Tryz.strconv_Itoa a0 h0 h1 w htab).mono ?_
   rintro e w' ⟨rfl, k, os, rfl⟩
   exact ⟨by rw [Option.some.inj h], Lib.below_grow _ _ (Nat.le_refl _) k os⟩
  ·rw [if_neg h1] at h
   cases h
 ·rw [if_neg h0] at h
  cases h

end Go.Proofs.YtofdhdafabmhmaaGreatDoor.PLt
end
section
namespace Go.Proofs.YtofdhdafabmhmaaGreatDoor.PLt
open Go.RowKit Go.Proofs.YtofdhdafabmhmaaGreatDoorW.PrintWords Go.Proofs.YtofdhdafabmhmaaGreatDoorW.PrintLast Go.Proofs.YtofdhdafabmhmaaGreatDoorW.PrintMore
attribute [local go_sem] max2_int min2_int max_two min_two max_three min_three max_four min_four
open Go.Proofs.YtofdhdafabmhmaaGreatDoor.Opn Go.Proofs.YtofdhdafabmhmaaGreatDoor.Giv

/-! ### line_Text: function 18 -/
mutual
def line_Text.j0 : Nat → ByteArray → Bool → Int → Int → ByteArray → Option (ByteArray)
 | 0, _, _, _, _, _ => none
 | k + 1, x3, x26, x307000, x307001, x307002 => if x26 = true then (if x3.toList = ([] : List UInt8) then ((strconv_Itoa.f x307001).bind fun t309 => (if t309.size + x3.size ≤ 9223372036854775807 then (line_Text.j1 k (t309 ++ x3) x307000 x307001 x307002) else (none))) else (if 1 + x3.size ≤ 9223372036854775807 then ((strconv_Itoa.f x307001).bind fun t310 => (if t310.size + ((⟨#[32]⟩ : ByteArray) ++ x3).size ≤ 9223372036854775807 then (line_Text.j1 k (t310 ++ ((⟨#[32]⟩ : ByteArray) ++ x3)) x307000 x307001 x307002) else (none))) else (none))) else (line_Text.j1 k x3 x307000 x307001 x307002)
def line_Text.j1 : Nat → ByteArray → Int → Int → ByteArray → Option (ByteArray)
 | 0, _, _, _, _ => none
 | k + 1, x3, x307000, x307001, x307002 => if x307000 = 1 then (some (⟨#[97, 117, 116, 111]⟩ : ByteArray)) else (if x307000 = 4 then (if 5 + x3.size ≤ 9223372036854775807 then (some ((⟨#[115, 112, 97, 110, 32]⟩ : ByteArray) ++ x3)) else (none)) else (some x3))
end
def line_Text.f (k : Nat) (a0_0 : Int) (a0_1 : Int) (a0_2 : ByteArray) : Option (ByteArray) := (line_Good.f k a0_0 a0_1 a0_2).bind fun t307 => (if t307 = true then ((ident_Write.f a0_2).bind fun t308 => (if a0_0 = 2 then (line_Text.j0 k t308 true a0_0 a0_1 a0_2) else (if a0_0 = 4 then (if a0_1 > 1 then (line_Text.j0 k t308 true a0_0 a0_1 a0_2) else (line_Text.j0 k t308 (t308.toList == ([] : List UInt8)) a0_0 a0_1 a0_2)) else (line_Text.j0 k t308 false a0_0 a0_1 a0_2)))) else (some (⟨#[]⟩ : ByteArray)))
theorem line_Text.mono_l : ∀ k, (∀ y0 y1 y2 y3 y4, LeO (line_Text.j0 k y0 y1 y2 y3 y4) (line_Text.j0 (k + 1) y0 y1 y2 y3 y4)) ∧ (∀ y0 y1 y2 y3, LeO (line_Text.j1 k y0 y1 y2 y3) (line_Text.j1 (k + 1) y0 y1 y2 y3))
 | 0 => ⟨fun _ _ _ _ _ r h => by simp [line_Text.j0] at h, fun _ _ _ _ r h => by simp [line_Text.j1] at h⟩
 | k + 1 => by
  obtain ⟨ih0, ih1⟩ := line_Text.mono_l k
  refine ⟨?_, ?_⟩
  ·intro y0 y1 y2 y3 y4
   unfold line_Text.j0
   repeat' first
   | (with_reducible exact ih0 _ _ _ _ _)
   | (with_reducible exact ih1 _ _ _ _)
   | (with_reducible exact line_Good.mono _ _ _ _)
   | (with_reducible exact LeO.refl _)
   | (with_reducible exact LeO.none _)
   | (with_reducible refine LeO.ite ?_ ?_)
   | (with_reducible refine LeO.bind ?_ (fun _ => ?_))
  ·intro y0 y1 y2 y3
   unfold line_Text.j1
   repeat' first
   | (with_reducible exact ih0 _ _ _ _ _)
   | (with_reducible exact ih1 _ _ _ _)
   | (with_reducible exact line_Good.mono _ _ _ _)
   | (with_reducible exact LeO.refl _)
   | (with_reducible exact LeO.none _)
   | (with_reducible refine LeO.ite ?_ ?_)
   | (with_reducible refine LeO.bind ?_ (fun _ => ?_))
theorem line_Text.mono : ∀ a0 a1 a2 k, LeO (line_Text.f k a0 a1 a2) (line_Text.f (k + 1) a0 a1 a2) := by
 intro a0 a1 a2 k
 obtain ⟨ih0, ih1⟩ := line_Text.mono_l k
 unfold line_Text.f
 repeat' first
   | (with_reducible exact ih0 _ _ _ _ _)
   | (with_reducible exact ih1 _ _ _ _)
   | (with_reducible exact line_Good.mono _ _ _ _)
   | (with_reducible exact LeO.refl _)
   | (with_reducible exact LeO.none _)
   | (with_reducible refine LeO.ite ?_ ?_)
   | (with_reducible refine LeO.bind ?_ (fun _ => ?_))
set_option maxHeartbeats 8000000 in
set_option maxRecDepth 100000 in
theorem line_Text.calls (k : Nat) (a0_0 : Int) (a0_1 : Int) (a0_2 : ByteArray) (r : ByteArray) (w : World) (h : line_Text.f k a0_0 a0_1 a0_2 = some r) (htab : Tbl.Tab0 w) :
  Calls Tryz.prog 18 #[.agg #[.int .i64 a0_0, .int .i64 a0_1, .string a0_2]] w fun e w' => e = .returned (.string r) ∧ Below w.heap.size w w' := by
 have HTB := Aside0.mk htab
 clear htab
 have hu32 := Tryz.underlying32
 have HB := Aside0.mk (Below.refl w.heap.size w)
 have H : ((line_Good.f k a0_0 a0_1 a0_2).bind fun t307 => (if t307 = true then ((ident_Write.f a0_2).bind fun t308 => (if a0_0 = 2 then (line_Text.j0 k t308 true a0_0 a0_1 a0_2) else (if a0_0 = 4 then (if a0_1 > 1 then (line_Text.j0 k t308 true a0_0 a0_1 a0_2) else (line_Text.j0 k t308 (t308.toList == ([] : List UInt8)) a0_0 a0_1 a0_2)) else (line_Text.j0 k t308 false a0_0 a0_1 a0_2)))) else (some (⟨#[]⟩ : ByteArray)))) = some r := h
 clear h
 replace H := Option.bind_eq_some_iff.mp H
 obtain ⟨t307, A20, H⟩ := H
 try dsimp only at H
 have A2 := Aside0.mk A20
 clear A20
 by_cases c3 : t307 = true
 ·subst c3
  rw [if_pos rfl] at H
  replace H := Option.bind_eq_some_iff.mp H
  obtain ⟨t308, A40, H⟩ := H
  try dsimp only at H
  have A4 := Aside0.mk A40
  clear A40
  have HC5 := Aside0.mk H
  clear H
  go_enter Tryz.func18, Tryz.ntmps18
  go_upto_region 4 with (first | ((with_reducible refine gate_dst (N := 1) rfl ?_); refine box_event ?hg (N := 1) ?hd (cs := #[.int .i64 a0_0, .int .i64 a0_1, .string a0_2]) (t := 32) ?hr ?_; (case hd => rfl); (case hg => rfl); (case hr => first | (go_simp; done) | (go_simp; rfl)); intro gb306 hg w6 hbox hb; have n0_ := Aside0.mk (below_step bel_ hb); have n1_ := Aside0.mk (hbox); have n2_ := Aside0.mk ((bsz_ hg : w.heap.size ≤ gb306)); have n3_ := Aside0.mk ((bsz_ hg : w.heap.size ≤ gb306)); clear HB; have HB := n0_; have BK306 := n1_; have GW306 := n2_; have GE306 := n3_; clear n0_ n1_ n2_ n3_; clear hb hbox hg; have hcz7_0 : w6.cell? ⟨gb306, 0, none⟩ = some (.int .i64 a0_0) := (blk_cell BK306.out 0).trans rfl; have hcz7_1 : w6.cell? ⟨gb306, 1, none⟩ = some (.int .i64 a0_1) := (blk_cell BK306.out 1).trans rfl; have hcz7_2 : w6.cell? ⟨gb306, 2, none⟩ = some (.string a0_2) := (blk_cell BK306.out 2).trans rfl; have hfz7_0 := blk_frozen BK306.out 0; have hfz7_1 := blk_frozen BK306.out 1; have hfz7_2 := blk_frozen BK306.out 2) | ((with_reducible refine gate_callee (f := 16) rfl ?_); refine goesL_ (some 5) rfl rfl Tryz.func16 (by kernel_rfl) rfl #[.agg #[.int .i64 a0_0, .int .i64 a0_1, .string a0_2]] rfl goa_ ?_; (with_reducible refine (line_Good.calls k a0_0 a0_1 a0_2 true _ A2.out).mono ?_); rintro e w8 ⟨rfl, hb⟩; refine ⟨_, rfl, ?_⟩; have n0_ := blb_ BK306 hb; have n1_ := Aside0.mk (below_step bel_ hb); clear BK306; clear HB; have BK306 := n0_; have HB := n1_; clear n0_ n1_; clear hb; have hcz9_0 : w8.cell? ⟨gb306, 0, none⟩ = some (.int .i64 a0_0) := (blk_cell BK306.out 0).trans rfl; have hcz9_1 : w8.cell? ⟨gb306, 1, none⟩ = some (.int .i64 a0_1) := (blk_cell BK306.out 1).trans rfl; have hcz9_2 : w8.cell? ⟨gb306, 2, none⟩ = some (.string a0_2) := (blk_cell BK306.out 2).trans rfl; have hfz9_0 := blk_frozen BK306.out 0; have hfz9_1 := blk_frozen BK306.out 1; have hfz9_2 := blk_frozen BK306.out 2) | ((with_reducible refine gate_callee (f := 40) rfl ?_); refine goesL_ (some 9) rfl rfl Tryz.func40 (by kernel_rfl) rfl #[.string a0_2] rfl goa_ ?_; (with_reducible refine (ident_Write.calls a0_2 t308 _ A4.out).mono ?_); rintro e w10 ⟨rfl, hb⟩; refine ⟨_, rfl, ?_⟩; have n0_ := blb_ BK306 hb; have n1_ := Aside0.mk (below_step bel_ hb); clear BK306; clear HB; have BK306 := n0_; have HB := n1_; clear n0_ n1_; clear hb))
  (try simp only [Act.put, List.setIfInBounds_toArray, List.set_cons_zero, List.set_cons_succ])
  go_cut [26] (fun v26 wc => ∃ (kq : Nat) (x26_4 : Bool), v26 = .bool x26_4 ∧ Aside0 (line_Text.j0 kq t308 x26_4 a0_0 a0_1 a0_2 = some r) ∧ Aside0 (kq ≤ k) ∧ Aside0 (wc.heap[gb306]? = some (.cells #[.int .i64 a0_0, .int .i64 a0_1, .string a0_2] 32 (0, 0))) ∧ Aside0 (Below w.heap.size w wc))
  case first =>
   have H := HC5.out
   clear HC5
   by_cases c11 : a0_0 = 2
   ·rw [if_pos c11] at H
    have c11b0 : (a0_0 == 2) = true := beq_iff_eq.mpr c11
    have c11b1 : (a0_0 != 2) = false := bne_eq_false_iff_eq.mpr c11
    clear c11
    (first | rw [c11b0] | (simp only [i64_w, i32_w]; rw [c11b0]) | skip)
    have H' := Aside0.mk H
    clear H
    have hcz12_0 : w10.cell? ⟨gb306, 0, none⟩ = some (.int .i64 a0_0) := (blk_cell BK306.out 0).trans rfl
    have hcz12_1 : w10.cell? ⟨gb306, 1, none⟩ = some (.int .i64 a0_1) := (blk_cell BK306.out 1).trans rfl
    have hcz12_2 : w10.cell? ⟨gb306, 2, none⟩ = some (.string a0_2) := (blk_cell BK306.out 2).trans rfl
    have hfz12_0 := blk_frozen BK306.out 0
    have hfz12_1 := blk_frozen BK306.out 1
    have hfz12_2 := blk_frozen BK306.out 2
    go_wp2
    go_meet
    case rel => exact ⟨_, (true), rfs_, (by first | exact H' | (subst_vars; exact H')), ⟨ole_⟩, ⟨blk_⟩, ⟨bel_⟩⟩
   ·rw [if_neg c11] at H
    have c11b0 : (a0_0 == 2) = false := beq_eq_false_iff_ne.mpr c11
    have c11b1 : (a0_0 != 2) = true := bne_iff_ne.mpr c11
    (first | rw [c11b0] | (simp only [i64_w, i32_w]; rw [c11b0]) | skip)
    by_cases c13 : a0_0 = 4
    ·rw [if_pos c13] at H
     have c13b0 : (a0_0 == 4) = true := beq_iff_eq.mpr c13
     have c13b1 : (a0_0 != 4) = false := bne_eq_false_iff_eq.mpr c13
     clear c13
     by_cases c14 : a0_1 > 1
     ·rw [if_pos c14] at H
      have c14b0 : decide (1 < a0_1) = true := decide_eq_true c14
      clear c14
      have H' := Aside0.mk H
      clear H
      have hcz15_0 : w10.cell? ⟨gb306, 0, none⟩ = some (.int .i64 a0_0) := (blk_cell BK306.out 0).trans rfl
      have hcz15_1 : w10.cell? ⟨gb306, 1, none⟩ = some (.int .i64 a0_1) := (blk_cell BK306.out 1).trans rfl
      have hcz15_2 : w10.cell? ⟨gb306, 2, none⟩ = some (.string a0_2) := (blk_cell BK306.out 2).trans rfl
      have hfz15_0 := blk_frozen BK306.out 0
      have hfz15_1 := blk_frozen BK306.out 1
      have hfz15_2 := blk_frozen BK306.out 2
      go_wp2
      go_meet
      case rel => exact ⟨_, (true), rfs_, (by first | exact H' | (subst_vars; exact H')), ⟨ole_⟩, ⟨blk_⟩, ⟨bel_⟩⟩
     ·rw [if_neg c14] at H
      have c14b0 : decide (1 < a0_1) = false := decide_eq_false c14
      clear c14
      have H' := Aside0.mk H
      clear H
      have hcz16_0 : w10.cell? ⟨gb306, 0, none⟩ = some (.int .i64 a0_0) := (blk_cell BK306.out 0).trans rfl
      have hcz16_1 : w10.cell? ⟨gb306, 1, none⟩ = some (.int .i64 a0_1) := (blk_cell BK306.out 1).trans rfl
      have hcz16_2 : w10.cell? ⟨gb306, 2, none⟩ = some (.string a0_2) := (blk_cell BK306.out 2).trans rfl
      have hfz16_0 := blk_frozen BK306.out 0
      have hfz16_1 := blk_frozen BK306.out 1
      have hfz16_2 := blk_frozen BK306.out 2
      go_wp2
      go_meet
      case rel => exact ⟨_, ((t308.toList == ([] : List UInt8))), rfs_, (by first | exact H' | (subst_vars; exact H')), ⟨ole_⟩, ⟨blk_⟩, ⟨bel_⟩⟩
    ·rw [if_neg c13] at H
     have c13b0 : (a0_0 == 4) = false := beq_eq_false_iff_ne.mpr c13
     have c13b1 : (a0_0 != 4) = true := bne_iff_ne.mpr c13
     have H' := Aside0.mk H
     clear H
     have hcz17_0 : w10.cell? ⟨gb306, 0, none⟩ = some (.int .i64 a0_0) := (blk_cell BK306.out 0).trans rfl
     have hcz17_1 : w10.cell? ⟨gb306, 1, none⟩ = some (.int .i64 a0_1) := (blk_cell BK306.out 1).trans rfl
     have hcz17_2 : w10.cell? ⟨gb306, 2, none⟩ = some (.string a0_2) := (blk_cell BK306.out 2).trans rfl
     have hfz17_0 := blk_frozen BK306.out 0
     have hfz17_1 := blk_frozen BK306.out 1
     have hfz17_2 := blk_frozen BK306.out 2
     go_wp2
     go_meet
     case rel => exact ⟨_, (false), rfs_, (by first | exact H' | (subst_vars; exact H')), ⟨ole_⟩, ⟨blk_⟩, ⟨bel_⟩⟩
  case rest =>
   clear HC5
   try clear c1
   try clear p2
   try clear c3
   try clear c4
   try clear c11
   try clear c11b0
   try clear c11b1
   try clear c13
   try clear c13b0
   try clear c13b1
   try clear c14
   try clear c14b0
   try clear c16
   try clear hcz12_0
   try clear hcz12_1
   try clear hcz12_2
   try clear hcz15_0
   try clear hcz15_1
   try clear hcz15_2
   try clear hcz16_0
   try clear hcz16_1
   try clear hcz16_2
   try clear hcz17_0
   try clear hcz17_1
   try clear hcz17_2
   try clear hcz7_0
   try clear hcz7_1
   try clear hcz7_2
   try clear hcz9_0
   try clear hcz9_1
   try clear hcz9_2
   try clear hfz12_0
   try clear hfz12_1
   try clear hfz12_2
   try clear hfz15_0
   try clear hfz15_1
   try clear hfz15_2
   try clear hfz16_0
   try clear hfz16_1
   try clear hfz16_2
   try clear hfz17_0
   try clear hfz17_1
   try clear hfz17_2
   try clear hfz7_0
   try clear hfz7_1
   try clear hfz7_2
   try clear hfz9_0
   try clear hfz9_1
   try clear hfz9_2
   obtain ⟨kq, x26_4, rfl, HA, HJ4, BK306, HB⟩ := hcut
   cases kq with
   | zero => exact absurd HA.out (by simp [line_Text.j0])
   | succ kj4 =>
    have H := HA.out
    clear HA
    simp only [line_Text.j0] at H
    have HC18 := Aside0.mk H
    clear H
    go_upto_if 26 with (fail)
    go_cut [3] (fun v3 wc => ∃ (kq : Nat) (x3_17 : ByteArray), v3 = .string x3_17 ∧ Aside0 (line_Text.j1 kq x3_17 a0_0 a0_1 a0_2 = some r) ∧ Aside0 (kq ≤ kj4) ∧ Aside0 (wc.heap[gb306]? = some (.cells #[.int .i64 a0_0, .int .i64 a0_1, .string a0_2] 32 (0, 0))) ∧ Aside0 (Below w.heap.size w wc))
    case first =>
     have H := HC18.out
     clear HC18
     by_cases c19 : x26_4 = true
     ·subst c19
      rw [if_pos rfl] at H
      by_cases c20 : t308.toList = ([] : List UInt8)
      ·rw [if_pos c20] at H
       have c20b0 : (t308.toList == ([] : List UInt8)) = true := beq_iff_eq.mpr c20
       have c20b1 : (t308.toList != ([] : List UInt8)) = false := bne_eq_false_iff_eq.mpr c20
       clear c20
       (first | rw [c20b0] | (simp only [i64_w, i32_w]; rw [c20b0]) | skip)
       replace H := Option.bind_eq_some_iff.mp H
       obtain ⟨t309, A210, H⟩ := H
       try dsimp only at H
       have A21 := Aside0.mk A210
       clear A210
       by_cases c22 : t309.size + t308.size ≤ 9223372036854775807
       ·rw [if_pos c22] at H
        have c22b0 := eq_true c22
        have c22b1 : decide (t309.size + t308.size ≤ 9223372036854775807) = true := decide_eq_true c22
        try have c22b2 : (9223372036854775807 < t309.size + t308.size) = False := eq_false (Nat.not_lt.2 c22)
        have H' := Aside0.mk H
        clear H
        have hcz23_0 : wc.cell? ⟨gb306, 0, none⟩ = some (.int .i64 a0_0) := (blk_cell BK306.out 0).trans rfl
        have hcz23_1 : wc.cell? ⟨gb306, 1, none⟩ = some (.int .i64 a0_1) := (blk_cell BK306.out 1).trans rfl
        have hcz23_2 : wc.cell? ⟨gb306, 2, none⟩ = some (.string a0_2) := (blk_cell BK306.out 2).trans rfl
        have hfz23_0 := blk_frozen BK306.out 0
        have hfz23_1 := blk_frozen BK306.out 1
        have hfz23_2 := blk_frozen BK306.out 2
        go_wp2_with (first | ((with_reducible refine gate_callee (f := 41) rfl ?_); refine goesL_ (some 33) rfl rfl Tryz.func41 (by kernel_rfl) rfl #[.int .i64 a0_1] rfl goa_ ?_; (with_reducible refine (strconv_Itoa.calls a0_1 t309 _ A21.out (Tbl.tab0_stays HTB.out bel_)).mono ?_); rintro e w24 ⟨rfl, hb⟩; refine ⟨_, rfl, ?_⟩; have n0_ := blb_ BK306 hb; have n1_ := Aside0.mk (below_step bel_ hb); clear BK306; clear HB; have BK306 := n0_; have HB := n1_; clear n0_ n1_; clear hb))
        go_meet
        case rel => exact ⟨_, (t309 ++ t308), rfs_, H', ⟨by have := HJ4.out; first | omega | exact Nat.le_refl _⟩, ⟨blk_⟩, ⟨bel_⟩⟩
       ·rw [if_neg c22] at H
        exact absurd H (by simp)
      ·rw [if_neg c20] at H
       have c20b0 : (t308.toList == ([] : List UInt8)) = false := beq_eq_false_iff_ne.mpr c20
       have c20b1 : (t308.toList != ([] : List UInt8)) = true := bne_iff_ne.mpr c20
       (first | rw [c20b0] | (simp only [i64_w, i32_w]; rw [c20b0]) | skip)
       by_cases c25 : 1 + t308.size ≤ 9223372036854775807
       ·rw [if_pos c25] at H
        have c25b0 := eq_true c25
        have c25b1 : decide (1 + t308.size ≤ 9223372036854775807) = true := decide_eq_true c25
        try have c25b2 : (9223372036854775807 < 1 + t308.size) = False := eq_false (Nat.not_lt.2 c25)
        replace H := Option.bind_eq_some_iff.mp H
        obtain ⟨t310, A260, H⟩ := H
        try dsimp only at H
        have A26 := Aside0.mk A260
        clear A260
        by_cases c27 : t310.size + ((⟨#[32]⟩ : ByteArray) ++ t308).size ≤ 9223372036854775807
        ·rw [if_pos c27] at H
         have c27b0 := eq_true c27
         have c27b1 : decide (t310.size + ((⟨#[32]⟩ : ByteArray) ++ t308).size ≤ 9223372036854775807) = true := decide_eq_true c27
         try have c27b2 : (9223372036854775807 < t310.size + ((⟨#[32]⟩ : ByteArray) ++ t308).size) = False := eq_false (Nat.not_lt.2 c27)
         try have c27b3 : (9223372036854775807 < t310.size + (1 + t308.size)) = False := eq_false (Nat.not_lt.2 (by have h_ := c27; simp only [ByteArray.size_append] at h_; exact h_))
         have H' := Aside0.mk H
         clear H
         have hcz28_0 : wc.cell? ⟨gb306, 0, none⟩ = some (.int .i64 a0_0) := (blk_cell BK306.out 0).trans rfl
         have hcz28_1 : wc.cell? ⟨gb306, 1, none⟩ = some (.int .i64 a0_1) := (blk_cell BK306.out 1).trans rfl
         have hcz28_2 : wc.cell? ⟨gb306, 2, none⟩ = some (.string a0_2) := (blk_cell BK306.out 2).trans rfl
         have hfz28_0 := blk_frozen BK306.out 0
         have hfz28_1 := blk_frozen BK306.out 1
         have hfz28_2 := blk_frozen BK306.out 2
         go_wp2_with (first | ((with_reducible refine gate_callee (f := 41) rfl ?_); refine goesL_ (some 33) rfl rfl Tryz.func41 (by kernel_rfl) rfl #[.int .i64 a0_1] rfl goa_ ?_; (with_reducible refine (strconv_Itoa.calls a0_1 t310 _ A26.out (Tbl.tab0_stays HTB.out bel_)).mono ?_); rintro e w29 ⟨rfl, hb⟩; refine ⟨_, rfl, ?_⟩; have n0_ := blb_ BK306 hb; have n1_ := Aside0.mk (below_step bel_ hb); clear BK306; clear HB; have BK306 := n0_; have HB := n1_; clear n0_ n1_; clear hb))
         go_meet
         case rel => exact ⟨_, (t310 ++ ((⟨#[32]⟩ : ByteArray) ++ t308)), rfs_, H', ⟨by have := HJ4.out; first | omega | exact Nat.le_refl _⟩, ⟨blk_⟩, ⟨bel_⟩⟩
        ·rw [if_neg c27] at H
         exact absurd H (by simp)
       ·rw [if_neg c25] at H
        exact absurd H (by simp)
     ·replace c19 := Bool.eq_false_iff.mpr c19
      subst c19
      rw [if_neg (show ¬ (false = true) by decide)] at H
      have H' := Aside0.mk H
      clear H
      go_wp2
      go_meet
      case rel => exact ⟨_, (t308), rfs_, H', ⟨by have := HJ4.out; first | omega | exact Nat.le_refl _⟩, ⟨blk_⟩, ⟨bel_⟩⟩
    case rest =>
     clear HC18
     try clear c1
     try clear c2
     try clear p2
     try clear c3
     try clear c4
     try clear c11
     try clear c11b0
     try clear c11b1
     try clear c13
     try clear c13b0
     try clear c13b1
     try clear c14
     try clear c14b0
     try clear c16
     try clear c18
     try clear c19
     try clear c20
     try clear c20b0
     try clear c20b1
     try clear c22
     try clear c22b0
     try clear c22b1
     try clear c22b2
     try clear c25
     try clear c25b0
     try clear c25b1
     try clear c25b2
     try clear c27
     try clear c27b0
     try clear c27b1
     try clear c27b2
     try clear hcz12_0
     try clear hcz12_1
     try clear hcz12_2
     try clear hcz15_0
     try clear hcz15_1
     try clear hcz15_2
     try clear hcz16_0
     try clear hcz16_1
     try clear hcz16_2
     try clear hcz17_0
     try clear hcz17_1
     try clear hcz17_2
     try clear hcz23_0
     try clear hcz23_1
     try clear hcz23_2
     try clear hcz28_0
     try clear hcz28_1
     try clear hcz28_2
     try clear hcz7_0
     try clear hcz7_1
     try clear hcz7_2
     try clear hcz9_0
     try clear hcz9_1
     try clear hcz9_2
     try clear hfz12_0
     try clear hfz12_1
     try clear hfz12_2
     try clear hfz15_0
     try clear hfz15_1
     try clear hfz15_2
     try clear hfz16_0
     try clear hfz16_1
     try clear hfz16_2
     try clear hfz17_0
     try clear hfz17_1
     try clear hfz17_2
     try clear hfz23_0
     try clear hfz23_1
     try clear hfz23_2
     try clear hfz28_0
     try clear hfz28_1
     try clear hfz28_2
     try clear hfz7_0
     try clear hfz7_1
     try clear hfz7_2
     try clear hfz9_0
     try clear hfz9_1
     try clear hfz9_2
     try clear p2
     obtain ⟨kq, x3_17, rfl, HA, HJ17, BK306, HB⟩ := hcut
     cases kq with
     | zero => exact absurd HA.out (by simp [line_Text.j1])
     | succ kj17 =>
      have H := HA.out
      clear HA
      simp only [line_Text.j1] at H
      by_cases c30 : a0_0 = 1
      ·rw [if_pos c30] at H
       have c30b0 : (a0_0 == 1) = true := beq_iff_eq.mpr c30
       have c30b1 : (a0_0 != 1) = false := bne_eq_false_iff_eq.mpr c30
       clear c30
       obtain rfl := Option.some.inj H
       have hcz31_0 : wc.cell? ⟨gb306, 0, none⟩ = some (.int .i64 a0_0) := (blk_cell BK306.out 0).trans rfl
       have hcz31_1 : wc.cell? ⟨gb306, 1, none⟩ = some (.int .i64 a0_1) := (blk_cell BK306.out 1).trans rfl
       have hcz31_2 : wc.cell? ⟨gb306, 2, none⟩ = some (.string a0_2) := (blk_cell BK306.out 2).trans rfl
       have hfz31_0 := blk_frozen BK306.out 0
       have hfz31_1 := blk_frozen BK306.out 1
       have hfz31_2 := blk_frozen BK306.out 2
       go_wp2
       go_ret
       exact ⟨rsl_, bel_⟩
      ·rw [if_neg c30] at H
       have c30b0 : (a0_0 == 1) = false := beq_eq_false_iff_ne.mpr c30
       have c30b1 : (a0_0 != 1) = true := bne_iff_ne.mpr c30
       by_cases c32 : a0_0 = 4
       ·rw [if_pos c32] at H
        have c32b0 : (a0_0 == 4) = true := beq_iff_eq.mpr c32
        have c32b1 : (a0_0 != 4) = false := bne_eq_false_iff_eq.mpr c32
        clear c32
        by_cases c33 : 5 + x3_17.size ≤ 9223372036854775807
        ·rw [if_pos c33] at H
         have c33b0 := eq_true c33
         have c33b1 : decide (5 + x3_17.size ≤ 9223372036854775807) = true := decide_eq_true c33
         try have c33b2 : (9223372036854775807 < 5 + x3_17.size) = False := eq_false (Nat.not_lt.2 c33)
         obtain rfl := Option.some.inj H
         have hcz34_0 : wc.cell? ⟨gb306, 0, none⟩ = some (.int .i64 a0_0) := (blk_cell BK306.out 0).trans rfl
         have hcz34_1 : wc.cell? ⟨gb306, 1, none⟩ = some (.int .i64 a0_1) := (blk_cell BK306.out 1).trans rfl
         have hcz34_2 : wc.cell? ⟨gb306, 2, none⟩ = some (.string a0_2) := (blk_cell BK306.out 2).trans rfl
         have hfz34_0 := blk_frozen BK306.out 0
         have hfz34_1 := blk_frozen BK306.out 1
         have hfz34_2 := blk_frozen BK306.out 2
         go_wp2
         go_ret
         exact ⟨rsl_, bel_⟩
        ·rw [if_neg c33] at H
         exact absurd H (by simp)
       ·rw [if_neg c32] at H
        have c32b0 : (a0_0 == 4) = false := beq_eq_false_iff_ne.mpr c32
        have c32b1 : (a0_0 != 4) = true := bne_iff_ne.mpr c32
        obtain rfl := Option.some.inj H
        have hcz35_0 : wc.cell? ⟨gb306, 0, none⟩ = some (.int .i64 a0_0) := (blk_cell BK306.out 0).trans rfl
        have hcz35_1 : wc.cell? ⟨gb306, 1, none⟩ = some (.int .i64 a0_1) := (blk_cell BK306.out 1).trans rfl
        have hcz35_2 : wc.cell? ⟨gb306, 2, none⟩ = some (.string a0_2) := (blk_cell BK306.out 2).trans rfl
        have hfz35_0 := blk_frozen BK306.out 0
        have hfz35_1 := blk_frozen BK306.out 1
        have hfz35_2 := blk_frozen BK306.out 2
        go_wp2
        go_ret
        exact ⟨rsl_, bel_⟩
 ·replace c3 := Bool.eq_false_iff.mpr c3
  subst c3
  rw [if_neg (show ¬ (false = true) by decide)] at H
  obtain rfl := Option.some.inj H
  go_enter Tryz.func18, Tryz.ntmps18
  go_wp2_with (first | ((with_reducible refine gate_dst (N := 1) rfl ?_); refine box_event ?hg (N := 1) ?hd (cs := #[.int .i64 a0_0, .int .i64 a0_1, .string a0_2]) (t := 32) ?hr ?_; (case hd => rfl); (case hg => rfl); (case hr => first | (go_simp; done) | (go_simp; rfl)); intro gb306 hg w36 hbox hb; have n0_ := Aside0.mk (below_step bel_ hb); have n1_ := Aside0.mk (hbox); have n2_ := Aside0.mk ((bsz_ hg : w.heap.size ≤ gb306)); have n3_ := Aside0.mk ((bsz_ hg : w.heap.size ≤ gb306)); clear HB; have HB := n0_; have BK306 := n1_; have GW306 := n2_; have GE306 := n3_; clear n0_ n1_ n2_ n3_; clear hb hbox hg; have hcz37_0 : w36.cell? ⟨gb306, 0, none⟩ = some (.int .i64 a0_0) := (blk_cell BK306.out 0).trans rfl; have hcz37_1 : w36.cell? ⟨gb306, 1, none⟩ = some (.int .i64 a0_1) := (blk_cell BK306.out 1).trans rfl; have hcz37_2 : w36.cell? ⟨gb306, 2, none⟩ = some (.string a0_2) := (blk_cell BK306.out 2).trans rfl; have hfz37_0 := blk_frozen BK306.out 0; have hfz37_1 := blk_frozen BK306.out 1; have hfz37_2 := blk_frozen BK306.out 2) | ((with_reducible refine gate_callee (f := 16) rfl ?_); refine goesL_ (some 5) rfl rfl Tryz.func16 (by kernel_rfl) rfl #[.agg #[.int .i64 a0_0, .int .i64 a0_1, .string a0_2]] rfl goa_ ?_; (with_reducible refine (line_Good.calls k a0_0 a0_1 a0_2 false _ A2.out).mono ?_); rintro e w38 ⟨rfl, hb⟩; refine ⟨_, rfl, ?_⟩; have n0_ := blb_ BK306 hb; have n1_ := Aside0.mk (below_step bel_ hb); clear BK306; clear HB; have BK306 := n0_; have HB := n1_; clear n0_ n1_; clear hb))
  go_ret
  exact ⟨rsl_, bel_⟩

end Go.Proofs.YtofdhdafabmhmaaGreatDoor.PLt
end
section
namespace Go.Proofs.YtofdhdafabmhmaaGreatDoor.PLt
open Go.RowKit Go.Proofs.YtofdhdafabmhmaaGreatDoorW.PrintWords Go.Proofs.YtofdhdafabmhmaaGreatDoorW.PrintLast Go.Proofs.YtofdhdafabmhmaaGreatDoorW.PrintMore
attribute [local go_sem] max2_int min2_int max_two min_two max_three min_three max_four min_four
open Go.Proofs.YtofdhdafabmhmaaGreatDoor.Opn Go.Proofs.YtofdhdafabmhmaaGreatDoor.Giv

/-! ### parterreref01_Is: function 76 -/
def parterreref01_Is.f (a0 : Int) : Option (Bool) := if a0 ≥ (-68719476736) then (some (decide (a0 ≤ 68719476736))) else (some false)
set_option maxHeartbeats 8000000 in
set_option maxRecDepth 100000 in
theorem parterreref01_Is.calls (a0 : Int) (r : Bool) (w : World) (h : parterreref01_Is.f a0 = some r) :
  Calls Tryz.prog 76 #[.int .i64 a0] w fun e w' => e = .returned (.bool r) ∧ Drawn0 w w' := by
 have H : (if a0 ≥ (-68719476736) then (some (decide (a0 ≤ 68719476736))) else (some false)) = some r := h
 clear h
 by_cases c2 : a0 ≥ (-68719476736)
 ·rw [if_pos c2] at H
  have c2b0 : decide ((-68719476736) ≤ a0) = true := decide_eq_true c2
  clear c2
  obtain rfl := Option.some.inj H
  go_enter Tryz.func76, Tryz.ntmps76
  go_wp2
  go_ret
  exact ⟨by first | rfl | (simp; done) | (simp [*]; done), drs_⟩
 ·rw [if_neg c2] at H
  have c2b0 : decide ((-68719476736) ≤ a0) = false := decide_eq_false c2
  clear c2
  obtain rfl := Option.some.inj H
  go_enter Tryz.func76, Tryz.ntmps76
  go_wp2
  go_ret
  exact ⟨by first | rfl | (simp; done) | (simp [*]; done), drs_⟩

/-! ### parterreref02_Whole: function 77 -/
def parterreref02_Whole.l0 : Nat → Int → ByteArray → Option (ByteArray)
 | 0, _, _ => none
 | k + 1, x0, x3 => (some (([(wrap64 (48 + (Int.tmod x0 10))) % 256] : List Int) : List Int)).bind fun y311 => (if (strOfNums y311).size + x3.size ≤ 9223372036854775807 then (if (wrap64 (Int.tdiv x0 10)) = 0 then (some ((strOfNums y311) ++ x3)) else (parterreref02_Whole.l0 k (wrap64 (Int.tdiv x0 10)) ((strOfNums y311) ++ x3))) else (none))
def parterreref02_Whole.f (k : Nat) (a0 : Int) : Option (ByteArray) := parterreref02_Whole.l0 k a0 (⟨#[]⟩ : ByteArray)
theorem parterreref02_Whole.mono_l : ∀ k, (∀ y0 y1, LeO (parterreref02_Whole.l0 k y0 y1) (parterreref02_Whole.l0 (k + 1) y0 y1))
 | 0 => fun _ _ r h => by simp [parterreref02_Whole.l0] at h
 | k + 1 => by
  have ih0 := parterreref02_Whole.mono_l k
  ·intro y0 y1
   unfold parterreref02_Whole.l0
   repeat' first
   | (with_reducible exact ih0 _ _)
   | (with_reducible exact LeO.refl _)
   | (with_reducible exact LeO.none _)
   | (with_reducible refine LeO.ite ?_ ?_)
   | (with_reducible refine LeO.bind ?_ (fun _ => ?_))
theorem parterreref02_Whole.mono : ∀ a0 k, LeO (parterreref02_Whole.f k a0) (parterreref02_Whole.f (k + 1) a0) := by
 intro a0 k
 have ih0 := parterreref02_Whole.mono_l k
 unfold parterreref02_Whole.f
 repeat' first
   | (with_reducible exact ih0 _ _)
   | (with_reducible exact LeO.refl _)
   | (with_reducible exact LeO.none _)
   | (with_reducible refine LeO.ite ?_ ?_)
   | (with_reducible refine LeO.bind ?_ (fun _ => ?_))
set_option maxHeartbeats 8000000 in
set_option maxRecDepth 100000 in
theorem parterreref02_Whole.calls (k : Nat) (a0 : Int) (r : ByteArray) (w : World) (h : parterreref02_Whole.f k a0 = some r) :
  Calls Tryz.prog 77 #[.int .i64 a0] w fun e w' => e = .returned (.string r) ∧ Below w.heap.size w w' := by
 have HB := Aside0.mk (Below.refl w.heap.size w)
 have H : (parterreref02_Whole.l0 k a0 (⟨#[]⟩ : ByteArray)) = some r := h
 clear h
 have H' := Aside0.mk H
 clear H
 go_enter Tryz.func77, Tryz.ntmps77
 go_wp2
 go_loopg [0, 3] k (fun kq v0 v3 w' => ∃ (x0_1 : Int) (x3_1 : ByteArray), v0 = .int .i64 x0_1 ∧ v3 = .string x3_1 ∧ Aside0 (parterreref02_Whole.l0 kq x0_1 x3_1 = some r) ∧ Aside0 (kq ≤ k) ∧ Aside0 (Below w.heap.size w w'))
 case atStart => exact ⟨(a0), ((⟨#[]⟩ : ByteArray)), rfs_, rfs_, H', ⟨Nat.le_refl _⟩, ⟨bel_⟩⟩
 case round =>
  clear H'
  obtain ⟨x0_1, x3_1, rfl, rfl, HA, HK1, HB⟩ := hrel
  cases gk with
  | zero => exact absurd HA.out (by simp [parterreref02_Whole.l0])
  | succ k1 =>
   have H := HA.out
   clear HA
   simp only [parterreref02_Whole.l0] at H
   obtain ⟨y311, hy311⟩ : ∃ y_ : List Int, y_ = (([(wrap64 (48 + (Int.tmod x0_1 10))) % 256] : List Int)) := ⟨_, rfl⟩
   replace H : (if (strOfNums y311).size + x3_1.size ≤ 9223372036854775807 then (if (wrap64 (Int.tdiv x0_1 10)) = 0 then (some ((strOfNums y311) ++ x3_1)) else (parterreref02_Whole.l0 k1 (wrap64 (Int.tdiv x0_1 10)) ((strOfNums y311) ++ x3_1))) else (none)) = some r := by first | (rw [hy311]; with_reducible exact H) | (have H2_ := (Option.bind_some _ _).symm.trans H; rw [hy311]; with_reducible exact H2_) | (have H2_ := (Option.bind_some _ _).symm.trans H; with_reducible exact H2_) | with_reducible exact H | (rw [hy311]; exact H) | exact H
   have Ny311 := Aside0.mk hy311
   clear hy311
   by_cases c2 : (strOfNums y311).size + x3_1.size ≤ 9223372036854775807
   ·rw [if_pos c2] at H
    have c2b0 := eq_true c2
    have c2b1 : decide ((strOfNums y311).size + x3_1.size ≤ 9223372036854775807) = true := decide_eq_true c2
    try have c2b2 : (9223372036854775807 < (strOfNums y311).size + x3_1.size) = False := eq_false (Nat.not_lt.2 c2)
    by_cases c3 : (wrap64 (Int.tdiv x0_1 10)) = 0
    ·rw [if_pos c3] at H
     have c3b0 : ((wrap64 (Int.tdiv x0_1 10)) == 0) = true := beq_iff_eq.mpr c3
     have c3b1 : ((wrap64 (Int.tdiv x0_1 10)) != 0) = false := bne_eq_false_iff_eq.mpr c3
     clear c3
     obtain rfl := Option.some.inj H
     go_wp2_with (first | ((with_reducible refine gate_dst (N := 8) rfl ?_); refine Kd.R_lit (Kd.int .u8) _ 5 ?hg (N := 8) ?hd (xs := ([(wrap64 (48 + (Int.tmod x0_1 10))) % 256] : List Int)) (inner := [.int .u8 ((wrap64 (48 + (Int.tmod x0_1 10))) % 256)]) (ok := fun _ => True) (okp := fun _ => True) ?hr ?hp (fun _ hk => hk) trivial (Below.refl _ _) (Nat.le_refl _) (by simp) ?_; (case hd => rfl); (case hg => rfl); (case hr => first | (go_simp; done) | (go_simp; rfl)); (case hp => exact (Reps.one (show Kd.M (Kd.int .u8) _ _ _ ((wrap64 (48 + (Int.tmod x0_1 10))) % 256) [.int .u8 ((wrap64 (48 + (Int.tmod x0_1 10))) % 256)] from rfl) (Reps.none _ _))); intro v312 w4 ho5 hb hg_ hnew_; clear hg_ hnew_; (first | rw [← Ny311.out] at ho5 | (simp only [Int.reduceToNat] at ho5; rw [← Ny311.out] at ho5)); have n0_ := Aside0.mk (Kd.R_lower ho5 (below_size bel_)); have n1_ := Aside0.mk (below_step bel_ hb); clear HB; have HO313 := n0_; have HB := n1_; clear n0_ n1_; clear hb ho5; have hcv6 := own_string (P := Tryz.prog) Tryz.underlying67 Tryz.underlying5 Tryz.underlying9 (Kd.own_of_R HO313.out)))
     go_ret
     exact ⟨rsl_, bel_⟩
    ·rw [if_neg c3] at H
     have c3b0 : ((wrap64 (Int.tdiv x0_1 10)) == 0) = false := beq_eq_false_iff_ne.mpr c3
     have c3b1 : ((wrap64 (Int.tdiv x0_1 10)) != 0) = true := bne_iff_ne.mpr c3
     have H' := Aside0.mk H
     clear H
     go_wp2_with (first | ((with_reducible refine gate_dst (N := 8) rfl ?_); refine Kd.R_lit (Kd.int .u8) _ 5 ?hg (N := 8) ?hd (xs := ([(wrap64 (48 + (Int.tmod x0_1 10))) % 256] : List Int)) (inner := [.int .u8 ((wrap64 (48 + (Int.tmod x0_1 10))) % 256)]) (ok := fun _ => True) (okp := fun _ => True) ?hr ?hp (fun _ hk => hk) trivial (Below.refl _ _) (Nat.le_refl _) (by simp) ?_; (case hd => rfl); (case hg => rfl); (case hr => first | (go_simp; done) | (go_simp; rfl)); (case hp => exact (Reps.one (show Kd.M (Kd.int .u8) _ _ _ ((wrap64 (48 + (Int.tmod x0_1 10))) % 256) [.int .u8 ((wrap64 (48 + (Int.tmod x0_1 10))) % 256)] from rfl) (Reps.none _ _))); intro v312 w7 ho8 hb hg_ hnew_; clear hg_ hnew_; (first | rw [← Ny311.out] at ho8 | (simp only [Int.reduceToNat] at ho8; rw [← Ny311.out] at ho8)); have n0_ := Aside0.mk (Kd.R_lower ho8 (below_size bel_)); have n1_ := Aside0.mk (below_step bel_ hb); clear HB; have HO313 := n0_; have HB := n1_; clear n0_ n1_; clear hb ho8; have hcv9 := own_string (P := Tryz.prog) Tryz.underlying67 Tryz.underlying5 Tryz.underlying9 (Kd.own_of_R HO313.out)))
     go_roundg k1
     case measure => have := HK1.out; omega
     case rel => exact ⟨(wrap64 (Int.tdiv x0_1 10)), ((strOfNums y311) ++ x3_1), rfs_, rfs_, H', ⟨by have := HK1.out; omega⟩, ⟨bel_⟩⟩
   ·rw [if_neg c2] at H
    exact absurd H (by simp)

end Go.Proofs.YtofdhdafabmhmaaGreatDoor.PLt
end
section
namespace Go.Proofs.YtofdhdafabmhmaaGreatDoor.PLt
open Go.RowKit Go.Proofs.YtofdhdafabmhmaaGreatDoorW.PrintWords Go.Proofs.YtofdhdafabmhmaaGreatDoorW.PrintLast Go.Proofs.YtofdhdafabmhmaaGreatDoorW.PrintMore
attribute [local go_sem] max2_int min2_int max_two min_two max_three min_three max_four min_four
open Go.Proofs.YtofdhdafabmhmaaGreatDoor.Opn Go.Proofs.YtofdhdafabmhmaaGreatDoor.Giv

/-! ### parterreref02_Text: function 42 -/
mutual
def parterreref02_Text.j0 : Nat → Int → Int → Bool → Option (ByteArray)
 | 0, _, _, _ => none
 | k + 1, x0, x1, x21 => if x21 = true then (some (⟨#[]⟩ : ByteArray)) else (if x0 < 0 then (parterreref02_Text.j1 k (wrap64 (-x0)) x1 (⟨#[45]⟩ : ByteArray)) else (parterreref02_Text.j1 k x0 x1 (⟨#[]⟩ : ByteArray)))
def parterreref02_Text.j1 : Nat → Int → Int → ByteArray → Option (ByteArray)
 | 0, _, _, _ => none
 | k + 1, x0, x1, x5 => if x1 = 0 then (none) else ((parterreref02_Whole.f k (wrap64 (Int.tdiv x0 x1))).bind fun t315 => (if x5.size + t315.size ≤ 9223372036854775807 then (if (Int.tmod x0 x1) > 0 then (if (x5 ++ t315).size + 1 ≤ 9223372036854775807 then (parterreref02_Text.j2 k x1 ((x5 ++ t315) ++ (⟨#[46]⟩ : ByteArray)) (Int.tmod x0 x1)) else (none)) else (parterreref02_Text.j2 k x1 (x5 ++ t315) (Int.tmod x0 x1))) else (none)))
def parterreref02_Text.j2 : Nat → Int → ByteArray → Int → Option (ByteArray)
 | 0, _, _, _ => none
 | k + 1, x1, x5, x6 => parterreref02_Text.l0 k x1 x5 x6
def parterreref02_Text.l0 : Nat → Int → ByteArray → Int → Option (ByteArray)
 | 0, _, _, _ => none
 | k + 1, x1, x5, x6 => if x6 > 0 then (if x1 = 0 then (none) else ((parterreref02_Whole.f k (wrap64 (Int.tdiv (wrap64 (10 * x6)) x1))).bind fun t316 => (if x5.size + t316.size ≤ 9223372036854775807 then (parterreref02_Text.l0 k x1 (x5 ++ t316) (Int.tmod (wrap64 (10 * x6)) x1)) else (none)))) else (some x5)
end
def parterreref02_Text.f (k : Nat) (a0 : Int) (a1 : Int) : Option (ByteArray) := (parterreref01_Is.f a0).bind fun t314 => (if t314 = true then (if a1 = 1 then (parterreref02_Text.j0 k a0 a1 false) else (if a1 = 64 then (parterreref02_Text.j0 k a0 a1 false) else (parterreref02_Text.j0 k a0 a1 (a1 != 1000)))) else (parterreref02_Text.j0 k a0 a1 true))
theorem parterreref02_Text.mono_l : ∀ k, (∀ y0 y1 y2, LeO (parterreref02_Text.j0 k y0 y1 y2) (parterreref02_Text.j0 (k + 1) y0 y1 y2)) ∧ (∀ y0 y1 y2, LeO (parterreref02_Text.j1 k y0 y1 y2) (parterreref02_Text.j1 (k + 1) y0 y1 y2)) ∧ (∀ y0 y1 y2, LeO (parterreref02_Text.j2 k y0 y1 y2) (parterreref02_Text.j2 (k + 1) y0 y1 y2)) ∧ (∀ y0 y1 y2, LeO (parterreref02_Text.l0 k y0 y1 y2) (parterreref02_Text.l0 (k + 1) y0 y1 y2))
 | 0 => ⟨fun _ _ _ r h => by simp [parterreref02_Text.j0] at h, fun _ _ _ r h => by simp [parterreref02_Text.j1] at h, fun _ _ _ r h => by simp [parterreref02_Text.j2] at h, fun _ _ _ r h => by simp [parterreref02_Text.l0] at h⟩
 | k + 1 => by
  obtain ⟨ih0, ih1, ih2, ih3⟩ := parterreref02_Text.mono_l k
  refine ⟨?_, ?_, ?_, ?_⟩
  ·intro y0 y1 y2
   unfold parterreref02_Text.j0
   repeat' first
   | (with_reducible exact ih0 _ _ _)
   | (with_reducible exact ih1 _ _ _)
   | (with_reducible exact ih2 _ _ _)
   | (with_reducible exact ih3 _ _ _)
   | (with_reducible exact parterreref02_Whole.mono _ _)
   | (with_reducible exact LeO.refl _)
   | (with_reducible exact LeO.none _)
   | (with_reducible refine LeO.ite ?_ ?_)
   | (with_reducible refine LeO.bind ?_ (fun _ => ?_))
  ·intro y0 y1 y2
   unfold parterreref02_Text.j1
   repeat' first
   | (with_reducible exact ih0 _ _ _)
   | (with_reducible exact ih1 _ _ _)
   | (with_reducible exact ih2 _ _ _)
   | (with_reducible exact ih3 _ _ _)
   | (with_reducible exact parterreref02_Whole.mono _ _)
   | (with_reducible exact LeO.refl _)
   | (with_reducible exact LeO.none _)
   | (with_reducible refine LeO.ite ?_ ?_)
   | (with_reducible refine LeO.bind ?_ (fun _ => ?_))
  ·intro y0 y1 y2
   unfold parterreref02_Text.j2
   repeat' first
   | (with_reducible exact ih0 _ _ _)
   | (with_reducible exact ih1 _ _ _)
   | (with_reducible exact ih2 _ _ _)
   | (with_reducible exact ih3 _ _ _)
   | (with_reducible exact parterreref02_Whole.mono _ _)
   | (with_reducible exact LeO.refl _)
   | (with_reducible exact LeO.none _)
   | (with_reducible refine LeO.ite ?_ ?_)
   | (with_reducible refine LeO.bind ?_ (fun _ => ?_))
  ·intro y0 y1 y2
   unfold parterreref02_Text.l0
   repeat' first
   | (with_reducible exact ih0 _ _ _)
   | (with_reducible exact ih1 _ _ _)
   | (with_reducible exact ih2 _ _ _)
   | (with_reducible exact ih3 _ _ _)
   | (with_reducible exact parterreref02_Whole.mono _ _)
   | (with_reducible exact LeO.refl _)
   | (with_reducible exact LeO.none _)
   | (with_reducible refine LeO.ite ?_ ?_)
   | (with_reducible refine LeO.bind ?_ (fun _ => ?_))
theorem parterreref02_Text.mono : ∀ a0 a1 k, LeO (parterreref02_Text.f k a0 a1) (parterreref02_Text.f (k + 1) a0 a1) := by
 intro a0 a1 k
 obtain ⟨ih0, ih1, ih2, ih3⟩ := parterreref02_Text.mono_l k
 unfold parterreref02_Text.f
 repeat' first
   | (with_reducible exact ih0 _ _ _)
   | (with_reducible exact ih1 _ _ _)
   | (with_reducible exact ih2 _ _ _)
   | (with_reducible exact ih3 _ _ _)
   | (with_reducible exact parterreref02_Whole.mono _ _)
   | (with_reducible exact LeO.refl _)
   | (with_reducible exact LeO.none _)
   | (with_reducible refine LeO.ite ?_ ?_)
   | (with_reducible refine LeO.bind ?_ (fun _ => ?_))
set_option maxHeartbeats 8000000 in
set_option maxRecDepth 100000 in
theorem parterreref02_Text.calls (k : Nat) (a0 : Int) (a1 : Int) (r : ByteArray) (w : World) (h : parterreref02_Text.f k a0 a1 = some r) :
  Calls Tryz.prog 42 #[.int .i64 a0, .int .i64 a1] w fun e w' => e = .returned (.string r) ∧ Below w.heap.size w w' := by
 have HB := Aside0.mk (Below.refl w.heap.size w)
 have H : ((parterreref01_Is.f a0).bind fun t314 => (if t314 = true then (if a1 = 1 then (parterreref02_Text.j0 k a0 a1 false) else (if a1 = 64 then (parterreref02_Text.j0 k a0 a1 false) else (parterreref02_Text.j0 k a0 a1 (a1 != 1000)))) else (parterreref02_Text.j0 k a0 a1 true))) = some r := h
 clear h
 have HC3 := Aside0.mk H
 clear H
 go_enter Tryz.func42, Tryz.ntmps42
 go_upto_region 1 with (fail)
 go_cut [21] (fun v21 wc => ∃ (kq : Nat) (x21_2 : Bool), v21 = .bool x21_2 ∧ Aside0 (parterreref02_Text.j0 kq a0 a1 x21_2 = some r) ∧ Aside0 (kq ≤ k) ∧ Aside0 (Below w.heap.size w wc))
 case first =>
  have H := HC3.out
  clear HC3
  replace H := Option.bind_eq_some_iff.mp H
  obtain ⟨t314, A40, H⟩ := H
  try dsimp only at H
  have A4 := Aside0.mk A40
  clear A40
  by_cases c5 : t314 = true
  ·subst c5
   rw [if_pos rfl] at H
   by_cases c6 : a1 = 1
   ·rw [if_pos c6] at H
    have c6b0 : (a1 == 1) = true := beq_iff_eq.mpr c6
    have c6b1 : (a1 != 1) = false := bne_eq_false_iff_eq.mpr c6
    clear c6
    (first | rw [c6b0] | (simp only [i64_w, i32_w]; rw [c6b0]) | skip)
    have H' := Aside0.mk H
    clear H
    go_wp2_with (first | ((with_reducible refine gate_callee (f := 76) rfl ?_); refine goesL_ (some 8) rfl rfl Tryz.func76 (by kernel_rfl) rfl #[.int .i64 a0] rfl goa_ ?_; (with_reducible refine (parterreref01_Is.calls a0 true _ A4.out).mono ?_); rintro e w' ⟨rfl, ⟨nd, rfl⟩⟩; refine ⟨_, rfl, ?_⟩))
    go_meet
    case rel => exact ⟨_, (false), rfs_, (by first | exact H' | (subst_vars; exact H')), ⟨ole_⟩, ⟨bel_⟩⟩
   ·rw [if_neg c6] at H
    have c6b0 : (a1 == 1) = false := beq_eq_false_iff_ne.mpr c6
    have c6b1 : (a1 != 1) = true := bne_iff_ne.mpr c6
    (first | rw [c6b0] | (simp only [i64_w, i32_w]; rw [c6b0]) | skip)
    by_cases c7 : a1 = 64
    ·rw [if_pos c7] at H
     have c7b0 : (a1 == 64) = true := beq_iff_eq.mpr c7
     have c7b1 : (a1 != 64) = false := bne_eq_false_iff_eq.mpr c7
     clear c7
     have H' := Aside0.mk H
     clear H
     go_wp2_with (first | ((with_reducible refine gate_callee (f := 76) rfl ?_); refine goesL_ (some 8) rfl rfl Tryz.func76 (by kernel_rfl) rfl #[.int .i64 a0] rfl goa_ ?_; (with_reducible refine (parterreref01_Is.calls a0 true _ A4.out).mono ?_); rintro e w' ⟨rfl, ⟨nd, rfl⟩⟩; refine ⟨_, rfl, ?_⟩))
     go_meet
     case rel => exact ⟨_, (false), rfs_, (by first | exact H' | (subst_vars; exact H')), ⟨ole_⟩, ⟨bel_⟩⟩
    ·rw [if_neg c7] at H
     have c7b0 : (a1 == 64) = false := beq_eq_false_iff_ne.mpr c7
     have c7b1 : (a1 != 64) = true := bne_iff_ne.mpr c7
     have H' := Aside0.mk H
     clear H
     go_wp2_with (first | ((with_reducible refine gate_callee (f := 76) rfl ?_); refine goesL_ (some 8) rfl rfl Tryz.func76 (by kernel_rfl) rfl #[.int .i64 a0] rfl goa_ ?_; (with_reducible refine (parterreref01_Is.calls a0 true _ A4.out).mono ?_); rintro e w' ⟨rfl, ⟨nd, rfl⟩⟩; refine ⟨_, rfl, ?_⟩))
     go_meet
     case rel => exact ⟨_, ((a1 != 1000)), rfs_, (by first | exact H' | (subst_vars; exact H')), ⟨ole_⟩, ⟨bel_⟩⟩
  ·replace c5 := Bool.eq_false_iff.mpr c5
   subst c5
   rw [if_neg (show ¬ (false = true) by decide)] at H
   have H' := Aside0.mk H
   clear H
   go_wp2_with (first | ((with_reducible refine gate_callee (f := 76) rfl ?_); refine goesL_ (some 8) rfl rfl Tryz.func76 (by kernel_rfl) rfl #[.int .i64 a0] rfl goa_ ?_; (with_reducible refine (parterreref01_Is.calls a0 false _ A4.out).mono ?_); rintro e w' ⟨rfl, ⟨nd, rfl⟩⟩; refine ⟨_, rfl, ?_⟩))
   go_meet
   case rel => exact ⟨_, (true), rfs_, (by first | exact H' | (subst_vars; exact H')), ⟨ole_⟩, ⟨bel_⟩⟩
 case rest =>
  clear HC3
  try clear p2
  try clear c4
  try clear c5
  try clear c6
  try clear c6b0
  try clear c6b1
  try clear c7
  try clear c7b0
  try clear c7b1
  obtain ⟨kq, x21_2, rfl, HA, HJ2, HB⟩ := hcut
  cases kq with
  | zero => exact absurd HA.out (by simp [parterreref02_Text.j0])
  | succ kj2 =>
   have H := HA.out
   clear HA
   simp only [parterreref02_Text.j0] at H
   by_cases c8 : x21_2 = true
   ·subst c8
    rw [if_pos rfl] at H
    obtain rfl := Option.some.inj H
    go_wp2
    go_ret
    exact ⟨rsl_, bel_⟩
   ·replace c8 := Bool.eq_false_iff.mpr c8
    subst c8
    rw [if_neg (show ¬ (false = true) by decide)] at H
    have HC9 := Aside0.mk H
    clear H
    go_upto_if 23 with (fail)
    go_cut [0, 5] (fun v0 v5 wc => ∃ (kq : Nat) (x0_8 : Int) (x5_8 : ByteArray), v0 = .int .i64 x0_8 ∧ v5 = .string x5_8 ∧ Aside0 (parterreref02_Text.j1 kq x0_8 a1 x5_8 = some r) ∧ Aside0 (kq ≤ kj2) ∧ Aside0 (Below w.heap.size w wc))
    case first =>
     have H := HC9.out
     clear HC9
     by_cases c10 : a0 < 0
     ·rw [if_pos c10] at H
      have c10b0 : decide (a0 < 0) = true := decide_eq_true c10
      clear c10
      (first | rw [c10b0] | (simp only [i64_w, i32_w]; rw [c10b0]) | skip)
      have H' := Aside0.mk H
      clear H
      go_wp2
      go_meet
      case rel => exact ⟨_, (wrap64 (-a0)), ((⟨#[45]⟩ : ByteArray)), rfs_, rfs_, H', ⟨by have := HJ2.out; first | omega | exact Nat.le_refl _⟩, ⟨bel_⟩⟩
     ·rw [if_neg c10] at H
      have c10b0 : decide (a0 < 0) = false := decide_eq_false c10
      clear c10
      (first | rw [c10b0] | (simp only [i64_w, i32_w]; rw [c10b0]) | skip)
      have H' := Aside0.mk H
      clear H
      go_wp2
      go_meet
      case rel => exact ⟨_, (a0), ((⟨#[]⟩ : ByteArray)), rfs_, rfs_, H', ⟨by have := HJ2.out; first | omega | exact Nat.le_refl _⟩, ⟨bel_⟩⟩
    case rest =>
     clear HC9
     try clear c1
     try clear p2
     try clear c4
     try clear c5
     try clear c6
     try clear c6b0
     try clear c6b1
     try clear p6
     try clear c7
     try clear c7b0
     try clear c7b1
     try clear c8
     try clear c10
     try clear c10b0
     try clear p2
     obtain ⟨kq, x0_8, x5_8, rfl, rfl, HA, HJ8, HB⟩ := hcut
     cases kq with
     | zero => exact absurd HA.out (by simp [parterreref02_Text.j1])
     | succ kj8 =>
      have H := HA.out
      clear HA
      simp only [parterreref02_Text.j1] at H
      by_cases c11 : a1 = 0
      ·rw [if_pos c11] at H
       exact absurd H (by simp)
      ·rw [if_neg c11] at H
       have c11b0 : (a1 == 0) = false := beq_eq_false_iff_ne.mpr c11
       have c11b1 : (a1 != 0) = true := bne_iff_ne.mpr c11
       replace H := Option.bind_eq_some_iff.mp H
       obtain ⟨t315, A120, H⟩ := H
       try dsimp only at H
       have A12 := Aside0.mk A120
       clear A120
       by_cases c13 : x5_8.size + t315.size ≤ 9223372036854775807
       ·rw [if_pos c13] at H
        have c13b0 := eq_true c13
        have c13b1 : decide (x5_8.size + t315.size ≤ 9223372036854775807) = true := decide_eq_true c13
        try have c13b2 : (9223372036854775807 < x5_8.size + t315.size) = False := eq_false (Nat.not_lt.2 c13)
        have HC14 := Aside0.mk H
        clear H
        go_upto_if 36 with (first | ((with_reducible refine gate_callee (f := 77) rfl ?_); refine goesL_ (some 30) rfl rfl Tryz.func77 (by kernel_rfl) rfl #[.int .i64 (wrap64 (Int.tdiv x0_8 a1))] rfl goa_ ?_; (with_reducible refine (parterreref02_Whole.calls kj8 (wrap64 (Int.tdiv x0_8 a1)) t315 _ A12.out).mono ?_); rintro e w15 ⟨rfl, hb⟩; refine ⟨_, rfl, ?_⟩; have n0_ := Aside0.mk (below_step bel_ hb); clear HB; have HB := n0_; clear n0_; clear hb))
        (try simp only [Act.put, List.setIfInBounds_toArray, List.set_cons_zero, List.set_cons_succ])
        go_cut [5] (fun v5 wc => ∃ (kq : Nat) (x5_13 : ByteArray), v5 = .string x5_13 ∧ Aside0 (parterreref02_Text.j2 kq a1 x5_13 (Int.tmod x0_8 a1) = some r) ∧ Aside0 (kq ≤ kj8) ∧ Aside0 (Below w.heap.size w wc))
        case first =>
         have H := HC14.out
         clear HC14
         by_cases c16 : (Int.tmod x0_8 a1) > 0
         ·rw [if_pos c16] at H
          have c16b0 : decide (0 < (Int.tmod x0_8 a1)) = true := decide_eq_true c16
          clear c16
          (first | rw [c16b0] | (simp only [i64_w, i32_w]; rw [c16b0]) | skip)
          by_cases c17 : (x5_8 ++ t315).size + 1 ≤ 9223372036854775807
          ·rw [if_pos c17] at H
           have c17b0 := eq_true c17
           have c17b1 : decide ((x5_8 ++ t315).size + 1 ≤ 9223372036854775807) = true := decide_eq_true c17
           try have c17b2 : (9223372036854775807 < (x5_8 ++ t315).size + 1) = False := eq_false (Nat.not_lt.2 c17)
           try have c17b3 : (9223372036854775807 < x5_8.size + t315.size + 1) = False := eq_false (Nat.not_lt.2 (by rw [← ByteArray.size_append]; exact c17))
           have H' := Aside0.mk H
           clear H
           go_wp2
           go_meet
           case rel => exact ⟨_, ((x5_8 ++ t315) ++ (⟨#[46]⟩ : ByteArray)), rfs_, H', ⟨by have := HJ2.out; have := HJ8.out; first | omega | exact Nat.le_refl _⟩, ⟨bel_⟩⟩
          ·rw [if_neg c17] at H
           exact absurd H (by simp)
         ·rw [if_neg c16] at H
          have c16b0 : decide (0 < (Int.tmod x0_8 a1)) = false := decide_eq_false c16
          clear c16
          (first | rw [c16b0] | (simp only [i64_w, i32_w]; rw [c16b0]) | skip)
          have H' := Aside0.mk H
          clear H
          go_wp2
          go_meet
          case rel => exact ⟨_, (x5_8 ++ t315), rfs_, H', ⟨by have := HJ2.out; have := HJ8.out; first | omega | exact Nat.le_refl _⟩, ⟨bel_⟩⟩
        case rest =>
         clear HC14
         try clear c1
         try clear p2
         try clear c4
         try clear c5
         try clear c6
         try clear c6b0
         try clear c6b1
         try clear p6
         try clear c7
         try clear c7b0
         try clear c7b1
         try clear c8
         try clear c10
         try clear c10b0
         try clear c11
         try clear c11b0
         try clear c11b1
         try clear c13
         try clear c13b0
         try clear c13b1
         try clear c13b2
         try clear c16
         try clear c16b0
         try clear c17
         try clear c17b0
         try clear c17b1
         try clear c17b2
         try clear p2
         try clear p6
         obtain ⟨kq, x5_13, rfl, HA, HJ13, HB⟩ := hcut
         cases kq with
         | zero => exact absurd HA.out (by simp [parterreref02_Text.j2])
         | succ kj13 =>
          have H := HA.out
          clear HA
          simp only [parterreref02_Text.j2] at H
          have H' := Aside0.mk H
          clear H
          go_wp2
          go_loopg [5, 6] kj13 (fun kq v5 v6 w' => ∃ (x5_4 : ByteArray) (x6_4 : Int), v5 = .string x5_4 ∧ v6 = .int .i64 x6_4 ∧ Aside0 (parterreref02_Text.l0 kq a1 x5_4 x6_4 = some r) ∧ Aside0 (kq ≤ kj13) ∧ Aside0 (Below w.heap.size w w'))
          case atStart => exact ⟨(x5_13), ((Int.tmod x0_8 a1)), rfs_, rfs_, H', ⟨Nat.le_refl _⟩, ⟨bel_⟩⟩
          case round =>
           clear H'
           try clear c1
           try clear p2
           try clear c4
           try clear c5
           try clear c6
           try clear c6b0
           try clear c6b1
           try clear p6
           try clear c7
           try clear c7b0
           try clear c7b1
           try clear c8
           try clear c10
           try clear c10b0
           try clear c11
           try clear c11b0
           try clear c11b1
           try clear c13
           try clear c13b0
           try clear c13b1
           try clear c13b2
           try clear c16
           try clear c16b0
           try clear c17
           try clear c17b0
           try clear c17b1
           try clear c17b2
           try clear p2
           try clear p6
           obtain ⟨x5_4, x6_4, rfl, rfl, HA, HK4, HB⟩ := hrel
           cases gk with
           | zero => exact absurd HA.out (by simp [parterreref02_Text.l0])
           | succ k4 =>
            have H := HA.out
            clear HA
            simp only [parterreref02_Text.l0] at H
            by_cases c18 : x6_4 > 0
            ·rw [if_pos c18] at H
             have c18b0 : decide (0 < x6_4) = true := decide_eq_true c18
             clear c18
             by_cases c19 : a1 = 0
             ·rw [if_pos c19] at H
              exact absurd H (by simp)
             ·rw [if_neg c19] at H
              have c19b0 : (a1 == 0) = false := beq_eq_false_iff_ne.mpr c19
              have c19b1 : (a1 != 0) = true := bne_iff_ne.mpr c19
              replace H := Option.bind_eq_some_iff.mp H
              obtain ⟨t316, A200, H⟩ := H
              try dsimp only at H
              have A20 := Aside0.mk A200
              clear A200
              by_cases c21 : x5_4.size + t316.size ≤ 9223372036854775807
              ·rw [if_pos c21] at H
               have c21b0 := eq_true c21
               have c21b1 : decide (x5_4.size + t316.size ≤ 9223372036854775807) = true := decide_eq_true c21
               try have c21b2 : (9223372036854775807 < x5_4.size + t316.size) = False := eq_false (Nat.not_lt.2 c21)
               have H' := Aside0.mk H
               clear H
               go_wp2_with (first | ((with_reducible refine gate_callee (f := 77) rfl ?_); refine goesL_ (some 47) rfl rfl Tryz.func77 (by kernel_rfl) rfl #[.int .i64 (wrap64 (Int.tdiv (wrap64 (10 * x6_4)) a1))] rfl goa_ ?_; (with_reducible refine (parterreref02_Whole.calls k4 (wrap64 (Int.tdiv (wrap64 (10 * x6_4)) a1)) t316 _ A20.out).mono ?_); rintro e w22 ⟨rfl, hb⟩; refine ⟨_, rfl, ?_⟩; have n0_ := Aside0.mk (below_step bel_ hb); clear HB; have HB := n0_; clear n0_; clear hb))
               go_roundg k4
               case measure => have := HJ2.out; have := HJ8.out; have := HJ13.out; have := HK4.out; omega
               case rel => exact ⟨(x5_4 ++ t316), (Int.tmod (wrap64 (10 * x6_4)) a1), rfs_, rfs_, H', ⟨by have := HJ2.out; have := HJ8.out; have := HJ13.out; have := HK4.out; omega⟩, ⟨bel_⟩⟩
              ·rw [if_neg c21] at H
               exact absurd H (by simp)
            ·rw [if_neg c18] at H
             have c18b0 : decide (0 < x6_4) = false := decide_eq_false c18
             clear c18
             obtain rfl := Option.some.inj H
             go_wp2
             go_ret
             exact ⟨rsl_, bel_⟩
       ·rw [if_neg c13] at H
        exact absurd H (by simp)

end Go.Proofs.YtofdhdafabmhmaaGreatDoor.PLt
end
section
namespace Go.Proofs.YtofdhdafabmhmaaGreatDoor.PLt
open Go.RowKit Go.Proofs.YtofdhdafabmhmaaGreatDoorW.PrintWords Go.Proofs.YtofdhdafabmhmaaGreatDoorW.PrintLast Go.Proofs.YtofdhdafabmhmaaGreatDoorW.PrintMore
attribute [local go_sem] max2_int min2_int max_two min_two max_three min_three max_four min_four
open Go.Proofs.YtofdhdafabmhmaaGreatDoor.Opn Go.Proofs.YtofdhdafabmhmaaGreatDoor.Giv

/-! ### parterreref04_control: function 62 -/
def parterreref04_control.f (a0 : Int) : Option (Bool) := if a0 < 32 then (some true) else (some (a0 == 127))
set_option maxHeartbeats 8000000 in
set_option maxRecDepth 100000 in
theorem parterreref04_control.calls (a0 : Int) (r : Bool) (w : World) (h : parterreref04_control.f a0 = some r) :
  Calls Tryz.prog 62 #[.int .u8 a0] w fun e w' => e = .returned (.bool r) ∧ Drawn0 w w' := by
 have H : (if a0 < 32 then (some true) else (some (a0 == 127))) = some r := h
 clear h
 by_cases c2 : a0 < 32
 ·rw [if_pos c2] at H
  have c2b0 : decide (a0 < 32) = true := decide_eq_true c2
  clear c2
  obtain rfl := Option.some.inj H
  go_enter Tryz.func62, Tryz.ntmps62
  go_wp2
  go_ret
  exact ⟨by first | rfl | (simp; done) | (simp [*]; done), drs_⟩
 ·rw [if_neg c2] at H
  have c2b0 : decide (a0 < 32) = false := decide_eq_false c2
  clear c2
  obtain rfl := Option.some.inj H
  go_enter Tryz.func62, Tryz.ntmps62
  go_wp2
  go_ret
  exact ⟨by first | rfl | (simp; done) | (simp [*]; done), drs_⟩

/-! ### parterreref04_number: function 63 -/
def parterreref04_number.dig (x : Int) : ByteArray := (⟨#[48, 49, 50, 51, 52, 53, 54, 55, 56, 57, 97, 98, 99, 100, 101, 102]⟩ : ByteArray).extract x.toNat (x + 1).toNat
def parterreref04_number.f (a0 : Int) : Option ByteArray := if 0 ≤ a0 then (if a0 ≤ 255 then (if a0 ≥ 16 then some (((⟨#[92]⟩ : ByteArray) ++ parterreref04_number.dig (a0 / 16)) ++ parterreref04_number.dig (a0 % 16) ++ (⟨#[32]⟩ : ByteArray)) else some ((⟨#[92]⟩ : ByteArray) ++ parterreref04_number.dig (a0 % 16) ++ (⟨#[32]⟩ : ByteArray))) else none) else none
theorem parterreref04_number.dig_size (x : Int) (h0 : 0 ≤ x) (h1 : x ≤ 15) : (parterreref04_number.dig x).size = 1 := by
 unfold parterreref04_number.dig
 rw [ByteArray.size_extract]
 show min (x + 1).toNat 16 - x.toNat = 1
 omega
theorem parterreref04_number.cut (W : World) (x : Int) (h0 : 0 ≤ x) (h1 : x ≤ 15) : (Instr.slice 9 (.string ⟨#[48, 49, 50, 51, 52, 53, 54, 55, 56, 57, 97, 98, 99, 100, 101, 102]⟩) (some (.int .u8 x)) (some (.int .u8 (x + 1))) none).run Tryz.prog W = .ok (.string (parterreref04_number.dig x)) W := by
 have ht := Tryz.underlying9
 have q0 : (0 ≤ x) = True := eq_true h0
 have q1 : (x ≤ x + 1) = True := eq_true (by omega)
 have q2 : (x + 1 ≤ 16) = True := eq_true (by omega)
 have q3 : (0 ≤ x + 1) = True := eq_true (by omega)
 simp [go_sem, ht, q0, q1, q2, q3, h0, h1, parterreref04_number.dig]
theorem parterreref04_number.tdiv_eq {a0 : Int} (h0 : 0 ≤ a0) (h1 : a0 ≤ 255) : Int.tdiv a0 16 % 256 = a0 / 16 := by
 rw [Int.tdiv_eq_ediv_of_nonneg h0]
 omega
theorem parterreref04_number.tmod_eq {a0 : Int} (h0 : 0 ≤ a0) : Int.tmod a0 16 = a0 % 16 := Int.tmod_eq_emod_of_nonneg h0
set_option maxHeartbeats 400000 in
set_option maxRecDepth 100000 in
theorem parterreref04_number.calls (a0 : Int) (r : ByteArray) (w : World) (h : parterreref04_number.f a0 = some r) :
  Calls Tryz.prog 63 #[.int .u8 a0] w fun e w' => e = .returned (.string r) ∧ Drawn0 w w' := by
 unfold parterreref04_number.f at h
 by_cases h0 : 0 ≤ a0
 ·rw [if_pos h0] at h
  by_cases h1 : a0 ≤ 255
  ·rw [if_pos h1] at h
   obtain ⟨m, hm⟩ : ∃ m, a0 % 16 = m := ⟨_, rfl⟩
   obtain ⟨j, hj⟩ : ∃ j, a0 / 16 = j := ⟨_, rfl⟩
   have hm2 : Int.tmod a0 16 = m := (parterreref04_number.tmod_eq h0).trans hm
   have hj2 : Int.tdiv a0 16 % 256 = j := (parterreref04_number.tdiv_eq h0 h1).trans hj
   have cm := fun W => parterreref04_number.cut W m (by omega) (by omega)
   have cj := fun W => parterreref04_number.cut W j (by omega) (by omega)
   have hm1 : (m + 1) % 256 = m + 1 := by omega
   have hj1 : (j + 1) % 256 = j + 1 := by omega
   have zm := parterreref04_number.dig_size m (by omega) (by omega)
   have zj := parterreref04_number.dig_size j (by omega) (by omega)
   rw [hm, hj] at h
   generalize parterreref04_number.dig m = dm at *
   generalize parterreref04_number.dig j = dj at *
   by_cases hp : a0 ≥ 16
   ·rw [if_pos hp] at h
    obtain rfl := Option.some.inj h
    have p1 : decide (16 ≤ a0) = true := decide_eq_true hp
    clear h h0 h1 hp hm hj
    go_enter Tryz.func63, Tryz.ntmps63
    go_wp2
    go_ret
    exact ⟨rfl, drs_⟩
   ·rw [if_neg hp] at h
    obtain rfl := Option.some.inj h
    have p1 : decide (16 ≤ a0) = false := decide_eq_false hp
    clear h h0 h1 hp hm hj
    go_enter Tryz.func63, Tryz.ntmps63
    go_wp2
    go_ret
    exact ⟨rfl, drs_⟩
  ·rw [if_neg h1] at h
   cases h
 ·rw [if_neg h0] at h
  cases h

/-! ### parterreref03_Letter: function 78 -/
def parterreref03_Letter.f (a0 : Int) : Option (Bool) := if a0 ≥ 97 then (if a0 ≤ 122 then (some true) else (if a0 ≥ 65 then (if a0 ≤ 90 then (some true) else (if a0 = 95 then (some true) else (some (decide (a0 ≥ 128))))) else (if a0 = 95 then (some true) else (some (decide (a0 ≥ 128)))))) else (if a0 ≥ 65 then (if a0 ≤ 90 then (some true) else (if a0 = 95 then (some true) else (some (decide (a0 ≥ 128))))) else (if a0 = 95 then (some true) else (some (decide (a0 ≥ 128)))))
set_option maxHeartbeats 8000000 in
set_option maxRecDepth 100000 in
theorem parterreref03_Letter.calls (a0 : Int) (r : Bool) (w : World) (h : parterreref03_Letter.f a0 = some r) :
  Calls Tryz.prog 78 #[.int .u8 a0] w fun e w' => e = .returned (.bool r) ∧ Drawn0 w w' := by
 have H : (if a0 ≥ 97 then (if a0 ≤ 122 then (some true) else (if a0 ≥ 65 then (if a0 ≤ 90 then (some true) else (if a0 = 95 then (some true) else (some (decide (a0 ≥ 128))))) else (if a0 = 95 then (some true) else (some (decide (a0 ≥ 128)))))) else (if a0 ≥ 65 then (if a0 ≤ 90 then (some true) else (if a0 = 95 then (some true) else (some (decide (a0 ≥ 128))))) else (if a0 = 95 then (some true) else (some (decide (a0 ≥ 128)))))) = some r := h
 clear h
 by_cases c2 : a0 ≥ 97
 ·rw [if_pos c2] at H
  have c2b0 : decide (97 ≤ a0) = true := decide_eq_true c2
  clear c2
  by_cases c3 : a0 ≤ 122
  ·rw [if_pos c3] at H
   have c3b0 : decide (a0 ≤ 122) = true := decide_eq_true c3
   clear c3
   obtain rfl := Option.some.inj H
   go_enter Tryz.func78, Tryz.ntmps78
   go_wp2
   go_ret
   exact ⟨by first | rfl | (simp; done) | (simp [*]; done), drs_⟩
  ·rw [if_neg c3] at H
   have c3b0 : decide (a0 ≤ 122) = false := decide_eq_false c3
   clear c3
   by_cases c4 : a0 ≥ 65
   ·rw [if_pos c4] at H
    have c4b0 : decide (65 ≤ a0) = true := decide_eq_true c4
    clear c4
    by_cases c5 : a0 ≤ 90
    ·rw [if_pos c5] at H
     have c5b0 : decide (a0 ≤ 90) = true := decide_eq_true c5
     clear c5
     obtain rfl := Option.some.inj H
     go_enter Tryz.func78, Tryz.ntmps78
     go_wp2
     go_ret
     exact ⟨by first | rfl | (simp; done) | (simp [*]; done), drs_⟩
    ·rw [if_neg c5] at H
     have c5b0 : decide (a0 ≤ 90) = false := decide_eq_false c5
     clear c5
     by_cases c6 : a0 = 95
     ·rw [if_pos c6] at H
      have c6b0 : (a0 == 95) = true := beq_iff_eq.mpr c6
      have c6b1 : (a0 != 95) = false := bne_eq_false_iff_eq.mpr c6
      clear c6
      obtain rfl := Option.some.inj H
      go_enter Tryz.func78, Tryz.ntmps78
      go_wp2
      go_ret
      exact ⟨by first | rfl | (simp; done) | (simp [*]; done), drs_⟩
     ·rw [if_neg c6] at H
      have c6b0 : (a0 == 95) = false := beq_eq_false_iff_ne.mpr c6
      have c6b1 : (a0 != 95) = true := bne_iff_ne.mpr c6
      obtain rfl := Option.some.inj H
      go_enter Tryz.func78, Tryz.ntmps78
      go_wp2
      go_ret
      exact ⟨by first | rfl | (simp; done) | (simp [*]; done), drs_⟩
   ·rw [if_neg c4] at H
    have c4b0 : decide (65 ≤ a0) = false := decide_eq_false c4
    clear c4
    by_cases c7 : a0 = 95
    ·rw [if_pos c7] at H
     have c7b0 : (a0 == 95) = true := beq_iff_eq.mpr c7
     have c7b1 : (a0 != 95) = false := bne_eq_false_iff_eq.mpr c7
     clear c7
     obtain rfl := Option.some.inj H
     go_enter Tryz.func78, Tryz.ntmps78
     go_wp2
     go_ret
     exact ⟨by first | rfl | (simp; done) | (simp [*]; done), drs_⟩
    ·rw [if_neg c7] at H
     have c7b0 : (a0 == 95) = false := beq_eq_false_iff_ne.mpr c7
     have c7b1 : (a0 != 95) = true := bne_iff_ne.mpr c7
     obtain rfl := Option.some.inj H
     go_enter Tryz.func78, Tryz.ntmps78
     go_wp2
     go_ret
     exact ⟨by first | rfl | (simp; done) | (simp [*]; done), drs_⟩
 ·rw [if_neg c2] at H
  have c2b0 : decide (97 ≤ a0) = false := decide_eq_false c2
  clear c2
  by_cases c8 : a0 ≥ 65
  ·rw [if_pos c8] at H
   have c8b0 : decide (65 ≤ a0) = true := decide_eq_true c8
   clear c8
   by_cases c9 : a0 ≤ 90
   ·rw [if_pos c9] at H
    have c9b0 : decide (a0 ≤ 90) = true := decide_eq_true c9
    clear c9
    obtain rfl := Option.some.inj H
    go_enter Tryz.func78, Tryz.ntmps78
    go_wp2
    go_ret
    exact ⟨by first | rfl | (simp; done) | (simp [*]; done), drs_⟩
   ·rw [if_neg c9] at H
    have c9b0 : decide (a0 ≤ 90) = false := decide_eq_false c9
    clear c9
    by_cases c10 : a0 = 95
    ·rw [if_pos c10] at H
     have c10b0 : (a0 == 95) = true := beq_iff_eq.mpr c10
     have c10b1 : (a0 != 95) = false := bne_eq_false_iff_eq.mpr c10
     clear c10
     obtain rfl := Option.some.inj H
     go_enter Tryz.func78, Tryz.ntmps78
     go_wp2
     go_ret
     exact ⟨by first | rfl | (simp; done) | (simp [*]; done), drs_⟩
    ·rw [if_neg c10] at H
     have c10b0 : (a0 == 95) = false := beq_eq_false_iff_ne.mpr c10
     have c10b1 : (a0 != 95) = true := bne_iff_ne.mpr c10
     obtain rfl := Option.some.inj H
     go_enter Tryz.func78, Tryz.ntmps78
     go_wp2
     go_ret
     exact ⟨by first | rfl | (simp; done) | (simp [*]; done), drs_⟩
  ·rw [if_neg c8] at H
   have c8b0 : decide (65 ≤ a0) = false := decide_eq_false c8
   clear c8
   by_cases c11 : a0 = 95
   ·rw [if_pos c11] at H
    have c11b0 : (a0 == 95) = true := beq_iff_eq.mpr c11
    have c11b1 : (a0 != 95) = false := bne_eq_false_iff_eq.mpr c11
    clear c11
    obtain rfl := Option.some.inj H
    go_enter Tryz.func78, Tryz.ntmps78
    go_wp2
    go_ret
    exact ⟨by first | rfl | (simp; done) | (simp [*]; done), drs_⟩
   ·rw [if_neg c11] at H
    have c11b0 : (a0 == 95) = false := beq_eq_false_iff_ne.mpr c11
    have c11b1 : (a0 != 95) = true := bne_iff_ne.mpr c11
    obtain rfl := Option.some.inj H
    go_enter Tryz.func78, Tryz.ntmps78
    go_wp2
    go_ret
    exact ⟨by first | rfl | (simp; done) | (simp [*]; done), drs_⟩

/-! ### parterreref04_digit: function 79 -/
def parterreref04_digit.f (a0 : Int) : Option (Bool) := if a0 ≥ 48 then (some (decide (a0 ≤ 57))) else (some false)
set_option maxHeartbeats 8000000 in
set_option maxRecDepth 100000 in
theorem parterreref04_digit.calls (a0 : Int) (r : Bool) (w : World) (h : parterreref04_digit.f a0 = some r) :
  Calls Tryz.prog 79 #[.int .u8 a0] w fun e w' => e = .returned (.bool r) ∧ Drawn0 w w' := by
 have H : (if a0 ≥ 48 then (some (decide (a0 ≤ 57))) else (some false)) = some r := h
 clear h
 by_cases c2 : a0 ≥ 48
 ·rw [if_pos c2] at H
  have c2b0 : decide (48 ≤ a0) = true := decide_eq_true c2
  clear c2
  obtain rfl := Option.some.inj H
  go_enter Tryz.func79, Tryz.ntmps79
  go_wp2
  go_ret
  exact ⟨by first | rfl | (simp; done) | (simp [*]; done), drs_⟩
 ·rw [if_neg c2] at H
  have c2b0 : decide (48 ≤ a0) = false := decide_eq_false c2
  clear c2
  obtain rfl := Option.some.inj H
  go_enter Tryz.func79, Tryz.ntmps79
  go_wp2
  go_ret
  exact ⟨by first | rfl | (simp; done) | (simp [*]; done), drs_⟩

end Go.Proofs.YtofdhdafabmhmaaGreatDoor.PLt
end
section
namespace Go.Proofs.YtofdhdafabmhmaaGreatDoor.PLt
open Go.RowKit Go.Proofs.YtofdhdafabmhmaaGreatDoorW.PrintWords Go.Proofs.YtofdhdafabmhmaaGreatDoorW.PrintLast Go.Proofs.YtofdhdafabmhmaaGreatDoorW.PrintMore
attribute [local go_sem] max2_int min2_int max_two min_two max_three min_three max_four min_four
open Go.Proofs.YtofdhdafabmhmaaGreatDoor.Opn Go.Proofs.YtofdhdafabmhmaaGreatDoor.Giv

/-! ### parterreref04_Write: function 43 -/
mutual
def parterreref04_Write.l0 : Nat → ByteArray → ByteArray → Int → Option (ByteArray)
 | 0, _, _, _ => none
 | k + 1, x0, x3, x4 => if x4 < (x0.size : Int) then (if 0 ≤ x4 then ((parterreref03_Letter.f (bt x0 x4)).bind fun t318 => (if t318 = true then (parterreref04_Write.j1 k x0 x3 x4 (bt x0 x4) true) else (if (bt x0 x4) = 45 then (if (x0.size : Int) > 1 then (parterreref04_Write.j1 k x0 x3 x4 (bt x0 x4) true) else ((parterreref04_digit.f (bt x0 x4)).bind fun t319 => (if t319 = true then (if x4 > 0 then (if x4 = 1 then (if 0 < (x0.size : Int) then (parterreref04_Write.j1 k x0 x3 x4 (bt x0 x4) (!((bt x0 0) == 45))) else (none)) else (parterreref04_Write.j1 k x0 x3 x4 (bt x0 x4) (!false))) else (parterreref04_Write.j1 k x0 x3 x4 (bt x0 x4) false)) else (parterreref04_Write.j1 k x0 x3 x4 (bt x0 x4) false)))) else ((parterreref04_digit.f (bt x0 x4)).bind fun t320 => (if t320 = true then (if x4 > 0 then (if x4 = 1 then (if 0 < (x0.size : Int) then (parterreref04_Write.j1 k x0 x3 x4 (bt x0 x4) (!((bt x0 0) == 45))) else (none)) else (parterreref04_Write.j1 k x0 x3 x4 (bt x0 x4) (!false))) else (parterreref04_Write.j1 k x0 x3 x4 (bt x0 x4) false)) else (parterreref04_Write.j1 k x0 x3 x4 (bt x0 x4) false)))))) else (none)) else (some x3)
def parterreref04_Write.j1 : Nat → ByteArray → ByteArray → Int → Int → Bool → Option (ByteArray)
 | 0, _, _, _, _, _ => none
 | k + 1, x0, x3, x4, x5, x46 => if x46 = true then (if 0 ≤ x4 then (if x4 ≤ (wrap64 (x4 + 1)) then (if (wrap64 (x4 + 1)) ≤ (x0.size : Int) then (if x3.size + (x0.extract (x4 : Int).toNat ((wrap64 (x4 + 1)) : Int).toNat).size ≤ 9223372036854775807 then (parterreref04_Write.l0 k x0 (x3 ++ (x0.extract (x4 : Int).toNat ((wrap64 (x4 + 1)) : Int).toNat)) (wrap64 (x4 + 1))) else (none)) else (none)) else (none)) else (none)) else ((parterreref04_digit.f x5).bind fun t321 => (if t321 = true then ((parterreref04_number.f x5).bind fun t322 => (if x3.size + t322.size ≤ 9223372036854775807 then (parterreref04_Write.l0 k x0 (x3 ++ t322) (wrap64 (x4 + 1))) else (none))) else ((parterreref04_control.f x5).bind fun t323 => (if t323 = true then ((parterreref04_number.f x5).bind fun t324 => (if x3.size + t324.size ≤ 9223372036854775807 then (parterreref04_Write.l0 k x0 (x3 ++ t324) (wrap64 (x4 + 1))) else (none))) else (if x3.size + 1 ≤ 9223372036854775807 then (if 0 ≤ x4 then (if x4 ≤ (wrap64 (x4 + 1)) then (if (wrap64 (x4 + 1)) ≤ (x0.size : Int) then (if (x3 ++ (⟨#[92]⟩ : ByteArray)).size + (x0.extract (x4 : Int).toNat ((wrap64 (x4 + 1)) : Int).toNat).size ≤ 9223372036854775807 then (parterreref04_Write.l0 k x0 ((x3 ++ (⟨#[92]⟩ : ByteArray)) ++ (x0.extract (x4 : Int).toNat ((wrap64 (x4 + 1)) : Int).toNat)) (wrap64 (x4 + 1))) else (none)) else (none)) else (none)) else (none)) else (none))))))
end
def parterreref04_Write.f (k : Nat) (a0 : ByteArray) : Option (ByteArray) := (parterreref04_Name.f k a0).bind fun t317 => (if t317 = true then (parterreref04_Write.l0 k a0 (⟨#[]⟩ : ByteArray) 0) else (some (⟨#[]⟩ : ByteArray)))
theorem parterreref04_Write.mono_l : ∀ k, (∀ y0 y1 y2, LeO (parterreref04_Write.l0 k y0 y1 y2) (parterreref04_Write.l0 (k + 1) y0 y1 y2)) ∧ (∀ y0 y1 y2 y3 y4, LeO (parterreref04_Write.j1 k y0 y1 y2 y3 y4) (parterreref04_Write.j1 (k + 1) y0 y1 y2 y3 y4))
 | 0 => ⟨fun _ _ _ r h => by simp [parterreref04_Write.l0] at h, fun _ _ _ _ _ r h => by simp [parterreref04_Write.j1] at h⟩
 | k + 1 => by
  obtain ⟨ih0, ih1⟩ := parterreref04_Write.mono_l k
  refine ⟨?_, ?_⟩
  ·intro y0 y1 y2
   unfold parterreref04_Write.l0
   repeat' first
   | (with_reducible exact ih0 _ _ _)
   | (with_reducible exact ih1 _ _ _ _ _)
   | (with_reducible exact parterreref04_Name.mono _ _)
   | (with_reducible exact LeO.refl _)
   | (with_reducible exact LeO.none _)
   | (with_reducible refine LeO.ite ?_ ?_)
   | (with_reducible refine LeO.bind ?_ (fun _ => ?_))
  ·intro y0 y1 y2 y3 y4
   unfold parterreref04_Write.j1
   repeat' first
   | (with_reducible exact ih0 _ _ _)
   | (with_reducible exact ih1 _ _ _ _ _)
   | (with_reducible exact parterreref04_Name.mono _ _)
   | (with_reducible exact LeO.refl _)
   | (with_reducible exact LeO.none _)
   | (with_reducible refine LeO.ite ?_ ?_)
   | (with_reducible refine LeO.bind ?_ (fun _ => ?_))
theorem parterreref04_Write.mono : ∀ a0 k, LeO (parterreref04_Write.f k a0) (parterreref04_Write.f (k + 1) a0) := by
 intro a0 k
 obtain ⟨ih0, ih1⟩ := parterreref04_Write.mono_l k
 unfold parterreref04_Write.f
 repeat' first
   | (with_reducible exact ih0 _ _ _)
   | (with_reducible exact ih1 _ _ _ _ _)
   | (with_reducible exact parterreref04_Name.mono _ _)
   | (with_reducible exact LeO.refl _)
   | (with_reducible exact LeO.none _)
   | (with_reducible refine LeO.ite ?_ ?_)
   | (with_reducible refine LeO.bind ?_ (fun _ => ?_))
set_option maxHeartbeats 8000000 in
set_option maxRecDepth 100000 in
theorem parterreref04_Write.calls (k : Nat) (a0 : ByteArray) (r : ByteArray) (w : World) (h : parterreref04_Write.f k a0 = some r) :
  Calls Tryz.prog 43 #[.string a0] w fun e w' => e = .returned (.string r) ∧ Drawn0 w w' := by
 have H : ((parterreref04_Name.f k a0).bind fun t317 => (if t317 = true then (parterreref04_Write.l0 k a0 (⟨#[]⟩ : ByteArray) 0) else (some (⟨#[]⟩ : ByteArray)))) = some r := h
 clear h
 replace H := Option.bind_eq_some_iff.mp H
 obtain ⟨t317, A20, H⟩ := H
 try dsimp only at H
 have A2 := Aside0.mk A20
 clear A20
 by_cases c3 : t317 = true
 ·subst c3
  rw [if_pos rfl] at H
  have H' := Aside0.mk H
  clear H
  go_enter Tryz.func43, Tryz.ntmps43
  go_wp2_with (first | ((with_reducible refine gate_callee (f := 72) rfl ?_); refine goesL_ (some 7) rfl rfl Tryz.func72 (by kernel_rfl) rfl #[.string a0] rfl goa_ ?_; (with_reducible refine (parterreref04_Name.calls k a0 true _ A2.out).mono ?_); rintro e w' ⟨rfl, ⟨nd, rfl⟩⟩; refine ⟨_, rfl, ?_⟩))
  go_loopg [3, 4] k (fun kq v3 v4 w' => ∃ (x3_1 : ByteArray) (x4_1 : Int), v3 = .string x3_1 ∧ v4 = .int .i64 x4_1 ∧ Aside0 (parterreref04_Write.l0 kq a0 x3_1 x4_1 = some r) ∧ Aside0 (kq ≤ k) ∧ Drawn0 w w')
  case atStart => exact ⟨((⟨#[]⟩ : ByteArray)), (0), rfs_, rfs_, H', ⟨Nat.le_refl _⟩, drs_⟩
  case round =>
   clear H'
   try clear p2
   try clear c3
   obtain ⟨x3_1, x4_1, rfl, rfl, HA, HK1, ⟨m1, rfl⟩⟩ := hrel
   cases gk with
   | zero => exact absurd HA.out (by simp [parterreref04_Write.l0])
   | succ k1 =>
    have H := HA.out
    clear HA
    simp only [parterreref04_Write.l0] at H
    by_cases c4 : x4_1 < (a0.size : Int)
    ·rw [if_pos c4] at H
     have c4b0 : decide (x4_1 < (a0.size : Int)) = true := decide_eq_true c4
     clear c4
     by_cases c5 : 0 ≤ x4_1
     ·rw [if_pos c5] at H
      have c5b0 : decide (0 ≤ x4_1) = true := decide_eq_true c5
      clear c5
      have HC7 := Aside0.mk H
      clear H
      have p6 : 0 ≤ (x4_1 : Int) := of_decide_eq_true (by first | (with_reducible assumption) | assumption)
      have q6 : x4_1 < (a0.size : Int) := of_decide_eq_true (by first | (with_reducible assumption) | assumption)
      have hx6 := bt_at a0 x4_1
      replace p6 := eq_true p6
      replace q6 := eq_true q6
      go_upto_region 8 with (fail)
      go_cut [46] (fun v46 wc => ∃ (kq : Nat) (x46_6 : Bool), v46 = .bool x46_6 ∧ Aside0 (parterreref04_Write.j1 kq a0 x3_1 x4_1 (bt a0 x4_1) x46_6 = some r) ∧ Aside0 (kq ≤ k1) ∧ Drawn0 w wc)
      case first =>
       have H := HC7.out
       clear HC7
       replace H := Option.bind_eq_some_iff.mp H
       obtain ⟨t318, A80, H⟩ := H
       try dsimp only at H
       have A8 := Aside0.mk A80
       clear A80
       by_cases c9 : t318 = true
       ·subst c9
        rw [if_pos rfl] at H
        have H' := Aside0.mk H
        clear H
        go_wp2_with (first | ((with_reducible refine gate_callee (f := 78) rfl ?_); refine goesL_ (some 19) rfl rfl Tryz.func78 (by kernel_rfl) rfl #[.int .u8 (bt a0 x4_1)] rfl goa_ ?_; (with_reducible refine (parterreref03_Letter.calls (bt a0 x4_1) true _ A8.out).mono ?_); rintro e w' ⟨rfl, ⟨nd, rfl⟩⟩; refine ⟨_, rfl, ?_⟩))
        go_meet
        case rel => exact ⟨_, (true), rfs_, H', ⟨by have := HK1.out; first | omega | exact Nat.le_refl _⟩, drs_⟩
       ·replace c9 := Bool.eq_false_iff.mpr c9
        subst c9
        rw [if_neg (show ¬ (false = true) by decide)] at H
        by_cases c10 : (bt a0 x4_1) = 45
        ·rw [if_pos c10] at H
         have c10b0 : ((bt a0 x4_1) == 45) = true := beq_iff_eq.mpr c10
         have c10b1 : ((bt a0 x4_1) != 45) = false := bne_eq_false_iff_eq.mpr c10
         clear c10
         (first | rw [c10b0] | (simp only [i64_w, i32_w]; rw [c10b0]) | skip)
         by_cases c11 : (a0.size : Int) > 1
         ·rw [if_pos c11] at H
          have c11b0 : decide (1 < (a0.size : Int)) = true := decide_eq_true c11
          have c11b1 : decide (1 < a0.size) = true := decide_eq_true (by omega)
          clear c11
          have H' := Aside0.mk H
          clear H
          go_wp2_with (first | ((with_reducible refine gate_callee (f := 78) rfl ?_); refine goesL_ (some 19) rfl rfl Tryz.func78 (by kernel_rfl) rfl #[.int .u8 (bt a0 x4_1)] rfl goa_ ?_; (with_reducible refine (parterreref03_Letter.calls (bt a0 x4_1) false _ A8.out).mono ?_); rintro e w' ⟨rfl, ⟨nd, rfl⟩⟩; refine ⟨_, rfl, ?_⟩))
          go_meet
          case rel => exact ⟨_, (true), rfs_, H', ⟨by have := HK1.out; first | omega | exact Nat.le_refl _⟩, drs_⟩
         ·rw [if_neg c11] at H
          have c11b0 : decide (1 < (a0.size : Int)) = false := decide_eq_false c11
          have c11b1 : decide (1 < a0.size) = false := decide_eq_false (by omega)
          clear c11
          replace H := Option.bind_eq_some_iff.mp H
          obtain ⟨t319, A120, H⟩ := H
          try dsimp only at H
          have A12 := Aside0.mk A120
          clear A120
          by_cases c13 : t319 = true
          ·subst c13
           rw [if_pos rfl] at H
           by_cases c14 : x4_1 > 0
           ·rw [if_pos c14] at H
            have c14b0 : decide (0 < x4_1) = true := decide_eq_true c14
            clear c14
            by_cases c15 : x4_1 = 1
            ·rw [if_pos c15] at H
             have c15b0 : (x4_1 == 1) = true := beq_iff_eq.mpr c15
             have c15b1 : (x4_1 != 1) = false := bne_eq_false_iff_eq.mpr c15
             clear c15
             by_cases c16 : 0 < (a0.size : Int)
             ·rw [if_pos c16] at H
              have c16b0 : decide (0 < (a0.size : Int)) = true := decide_eq_true c16
              have c16b1 : decide (0 < a0.size) = true := decide_eq_true (by omega)
              clear c16
              have H' := Aside0.mk H
              clear H
              go_wp2_with (first | ((with_reducible refine gate_callee (f := 78) rfl ?_); refine goesL_ (some 19) rfl rfl Tryz.func78 (by kernel_rfl) rfl #[.int .u8 (bt a0 x4_1)] rfl goa_ ?_; (with_reducible refine (parterreref03_Letter.calls (bt a0 x4_1) false _ A8.out).mono ?_); rintro e w' ⟨rfl, ⟨nd, rfl⟩⟩; refine ⟨_, rfl, ?_⟩) | (go_at_call 79; (with_reducible refine (parterreref04_digit.calls (bt a0 x4_1) true _ A12.out).mono ?_); rintro e w' ⟨rfl, ⟨nd, rfl⟩⟩; have p17 : 0 ≤ (0 : Int) := (by omega); have q17 : 0 < a0.size := (by have : (0 : Int) < (a0.size : Int) := of_decide_eq_true (by first | (with_reducible assumption) | assumption); omega); have hx17 : ∀ h : 0 < a0.size, ((a0[0]'h).toNat : Int) = bt a0 0 := bt_at a0 0; clear p17; have qi17 : (0 < (a0.size : Int)) = True := eq_true (of_decide_eq_true (by first | (with_reducible assumption) | assumption)); replace q17 := eq_true q17))
              go_meet
              case rel => exact ⟨_, (!((bt a0 0) == 45)), rfs_, H', ⟨by have := HK1.out; first | omega | exact Nat.le_refl _⟩, drs_⟩
             ·rw [if_neg c16] at H
              exact absurd H (by simp)
            ·rw [if_neg c15] at H
             have c15b0 : (x4_1 == 1) = false := beq_eq_false_iff_ne.mpr c15
             have c15b1 : (x4_1 != 1) = true := bne_iff_ne.mpr c15
             have H' := Aside0.mk H
             clear H
             go_wp2_with (first | ((with_reducible refine gate_callee (f := 78) rfl ?_); refine goesL_ (some 19) rfl rfl Tryz.func78 (by kernel_rfl) rfl #[.int .u8 (bt a0 x4_1)] rfl goa_ ?_; (with_reducible refine (parterreref03_Letter.calls (bt a0 x4_1) false _ A8.out).mono ?_); rintro e w' ⟨rfl, ⟨nd, rfl⟩⟩; refine ⟨_, rfl, ?_⟩) | (go_at_call 79; (with_reducible refine (parterreref04_digit.calls (bt a0 x4_1) true _ A12.out).mono ?_); rintro e w' ⟨rfl, ⟨nd, rfl⟩⟩))
             go_meet
             case rel => exact ⟨_, (!false), rfs_, H', ⟨by have := HK1.out; first | omega | exact Nat.le_refl _⟩, drs_⟩
           ·rw [if_neg c14] at H
            have c14b0 : decide (0 < x4_1) = false := decide_eq_false c14
            clear c14
            have H' := Aside0.mk H
            clear H
            go_wp2_with (first | ((with_reducible refine gate_callee (f := 78) rfl ?_); refine goesL_ (some 19) rfl rfl Tryz.func78 (by kernel_rfl) rfl #[.int .u8 (bt a0 x4_1)] rfl goa_ ?_; (with_reducible refine (parterreref03_Letter.calls (bt a0 x4_1) false _ A8.out).mono ?_); rintro e w' ⟨rfl, ⟨nd, rfl⟩⟩; refine ⟨_, rfl, ?_⟩) | (go_at_call 79; (with_reducible refine (parterreref04_digit.calls (bt a0 x4_1) true _ A12.out).mono ?_); rintro e w' ⟨rfl, ⟨nd, rfl⟩⟩))
            go_meet
            case rel => exact ⟨_, (false), rfs_, H', ⟨by have := HK1.out; first | omega | exact Nat.le_refl _⟩, drs_⟩
          ·replace c13 := Bool.eq_false_iff.mpr c13
           subst c13
           rw [if_neg (show ¬ (false = true) by decide)] at H
           have H' := Aside0.mk H
           clear H
           go_wp2_with (first | ((with_reducible refine gate_callee (f := 78) rfl ?_); refine goesL_ (some 19) rfl rfl Tryz.func78 (by kernel_rfl) rfl #[.int .u8 (bt a0 x4_1)] rfl goa_ ?_; (with_reducible refine (parterreref03_Letter.calls (bt a0 x4_1) false _ A8.out).mono ?_); rintro e w' ⟨rfl, ⟨nd, rfl⟩⟩; refine ⟨_, rfl, ?_⟩) | (go_at_call 79; (with_reducible refine (parterreref04_digit.calls (bt a0 x4_1) false _ A12.out).mono ?_); rintro e w' ⟨rfl, ⟨nd, rfl⟩⟩))
           go_meet
           case rel => exact ⟨_, (false), rfs_, H', ⟨by have := HK1.out; first | omega | exact Nat.le_refl _⟩, drs_⟩
        ·rw [if_neg c10] at H
         have c10b0 : ((bt a0 x4_1) == 45) = false := beq_eq_false_iff_ne.mpr c10
         have c10b1 : ((bt a0 x4_1) != 45) = true := bne_iff_ne.mpr c10
         (first | rw [c10b0] | (simp only [i64_w, i32_w]; rw [c10b0]) | skip)
         replace H := Option.bind_eq_some_iff.mp H
         obtain ⟨t320, A180, H⟩ := H
         try dsimp only at H
         have A18 := Aside0.mk A180
         clear A180
         by_cases c19 : t320 = true
         ·subst c19
          rw [if_pos rfl] at H
          by_cases c20 : x4_1 > 0
          ·rw [if_pos c20] at H
           have c20b0 : decide (0 < x4_1) = true := decide_eq_true c20
           clear c20
           by_cases c21 : x4_1 = 1
           ·rw [if_pos c21] at H
            have c21b0 : (x4_1 == 1) = true := beq_iff_eq.mpr c21
            have c21b1 : (x4_1 != 1) = false := bne_eq_false_iff_eq.mpr c21
            clear c21
            by_cases c22 : 0 < (a0.size : Int)
            ·rw [if_pos c22] at H
             have c22b0 : decide (0 < (a0.size : Int)) = true := decide_eq_true c22
             have c22b1 : decide (0 < a0.size) = true := decide_eq_true (by omega)
             clear c22
             have H' := Aside0.mk H
             clear H
             go_wp2_with (first | ((with_reducible refine gate_callee (f := 78) rfl ?_); refine goesL_ (some 19) rfl rfl Tryz.func78 (by kernel_rfl) rfl #[.int .u8 (bt a0 x4_1)] rfl goa_ ?_; (with_reducible refine (parterreref03_Letter.calls (bt a0 x4_1) false _ A8.out).mono ?_); rintro e w' ⟨rfl, ⟨nd, rfl⟩⟩; refine ⟨_, rfl, ?_⟩) | (go_at_call 79; (with_reducible refine (parterreref04_digit.calls (bt a0 x4_1) true _ A18.out).mono ?_); rintro e w' ⟨rfl, ⟨nd, rfl⟩⟩; have p23 : 0 ≤ (0 : Int) := (by omega); have q23 : 0 < a0.size := (by have : (0 : Int) < (a0.size : Int) := of_decide_eq_true (by first | (with_reducible assumption) | assumption); omega); have hx23 : ∀ h : 0 < a0.size, ((a0[0]'h).toNat : Int) = bt a0 0 := bt_at a0 0; clear p23; have qi23 : (0 < (a0.size : Int)) = True := eq_true (of_decide_eq_true (by first | (with_reducible assumption) | assumption)); replace q23 := eq_true q23))
             go_meet
             case rel => exact ⟨_, (!((bt a0 0) == 45)), rfs_, H', ⟨by have := HK1.out; first | omega | exact Nat.le_refl _⟩, drs_⟩
            ·rw [if_neg c22] at H
             exact absurd H (by simp)
           ·rw [if_neg c21] at H
            have c21b0 : (x4_1 == 1) = false := beq_eq_false_iff_ne.mpr c21
            have c21b1 : (x4_1 != 1) = true := bne_iff_ne.mpr c21
            have H' := Aside0.mk H
            clear H
            go_wp2_with (first | ((with_reducible refine gate_callee (f := 78) rfl ?_); refine goesL_ (some 19) rfl rfl Tryz.func78 (by kernel_rfl) rfl #[.int .u8 (bt a0 x4_1)] rfl goa_ ?_; (with_reducible refine (parterreref03_Letter.calls (bt a0 x4_1) false _ A8.out).mono ?_); rintro e w' ⟨rfl, ⟨nd, rfl⟩⟩; refine ⟨_, rfl, ?_⟩) | (go_at_call 79; (with_reducible refine (parterreref04_digit.calls (bt a0 x4_1) true _ A18.out).mono ?_); rintro e w' ⟨rfl, ⟨nd, rfl⟩⟩))
            go_meet
            case rel => exact ⟨_, (!false), rfs_, H', ⟨by have := HK1.out; first | omega | exact Nat.le_refl _⟩, drs_⟩
          ·rw [if_neg c20] at H
           have c20b0 : decide (0 < x4_1) = false := decide_eq_false c20
           clear c20
           have H' := Aside0.mk H
           clear H
           go_wp2_with (first | ((with_reducible refine gate_callee (f := 78) rfl ?_); refine goesL_ (some 19) rfl rfl Tryz.func78 (by kernel_rfl) rfl #[.int .u8 (bt a0 x4_1)] rfl goa_ ?_; (with_reducible refine (parterreref03_Letter.calls (bt a0 x4_1) false _ A8.out).mono ?_); rintro e w' ⟨rfl, ⟨nd, rfl⟩⟩; refine ⟨_, rfl, ?_⟩) | (go_at_call 79; (with_reducible refine (parterreref04_digit.calls (bt a0 x4_1) true _ A18.out).mono ?_); rintro e w' ⟨rfl, ⟨nd, rfl⟩⟩))
           go_meet
           case rel => exact ⟨_, (false), rfs_, H', ⟨by have := HK1.out; first | omega | exact Nat.le_refl _⟩, drs_⟩
         ·replace c19 := Bool.eq_false_iff.mpr c19
          subst c19
          rw [if_neg (show ¬ (false = true) by decide)] at H
          have H' := Aside0.mk H
          clear H
          go_wp2_with (first | ((with_reducible refine gate_callee (f := 78) rfl ?_); refine goesL_ (some 19) rfl rfl Tryz.func78 (by kernel_rfl) rfl #[.int .u8 (bt a0 x4_1)] rfl goa_ ?_; (with_reducible refine (parterreref03_Letter.calls (bt a0 x4_1) false _ A8.out).mono ?_); rintro e w' ⟨rfl, ⟨nd, rfl⟩⟩; refine ⟨_, rfl, ?_⟩) | (go_at_call 79; (with_reducible refine (parterreref04_digit.calls (bt a0 x4_1) false _ A18.out).mono ?_); rintro e w' ⟨rfl, ⟨nd, rfl⟩⟩))
          go_meet
          case rel => exact ⟨_, (false), rfs_, H', ⟨by have := HK1.out; first | omega | exact Nat.le_refl _⟩, drs_⟩
      case rest =>
       clear HC7
       try clear c1
       try clear p1
       try clear q1
       try clear hx1
       try clear qi1
       try clear c2
       try clear p2
       try clear q2
       try clear hx2
       try clear qi2
       try clear c3
       try clear c4
       try clear c4b0
       try clear c5
       try clear c5b0
       try clear p6
       try clear q6
       try clear hx6
       try clear c7
       try clear c9
       try clear c10
       try clear c10b0
       try clear c10b1
       try clear c11
       try clear c11b0
       try clear c11b1
       try clear c13
       try clear c14
       try clear c14b0
       try clear c15
       try clear c15b0
       try clear c15b1
       try clear c16
       try clear c16b0
       try clear c16b1
       try clear p17
       try clear q17
       try clear hx17
       try clear qi17
       try clear c19
       try clear c20
       try clear c20b0
       try clear c21
       try clear c21b0
       try clear c21b1
       try clear c22
       try clear c22b0
       try clear c22b1
       try clear p23
       try clear q23
       try clear hx23
       try clear qi23
       try clear p17
       try clear p2
       try clear p23
       try clear p6
       try clear q17
       try clear q23
       try clear q6
       obtain ⟨kq, x46_6, rfl, HA, HJ6, ⟨mc6, rfl⟩⟩ := hcut
       cases kq with
       | zero => exact absurd HA.out (by simp [parterreref04_Write.j1])
       | succ kj6 =>
        have H := HA.out
        clear HA
        simp only [parterreref04_Write.j1] at H
        by_cases c24 : x46_6 = true
        ·subst c24
         rw [if_pos rfl] at H
         by_cases c25 : 0 ≤ x4_1
         ·rw [if_pos c25] at H
          have c25b0 := eq_true c25
          have c25b1 : decide (0 ≤ x4_1) = true := decide_eq_true c25
          clear c25
          by_cases c26 : x4_1 ≤ (wrap64 (x4_1 + 1))
          ·rw [if_pos c26] at H
           have c26b0 := eq_true c26
           have c26b1 : decide (x4_1 ≤ (wrap64 (x4_1 + 1))) = true := decide_eq_true c26
           by_cases c27 : (wrap64 (x4_1 + 1)) ≤ (a0.size : Int)
           ·rw [if_pos c27] at H
            have c27b0 := eq_true c27
            have c27b1 : decide ((wrap64 (x4_1 + 1)) ≤ (a0.size : Int)) = true := decide_eq_true c27
            by_cases c28 : x3_1.size + (a0.extract (x4_1 : Int).toNat ((wrap64 (x4_1 + 1)) : Int).toNat).size ≤ 9223372036854775807
            ·rw [if_pos c28] at H
             have c28b0 := eq_true c28
             have c28b1 : decide (x3_1.size + (a0.extract (x4_1 : Int).toNat ((wrap64 (x4_1 + 1)) : Int).toNat).size ≤ 9223372036854775807) = true := decide_eq_true c28
             try have c28b2 : (9223372036854775807 < x3_1.size + (a0.extract (x4_1 : Int).toNat ((wrap64 (x4_1 + 1)) : Int).toNat).size) = False := eq_false (Nat.not_lt.2 c28)
             have H' := Aside0.mk H
             clear H
             go_wp2
             go_roundg kj6
             case measure => have := HK1.out; have := HJ6.out; omega
             case rel => exact ⟨(x3_1 ++ (a0.extract (x4_1 : Int).toNat ((wrap64 (x4_1 + 1)) : Int).toNat)), (wrap64 (x4_1 + 1)), rfs_, rfs_, H', ⟨by have := HK1.out; have := HJ6.out; omega⟩, drs_⟩
            ·rw [if_neg c28] at H
             exact absurd H (by simp)
           ·rw [if_neg c27] at H
            exact absurd H (by simp)
          ·rw [if_neg c26] at H
           exact absurd H (by simp)
         ·rw [if_neg c25] at H
          exact absurd H (by simp)
        ·replace c24 := Bool.eq_false_iff.mpr c24
         subst c24
         rw [if_neg (show ¬ (false = true) by decide)] at H
         replace H := Option.bind_eq_some_iff.mp H
         obtain ⟨t321, A290, H⟩ := H
         try dsimp only at H
         have A29 := Aside0.mk A290
         clear A290
         by_cases c30 : t321 = true
         ·subst c30
          rw [if_pos rfl] at H
          replace H := Option.bind_eq_some_iff.mp H
          obtain ⟨t322, A310, H⟩ := H
          try dsimp only at H
          have A31 := Aside0.mk A310
          clear A310
          by_cases c32 : x3_1.size + t322.size ≤ 9223372036854775807
          ·rw [if_pos c32] at H
           have c32b0 := eq_true c32
           have c32b1 : decide (x3_1.size + t322.size ≤ 9223372036854775807) = true := decide_eq_true c32
           try have c32b2 : (9223372036854775807 < x3_1.size + t322.size) = False := eq_false (Nat.not_lt.2 c32)
           have H' := Aside0.mk H
           clear H
           go_wp2_with (first | ((with_reducible refine gate_callee (f := 79) rfl ?_); refine goesL_ (some 55) rfl rfl Tryz.func79 (by kernel_rfl) rfl #[.int .u8 (bt a0 x4_1)] rfl goa_ ?_; (with_reducible refine (parterreref04_digit.calls (bt a0 x4_1) true _ A29.out).mono ?_); rintro e w' ⟨rfl, ⟨nd, rfl⟩⟩; refine ⟨_, rfl, ?_⟩) | ((with_reducible refine gate_callee (f := 63) rfl ?_); refine goesL_ (some 62) rfl rfl Tryz.func63 (by kernel_rfl) rfl #[.int .u8 (bt a0 x4_1)] rfl goa_ ?_; (with_reducible refine (parterreref04_number.calls (bt a0 x4_1) t322 _ A31.out).mono ?_); rintro e w' ⟨rfl, ⟨nd, rfl⟩⟩; refine ⟨_, rfl, ?_⟩))
           go_roundg kj6
           case measure => have := HK1.out; have := HJ6.out; omega
           case rel => exact ⟨(x3_1 ++ t322), (wrap64 (x4_1 + 1)), rfs_, rfs_, H', ⟨by have := HK1.out; have := HJ6.out; omega⟩, drs_⟩
          ·rw [if_neg c32] at H
           exact absurd H (by simp)
         ·replace c30 := Bool.eq_false_iff.mpr c30
          subst c30
          rw [if_neg (show ¬ (false = true) by decide)] at H
          replace H := Option.bind_eq_some_iff.mp H
          obtain ⟨t323, A330, H⟩ := H
          try dsimp only at H
          have A33 := Aside0.mk A330
          clear A330
          by_cases c34 : t323 = true
          ·subst c34
           rw [if_pos rfl] at H
           replace H := Option.bind_eq_some_iff.mp H
           obtain ⟨t324, A350, H⟩ := H
           try dsimp only at H
           have A35 := Aside0.mk A350
           clear A350
           by_cases c36 : x3_1.size + t324.size ≤ 9223372036854775807
           ·rw [if_pos c36] at H
            have c36b0 := eq_true c36
            have c36b1 : decide (x3_1.size + t324.size ≤ 9223372036854775807) = true := decide_eq_true c36
            try have c36b2 : (9223372036854775807 < x3_1.size + t324.size) = False := eq_false (Nat.not_lt.2 c36)
            have H' := Aside0.mk H
            clear H
            go_wp2_with (first | ((with_reducible refine gate_callee (f := 79) rfl ?_); refine goesL_ (some 55) rfl rfl Tryz.func79 (by kernel_rfl) rfl #[.int .u8 (bt a0 x4_1)] rfl goa_ ?_; (with_reducible refine (parterreref04_digit.calls (bt a0 x4_1) false _ A29.out).mono ?_); rintro e w' ⟨rfl, ⟨nd, rfl⟩⟩; refine ⟨_, rfl, ?_⟩) | (go_at_call 62; (with_reducible refine (parterreref04_control.calls (bt a0 x4_1) true _ A33.out).mono ?_); rintro e w' ⟨rfl, ⟨nd, rfl⟩⟩) | ((with_reducible refine gate_callee (f := 63) rfl ?_); refine goesL_ (some 62) rfl rfl Tryz.func63 (by kernel_rfl) rfl #[.int .u8 (bt a0 x4_1)] rfl goa_ ?_; (with_reducible refine (parterreref04_number.calls (bt a0 x4_1) t324 _ A35.out).mono ?_); rintro e w' ⟨rfl, ⟨nd, rfl⟩⟩; refine ⟨_, rfl, ?_⟩))
            go_roundg kj6
            case measure => have := HK1.out; have := HJ6.out; omega
            case rel => exact ⟨(x3_1 ++ t324), (wrap64 (x4_1 + 1)), rfs_, rfs_, H', ⟨by have := HK1.out; have := HJ6.out; omega⟩, drs_⟩
           ·rw [if_neg c36] at H
            exact absurd H (by simp)
          ·replace c34 := Bool.eq_false_iff.mpr c34
           subst c34
           rw [if_neg (show ¬ (false = true) by decide)] at H
           by_cases c37 : x3_1.size + 1 ≤ 9223372036854775807
           ·rw [if_pos c37] at H
            have c37b0 := eq_true c37
            have c37b1 : decide (x3_1.size + 1 ≤ 9223372036854775807) = true := decide_eq_true c37
            try have c37b2 : (9223372036854775807 < x3_1.size + 1) = False := eq_false (Nat.not_lt.2 c37)
            by_cases c38 : 0 ≤ x4_1
            ·rw [if_pos c38] at H
             have c38b0 := eq_true c38
             have c38b1 : decide (0 ≤ x4_1) = true := decide_eq_true c38
             clear c38
             by_cases c39 : x4_1 ≤ (wrap64 (x4_1 + 1))
             ·rw [if_pos c39] at H
              have c39b0 := eq_true c39
              have c39b1 : decide (x4_1 ≤ (wrap64 (x4_1 + 1))) = true := decide_eq_true c39
              by_cases c40 : (wrap64 (x4_1 + 1)) ≤ (a0.size : Int)
              ·rw [if_pos c40] at H
               have c40b0 := eq_true c40
               have c40b1 : decide ((wrap64 (x4_1 + 1)) ≤ (a0.size : Int)) = true := decide_eq_true c40
               by_cases c41 : (x3_1 ++ (⟨#[92]⟩ : ByteArray)).size + (a0.extract (x4_1 : Int).toNat ((wrap64 (x4_1 + 1)) : Int).toNat).size ≤ 9223372036854775807
               ·rw [if_pos c41] at H
                have c41b0 := eq_true c41
                have c41b1 : decide ((x3_1 ++ (⟨#[92]⟩ : ByteArray)).size + (a0.extract (x4_1 : Int).toNat ((wrap64 (x4_1 + 1)) : Int).toNat).size ≤ 9223372036854775807) = true := decide_eq_true c41
                try have c41b2 : (9223372036854775807 < (x3_1 ++ (⟨#[92]⟩ : ByteArray)).size + (a0.extract (x4_1 : Int).toNat ((wrap64 (x4_1 + 1)) : Int).toNat).size) = False := eq_false (Nat.not_lt.2 c41)
                have H' := Aside0.mk H
                clear H
                go_wp2_with (first | ((with_reducible refine gate_callee (f := 79) rfl ?_); refine goesL_ (some 55) rfl rfl Tryz.func79 (by kernel_rfl) rfl #[.int .u8 (bt a0 x4_1)] rfl goa_ ?_; (with_reducible refine (parterreref04_digit.calls (bt a0 x4_1) false _ A29.out).mono ?_); rintro e w' ⟨rfl, ⟨nd, rfl⟩⟩; refine ⟨_, rfl, ?_⟩) | (go_at_call 62; (with_reducible refine (parterreref04_control.calls (bt a0 x4_1) false _ A33.out).mono ?_); rintro e w' ⟨rfl, ⟨nd, rfl⟩⟩))
                go_roundg kj6
                case measure => have := HK1.out; have := HJ6.out; omega
                case rel => exact ⟨((x3_1 ++ (⟨#[92]⟩ : ByteArray)) ++ (a0.extract (x4_1 : Int).toNat ((wrap64 (x4_1 + 1)) : Int).toNat)), (wrap64 (x4_1 + 1)), rfs_, rfs_, H', ⟨by have := HK1.out; have := HJ6.out; omega⟩, drs_⟩
               ·rw [if_neg c41] at H
                exact absurd H (by simp)
              ·rw [if_neg c40] at H
               exact absurd H (by simp)
             ·rw [if_neg c39] at H
              exact absurd H (by simp)
            ·rw [if_neg c38] at H
             exact absurd H (by simp)
           ·rw [if_neg c37] at H
            exact absurd H (by simp)
     ·rw [if_neg c5] at H
      exact absurd H (by simp)
    ·rw [if_neg c4] at H
     have c4b0 : decide (x4_1 < (a0.size : Int)) = false := decide_eq_false c4
     clear c4
     obtain rfl := Option.some.inj H
     go_wp2
     go_ret
     exact ⟨by first | rfl | (simp; done) | (simp [*]; done), drs_⟩
 ·replace c3 := Bool.eq_false_iff.mpr c3
  subst c3
  rw [if_neg (show ¬ (false = true) by decide)] at H
  obtain rfl := Option.some.inj H
  go_enter Tryz.func43, Tryz.ntmps43
  go_wp2_with (first | ((with_reducible refine gate_callee (f := 72) rfl ?_); refine goesL_ (some 7) rfl rfl Tryz.func72 (by kernel_rfl) rfl #[.string a0] rfl goa_ ?_; (with_reducible refine (parterreref04_Name.calls k a0 false _ A2.out).mono ?_); rintro e w' ⟨rfl, ⟨nd, rfl⟩⟩; refine ⟨_, rfl, ?_⟩))
  go_ret
  exact ⟨by first | rfl | (simp; done) | (simp [*]; done), drs_⟩

end Go.Proofs.YtofdhdafabmhmaaGreatDoor.PLt
end
