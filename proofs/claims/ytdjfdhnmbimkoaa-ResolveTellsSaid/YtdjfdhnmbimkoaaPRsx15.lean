-- Written by a program of this session (wip/p2) out of the translation; Lean checks it.
import Derived.Test.YtdjfdhnmbimkoaaSq
import Derived.Test.YtdjfdhnmbimkoaaPRsx0
namespace Go.Proofs.Ytdjfdhnmbimkoaa.PRs
open Go.RowKit Go.Proofs.YtdjfdhnmbimkoaaW.PrintWords Go.Proofs.YtdjfdhnmbimkoaaW.PrintLast Go.Proofs.YtdjfdhnmbimkoaaW.PrintMore
attribute [local go_sem] max2_int min2_int max_two min_two max_three min_three max_four min_four   -- for this text's walks alone
set_option linter.unusedVariables false
set_option linter.unusedSimpArgs false
open Go.Proofs.Ytdjfdhnmbimkoaa.Opn Go.Proofs.Ytdjfdhnmbimkoaa.Giv

/-! ### parterreref18_certain: function 90 -/
def parterreref18_certain.f (a0_0 : Int) (a0_1 : Int) (a0_2 : ByteArray) : Option (Bool) := if a0_0 = 2 then (some true) else (some (a0_0 == 3))
set_option maxHeartbeats 8000000 in
set_option maxRecDepth 100000 in
theorem parterreref18_certain.calls (a0_0 : Int) (a0_1 : Int) (a0_2 : ByteArray) (r : Bool) (w : World) (h : parterreref18_certain.f a0_0 a0_1 a0_2 = some r) :
  Calls Try.prog 90 #[.agg #[.int .i64 a0_0, .int .i64 a0_1, .string a0_2]] w fun e w' => e = .returned (.bool r) ∧ Below w.heap.size w w' := by
 have hu69 := Try.underlying69
 have HB := Aside0.mk (Below.refl w.heap.size w)
 have H : (if a0_0 = 2 then (some true) else (some (a0_0 == 3))) = some r := h
 clear h
 by_cases c2 : a0_0 = 2
 ·rw [if_pos c2] at H
  have c2b0 : (a0_0 == 2) = true := beq_iff_eq.mpr c2
  have c2b1 : (a0_0 != 2) = false := bne_eq_false_iff_eq.mpr c2
  clear c2
  obtain rfl := Option.some.inj H
  go_enter Try.func90, Try.ntmps90
  go_wp2_with (first | ((with_reducible refine gate_dst (N := 1) rfl ?_); refine box_event ?hg (N := 1) ?hd (cs := #[.int .i64 a0_0, .int .i64 a0_1, .string a0_2]) (t := 69) ?hr ?_; (case hd => rfl); (case hg => rfl); (case hr => first | (go_simp; done) | (go_simp; rfl)); intro gb261 hg w3 hbox hb; have n0_ := Aside0.mk (below_step bel_ hb); have n1_ := Aside0.mk (hbox); have n2_ := Aside0.mk ((bsz_ hg : w.heap.size ≤ gb261)); have n3_ := Aside0.mk ((bsz_ hg : w.heap.size ≤ gb261)); clear HB; have HB := n0_; have BK261 := n1_; have GW261 := n2_; have GE261 := n3_; clear n0_ n1_ n2_ n3_; clear hb hbox hg; have hcz4_0 : w3.cell? ⟨gb261, 0, none⟩ = some (.int .i64 a0_0) := (blk_cell BK261.out 0).trans rfl; have hcz4_1 : w3.cell? ⟨gb261, 1, none⟩ = some (.int .i64 a0_1) := (blk_cell BK261.out 1).trans rfl; have hcz4_2 : w3.cell? ⟨gb261, 2, none⟩ = some (.string a0_2) := (blk_cell BK261.out 2).trans rfl; have hfz4_0 := blk_frozen BK261.out 0; have hfz4_1 := blk_frozen BK261.out 1; have hfz4_2 := blk_frozen BK261.out 2))
  go_ret
  exact ⟨rsl_, bel_⟩
 ·rw [if_neg c2] at H
  have c2b0 : (a0_0 == 2) = false := beq_eq_false_iff_ne.mpr c2
  have c2b1 : (a0_0 != 2) = true := bne_iff_ne.mpr c2
  obtain rfl := Option.some.inj H
  go_enter Try.func90, Try.ntmps90
  go_wp2_with (first | ((with_reducible refine gate_dst (N := 1) rfl ?_); refine box_event ?hg (N := 1) ?hd (cs := #[.int .i64 a0_0, .int .i64 a0_1, .string a0_2]) (t := 69) ?hr ?_; (case hd => rfl); (case hg => rfl); (case hr => first | (go_simp; done) | (go_simp; rfl)); intro gb261 hg w5 hbox hb; have n0_ := Aside0.mk (below_step bel_ hb); have n1_ := Aside0.mk (hbox); have n2_ := Aside0.mk ((bsz_ hg : w.heap.size ≤ gb261)); have n3_ := Aside0.mk ((bsz_ hg : w.heap.size ≤ gb261)); clear HB; have HB := n0_; have BK261 := n1_; have GW261 := n2_; have GE261 := n3_; clear n0_ n1_ n2_ n3_; clear hb hbox hg; have hcz6_0 : w5.cell? ⟨gb261, 0, none⟩ = some (.int .i64 a0_0) := (blk_cell BK261.out 0).trans rfl; have hcz6_1 : w5.cell? ⟨gb261, 1, none⟩ = some (.int .i64 a0_1) := (blk_cell BK261.out 1).trans rfl; have hcz6_2 : w5.cell? ⟨gb261, 2, none⟩ = some (.string a0_2) := (blk_cell BK261.out 2).trans rfl; have hfz6_0 := blk_frozen BK261.out 0; have hfz6_1 := blk_frozen BK261.out 1; have hfz6_2 := blk_frozen BK261.out 2))
  go_ret
  exact ⟨rsl_, bel_⟩

/-! ### parterreref18_many: function 91 -/
def parterreref18_many.j0 : Nat → Bool → Int → Int → ByteArray → Int → Int → ByteArray → Option (Int)
 | 0, _, _, _, _, _, _, _ => none
 | k + 1, x12, x263000, x263001, x263002, x264000, x264001, x264002 => if x12 = true then (some x263001) else (if x263000 = 4 then (some 1) else (if x264000 = 4 then (if x264002.toList = ([] : List UInt8) then (some x264001) else (some 1)) else (some 1)))
def parterreref18_many.f (k : Nat) (a0_0 : Int) (a0_1 : Int) (a0_2 : ByteArray) (a1_0 : Int) (a1_1 : Int) (a1_2 : ByteArray) : Option (Int) := if a0_0 = 4 then (parterreref18_many.j0 k (a0_2.toList == ([] : List UInt8)) a0_0 a0_1 a0_2 a1_0 a1_1 a1_2) else (parterreref18_many.j0 k false a0_0 a0_1 a0_2 a1_0 a1_1 a1_2)
theorem parterreref18_many.mono_l : ∀ k, (∀ y0 y1 y2 y3 y4 y5 y6, LeO (parterreref18_many.j0 k y0 y1 y2 y3 y4 y5 y6) (parterreref18_many.j0 (k + 1) y0 y1 y2 y3 y4 y5 y6))
 | 0 => fun _ _ _ _ _ _ _ r h => by simp [parterreref18_many.j0] at h
 | k + 1 => by
  have ih0 := parterreref18_many.mono_l k
  ·intro y0 y1 y2 y3 y4 y5 y6
   unfold parterreref18_many.j0
   repeat' first
   | (with_reducible exact ih0 _ _ _ _ _ _ _)
   | (with_reducible exact LeO.refl _)
   | (with_reducible exact LeO.none _)
   | (with_reducible refine LeO.ite ?_ ?_)
   | (with_reducible refine LeO.bind ?_ (fun _ => ?_))
theorem parterreref18_many.mono : ∀ a0 a1 a2 a3 a4 a5 k, LeO (parterreref18_many.f k a0 a1 a2 a3 a4 a5) (parterreref18_many.f (k + 1) a0 a1 a2 a3 a4 a5) := by
 intro a0 a1 a2 a3 a4 a5 k
 have ih0 := parterreref18_many.mono_l k
 unfold parterreref18_many.f
 repeat' first
   | (with_reducible exact ih0 _ _ _ _ _ _ _)
   | (with_reducible exact LeO.refl _)
   | (with_reducible exact LeO.none _)
   | (with_reducible refine LeO.ite ?_ ?_)
   | (with_reducible refine LeO.bind ?_ (fun _ => ?_))
set_option maxHeartbeats 8000000 in
set_option maxRecDepth 100000 in
theorem parterreref18_many.calls (k : Nat) (a0_0 : Int) (a0_1 : Int) (a0_2 : ByteArray) (a1_0 : Int) (a1_1 : Int) (a1_2 : ByteArray) (r : Int) (w : World) (h : parterreref18_many.f k a0_0 a0_1 a0_2 a1_0 a1_1 a1_2 = some r) :
  Calls Try.prog 91 #[.agg #[.int .i64 a0_0, .int .i64 a0_1, .string a0_2], .agg #[.int .i64 a1_0, .int .i64 a1_1, .string a1_2]] w fun e w' => e = .returned (.int .i64 r) ∧ Below w.heap.size w w' := by
 have hu69 := Try.underlying69
 have HB := Aside0.mk (Below.refl w.heap.size w)
 have H : (if a0_0 = 4 then (parterreref18_many.j0 k (a0_2.toList == ([] : List UInt8)) a0_0 a0_1 a0_2 a1_0 a1_1 a1_2) else (parterreref18_many.j0 k false a0_0 a0_1 a0_2 a1_0 a1_1 a1_2)) = some r := h
 clear h
 have HC3 := Aside0.mk H
 clear H
 go_enter Try.func91, Try.ntmps91
 go_upto_region 1 with (first | ((with_reducible refine gate_dst (N := 2) rfl ?_); refine box_event ?hg (N := 2) ?hd (cs := #[.int .i64 a0_0, .int .i64 a0_1, .string a0_2]) (t := 69) ?hr ?_; (case hd => rfl); (case hg => rfl); (case hr => first | (go_simp; done) | (go_simp; rfl)); intro gb262 hg w4 hbox hb; have n0_ := Aside0.mk (below_step bel_ hb); have n1_ := Aside0.mk (hbox); have n2_ := Aside0.mk ((bsz_ hg : w.heap.size ≤ gb262)); have n3_ := Aside0.mk ((bsz_ hg : w.heap.size ≤ gb262)); clear HB; have HB := n0_; have BK262 := n1_; have GW262 := n2_; have GE262 := n3_; clear n0_ n1_ n2_ n3_; clear hb hbox hg) | ((with_reducible refine gate_dst (N := 3) rfl ?_); refine box_event ?hg (N := 3) ?hd (cs := #[.int .i64 a1_0, .int .i64 a1_1, .string a1_2]) (t := 69) ?hr ?_; (case hd => rfl); (case hg => rfl); (case hr => first | (go_simp; done) | (go_simp; rfl)); intro gb263 hg w5 hbox hb; have n0_ := blb_ BK262 hb; have n1_ := Aside0.mk (below_step bel_ hb); have n2_ := Aside0.mk (hbox); have n3_ := Aside0.mk ((bsz_ hg : w.heap.size ≤ gb263)); have n4_ := Aside0.mk ((bsz_ hg : w.heap.size ≤ gb263)); have n5_ := Aside0.mk (bne_ BK262 hg : gb262 ≠ gb263); have n6_ := Aside0.mk (bng_ BK262 hg : gb263 ≠ gb262); clear BK262; clear HB; have BK262 := n0_; have HB := n1_; have BK263 := n2_; have GW263 := n3_; have GE263 := n4_; have NB262_263 := n5_; have NB263_262 := n6_; clear n0_ n1_ n2_ n3_ n4_ n5_ n6_; clear hb hbox hg))
 (try simp only [Act.put, List.setIfInBounds_toArray, List.set_cons_zero, List.set_cons_succ])
 go_cut [12] (fun v12 wc => ∃ (kq : Nat) (x12_2 : Bool), v12 = .bool x12_2 ∧ Aside0 (parterreref18_many.j0 kq x12_2 a0_0 a0_1 a0_2 a1_0 a1_1 a1_2 = some r) ∧ Aside0 (kq ≤ k) ∧ Aside0 (wc.heap[gb262]? = some (.cells #[.int .i64 a0_0, .int .i64 a0_1, .string a0_2] 69 (0, 0))) ∧ Aside0 (wc.heap[gb263]? = some (.cells #[.int .i64 a1_0, .int .i64 a1_1, .string a1_2] 69 (0, 0))) ∧ Aside0 (Below w.heap.size w wc))
 case first =>
  have H := HC3.out
  clear HC3
  by_cases c6 : a0_0 = 4
  ·rw [if_pos c6] at H
   have c6b0 : (a0_0 == 4) = true := beq_iff_eq.mpr c6
   have c6b1 : (a0_0 != 4) = false := bne_eq_false_iff_eq.mpr c6
   clear c6
   (first | rw [c6b0] | (simp only [i64_w, i32_w]; rw [c6b0]) | skip)
   have H' := Aside0.mk H
   clear H
   have hnb7 := NB262_263.out
   have hnc7 := NB263_262.out
   have hcz8_0 : w5.cell? ⟨gb262, 0, none⟩ = some (.int .i64 a0_0) := (blk_cell BK262.out 0).trans rfl
   have hcz8_1 : w5.cell? ⟨gb262, 1, none⟩ = some (.int .i64 a0_1) := (blk_cell BK262.out 1).trans rfl
   have hcz8_2 : w5.cell? ⟨gb262, 2, none⟩ = some (.string a0_2) := (blk_cell BK262.out 2).trans rfl
   have hfz8_0 := blk_frozen BK262.out 0
   have hfz8_1 := blk_frozen BK262.out 1
   have hfz8_2 := blk_frozen BK262.out 2
   go_wp2
   go_meet
   case rel => exact ⟨_, ((a0_2.toList == ([] : List UInt8))), rfs_, H', ⟨ole_⟩, ⟨blk_⟩, ⟨blk_⟩, ⟨bel_⟩⟩
  ·rw [if_neg c6] at H
   have c6b0 : (a0_0 == 4) = false := beq_eq_false_iff_ne.mpr c6
   have c6b1 : (a0_0 != 4) = true := bne_iff_ne.mpr c6
   (first | rw [c6b0] | (simp only [i64_w, i32_w]; rw [c6b0]) | skip)
   have H' := Aside0.mk H
   clear H
   have hnb9 := NB262_263.out
   have hnc9 := NB263_262.out
   have hcz10_0 : w5.cell? ⟨gb262, 0, none⟩ = some (.int .i64 a0_0) := (blk_cell BK262.out 0).trans rfl
   have hcz10_1 : w5.cell? ⟨gb262, 1, none⟩ = some (.int .i64 a0_1) := (blk_cell BK262.out 1).trans rfl
   have hcz10_2 : w5.cell? ⟨gb262, 2, none⟩ = some (.string a0_2) := (blk_cell BK262.out 2).trans rfl
   have hfz10_0 := blk_frozen BK262.out 0
   have hfz10_1 := blk_frozen BK262.out 1
   have hfz10_2 := blk_frozen BK262.out 2
   go_wp2
   go_meet
   case rel => exact ⟨_, (false), rfs_, H', ⟨ole_⟩, ⟨blk_⟩, ⟨blk_⟩, ⟨bel_⟩⟩
 case rest =>
  clear HC3
  try clear p2
  try clear c6
  try clear c6b0
  try clear c6b1
  try clear c7
  try clear c9
  try clear hcz10_0
  try clear hcz10_1
  try clear hcz10_2
  try clear hcz8_0
  try clear hcz8_1
  try clear hcz8_2
  try clear hfz10_0
  try clear hfz10_1
  try clear hfz10_2
  try clear hfz8_0
  try clear hfz8_1
  try clear hfz8_2
  obtain ⟨kq, x12_2, rfl, HA, HJ2, BK262, BK263, HB⟩ := hcut
  cases kq with
  | zero => exact absurd HA.out (by simp [parterreref18_many.j0])
  | succ kj2 =>
   have H := HA.out
   clear HA
   simp only [parterreref18_many.j0] at H
   by_cases c11 : x12_2 = true
   ·subst c11
    rw [if_pos rfl] at H
    obtain rfl := Option.some.inj H
    have hnb12 := NB262_263.out
    have hnc12 := NB263_262.out
    have hcz13_0 : wc.cell? ⟨gb262, 0, none⟩ = some (.int .i64 a0_0) := (blk_cell BK262.out 0).trans rfl
    have hcz13_1 : wc.cell? ⟨gb262, 1, none⟩ = some (.int .i64 a0_1) := (blk_cell BK262.out 1).trans rfl
    have hcz13_2 : wc.cell? ⟨gb262, 2, none⟩ = some (.string a0_2) := (blk_cell BK262.out 2).trans rfl
    have hfz13_0 := blk_frozen BK262.out 0
    have hfz13_1 := blk_frozen BK262.out 1
    have hfz13_2 := blk_frozen BK262.out 2
    go_wp2
    go_ret
    exact ⟨rsl_, bel_⟩
   ·replace c11 := Bool.eq_false_iff.mpr c11
    subst c11
    rw [if_neg (show ¬ (false = true) by decide)] at H
    by_cases c14 : a0_0 = 4
    ·rw [if_pos c14] at H
     have c14b0 : (a0_0 == 4) = true := beq_iff_eq.mpr c14
     have c14b1 : (a0_0 != 4) = false := bne_eq_false_iff_eq.mpr c14
     clear c14
     obtain rfl := Option.some.inj H
     have hnb15 := NB262_263.out
     have hnc15 := NB263_262.out
     have hcz16_0 : wc.cell? ⟨gb262, 0, none⟩ = some (.int .i64 a0_0) := (blk_cell BK262.out 0).trans rfl
     have hcz16_1 : wc.cell? ⟨gb262, 1, none⟩ = some (.int .i64 a0_1) := (blk_cell BK262.out 1).trans rfl
     have hcz16_2 : wc.cell? ⟨gb262, 2, none⟩ = some (.string a0_2) := (blk_cell BK262.out 2).trans rfl
     have hfz16_0 := blk_frozen BK262.out 0
     have hfz16_1 := blk_frozen BK262.out 1
     have hfz16_2 := blk_frozen BK262.out 2
     go_wp2
     go_ret
     exact ⟨rsl_, bel_⟩
    ·rw [if_neg c14] at H
     have c14b0 : (a0_0 == 4) = false := beq_eq_false_iff_ne.mpr c14
     have c14b1 : (a0_0 != 4) = true := bne_iff_ne.mpr c14
     by_cases c17 : a1_0 = 4
     ·rw [if_pos c17] at H
      have c17b0 : (a1_0 == 4) = true := beq_iff_eq.mpr c17
      have c17b1 : (a1_0 != 4) = false := bne_eq_false_iff_eq.mpr c17
      clear c17
      by_cases c18 : a1_2.toList = ([] : List UInt8)
      ·rw [if_pos c18] at H
       have c18b0 : (a1_2.toList == ([] : List UInt8)) = true := beq_iff_eq.mpr c18
       have c18b1 : (a1_2.toList != ([] : List UInt8)) = false := bne_eq_false_iff_eq.mpr c18
       clear c18
       obtain rfl := Option.some.inj H
       have hnb19 := NB262_263.out
       have hnc19 := NB263_262.out
       have hcz20_0 : wc.cell? ⟨gb262, 0, none⟩ = some (.int .i64 a0_0) := (blk_cell BK262.out 0).trans rfl
       have hcz20_1 : wc.cell? ⟨gb262, 1, none⟩ = some (.int .i64 a0_1) := (blk_cell BK262.out 1).trans rfl
       have hcz20_2 : wc.cell? ⟨gb262, 2, none⟩ = some (.string a0_2) := (blk_cell BK262.out 2).trans rfl
       have hfz20_0 := blk_frozen BK262.out 0
       have hfz20_1 := blk_frozen BK262.out 1
       have hfz20_2 := blk_frozen BK262.out 2
       have hcz21_0 : wc.cell? ⟨gb263, 0, none⟩ = some (.int .i64 a1_0) := (blk_cell BK263.out 0).trans rfl
       have hcz21_1 : wc.cell? ⟨gb263, 1, none⟩ = some (.int .i64 a1_1) := (blk_cell BK263.out 1).trans rfl
       have hcz21_2 : wc.cell? ⟨gb263, 2, none⟩ = some (.string a1_2) := (blk_cell BK263.out 2).trans rfl
       have hfz21_0 := blk_frozen BK263.out 0
       have hfz21_1 := blk_frozen BK263.out 1
       have hfz21_2 := blk_frozen BK263.out 2
       go_wp2
       go_ret
       exact ⟨rsl_, bel_⟩
      ·rw [if_neg c18] at H
       have c18b0 : (a1_2.toList == ([] : List UInt8)) = false := beq_eq_false_iff_ne.mpr c18
       have c18b1 : (a1_2.toList != ([] : List UInt8)) = true := bne_iff_ne.mpr c18
       obtain rfl := Option.some.inj H
       have hnb22 := NB262_263.out
       have hnc22 := NB263_262.out
       have hcz23_0 : wc.cell? ⟨gb262, 0, none⟩ = some (.int .i64 a0_0) := (blk_cell BK262.out 0).trans rfl
       have hcz23_1 : wc.cell? ⟨gb262, 1, none⟩ = some (.int .i64 a0_1) := (blk_cell BK262.out 1).trans rfl
       have hcz23_2 : wc.cell? ⟨gb262, 2, none⟩ = some (.string a0_2) := (blk_cell BK262.out 2).trans rfl
       have hfz23_0 := blk_frozen BK262.out 0
       have hfz23_1 := blk_frozen BK262.out 1
       have hfz23_2 := blk_frozen BK262.out 2
       have hcz24_0 : wc.cell? ⟨gb263, 0, none⟩ = some (.int .i64 a1_0) := (blk_cell BK263.out 0).trans rfl
       have hcz24_1 : wc.cell? ⟨gb263, 1, none⟩ = some (.int .i64 a1_1) := (blk_cell BK263.out 1).trans rfl
       have hcz24_2 : wc.cell? ⟨gb263, 2, none⟩ = some (.string a1_2) := (blk_cell BK263.out 2).trans rfl
       have hfz24_0 := blk_frozen BK263.out 0
       have hfz24_1 := blk_frozen BK263.out 1
       have hfz24_2 := blk_frozen BK263.out 2
       go_wp2
       go_ret
       exact ⟨rsl_, bel_⟩
     ·rw [if_neg c17] at H
      have c17b0 : (a1_0 == 4) = false := beq_eq_false_iff_ne.mpr c17
      have c17b1 : (a1_0 != 4) = true := bne_iff_ne.mpr c17
      obtain rfl := Option.some.inj H
      have hnb25 := NB262_263.out
      have hnc25 := NB263_262.out
      have hcz26_0 : wc.cell? ⟨gb262, 0, none⟩ = some (.int .i64 a0_0) := (blk_cell BK262.out 0).trans rfl
      have hcz26_1 : wc.cell? ⟨gb262, 1, none⟩ = some (.int .i64 a0_1) := (blk_cell BK262.out 1).trans rfl
      have hcz26_2 : wc.cell? ⟨gb262, 2, none⟩ = some (.string a0_2) := (blk_cell BK262.out 2).trans rfl
      have hfz26_0 := blk_frozen BK262.out 0
      have hfz26_1 := blk_frozen BK262.out 1
      have hfz26_2 := blk_frozen BK262.out 2
      have hcz27_0 : wc.cell? ⟨gb263, 0, none⟩ = some (.int .i64 a1_0) := (blk_cell BK263.out 0).trans rfl
      have hcz27_1 : wc.cell? ⟨gb263, 1, none⟩ = some (.int .i64 a1_1) := (blk_cell BK263.out 1).trans rfl
      have hcz27_2 : wc.cell? ⟨gb263, 2, none⟩ = some (.string a1_2) := (blk_cell BK263.out 2).trans rfl
      have hfz27_0 := blk_frozen BK263.out 0
      have hfz27_1 := blk_frozen BK263.out 1
      have hfz27_2 := blk_frozen BK263.out 2
      go_wp2
      go_ret
      exact ⟨rsl_, bel_⟩

/-! ### parterreref16_has: function 66 -/
def parterreref16_has.l0 : Nat → List ByteArray → ByteArray → Int → Option (Bool)
 | 0, _, _, _ => none
 | k + 1, x0, x1, x5 => if x5 < (x0.length : Int) then (if 0 ≤ x5 then (if (rdOf ByteArray.empty x0 x5).toList = x1.toList then (some true) else (parterreref16_has.l0 k x0 x1 (wrap64 (x5 + 1)))) else (none)) else (some (x1.toList == ([] : List UInt8)))
def parterreref16_has.f (k : Nat) (l0 : List ByteArray) (a1 : ByteArray) : Option (Bool) := parterreref16_has.l0 k l0 a1 0
theorem parterreref16_has.mono_l : ∀ k, (∀ y0 y1 y2, LeO (parterreref16_has.l0 k y0 y1 y2) (parterreref16_has.l0 (k + 1) y0 y1 y2))
 | 0 => fun _ _ _ r h => by simp [parterreref16_has.l0] at h
 | k + 1 => by
  have ih0 := parterreref16_has.mono_l k
  ·intro y0 y1 y2
   unfold parterreref16_has.l0
   repeat' first
   | (with_reducible exact ih0 _ _ _)
   | (with_reducible exact LeO.refl _)
   | (with_reducible exact LeO.none _)
   | (with_reducible refine LeO.ite ?_ ?_)
   | (with_reducible refine LeO.bind ?_ (fun _ => ?_))
theorem parterreref16_has.mono : ∀ a0 a1 k, LeO (parterreref16_has.f k a0 a1) (parterreref16_has.f (k + 1) a0 a1) := by
 intro a0 a1 k
 have ih0 := parterreref16_has.mono_l k
 unfold parterreref16_has.f
 repeat' first
   | (with_reducible exact ih0 _ _ _)
   | (with_reducible exact LeO.refl _)
   | (with_reducible exact LeO.none _)
   | (with_reducible refine LeO.ite ?_ ?_)
   | (with_reducible refine LeO.bind ?_ (fun _ => ?_))
set_option maxHeartbeats 8000000 in
set_option maxRecDepth 100000 in
theorem parterreref16_has.calls (k : Nat) (A0 : Option Addr) (c0 : Nat) (l0 : List ByteArray) (a1 : ByteArray) (r : Bool) (w : World) (hr0 : Kd.C Kd.string w A0 l0.length l0) (hc0 : l0.length ≤ c0) (h : parterreref16_has.f k l0 a1 = some r) :
  Calls Try.prog 66 #[.slice A0 l0.length c0, .string a1] w fun e w' => e = .returned (.bool r) ∧ Drawn0 w w' := by
 have HR0 := Aside0.mk hr0
 have HC0 := Aside0.mk hc0
 clear hr0 hc0
 have H : (parterreref16_has.l0 k l0 a1 0) = some r := h
 clear h
 have H' := Aside0.mk H
 clear H
 go_enter Try.func66, Try.ntmps66
 go_wp2
 go_loopg [5] k (fun kq v5 w' => ∃ (x5_1 : Int), v5 = .int .i64 x5_1 ∧ Aside0 (parterreref16_has.l0 kq l0 a1 x5_1 = some r) ∧ Aside0 (kq ≤ k) ∧ Drawn0 w w')
 case atStart => exact ⟨(0), rfs_, H', ⟨Nat.le_refl _⟩, by repeat (first | exact Drawn0.refl _ | apply Drawn0.step)⟩
 case round =>
  clear H'
  try clear p2
  obtain ⟨x5_1, rfl, HA, HK1, ⟨m1, rfl⟩⟩ := hrel
  cases gk with
  | zero => exact absurd HA.out (by simp [parterreref16_has.l0])
  | succ k1 =>
   have H := HA.out
   clear HA
   simp only [parterreref16_has.l0] at H
   by_cases c3 : x5_1 < (l0.length : Int)
   ·rw [if_pos c3] at H
    have c3b0 : decide (x5_1 < (l0.length : Int)) = true := decide_eq_true c3
    clear c3
    by_cases c4 : 0 ≤ x5_1
    ·rw [if_pos c4] at H
     have c4b0 : decide (0 ≤ x5_1) = true := decide_eq_true c4
     clear c4
     by_cases c5 : (rdOf ByteArray.empty l0 x5_1).toList = a1.toList
     ·rw [if_pos c5] at H
      have c5b0 : ((rdOf ByteArray.empty l0 x5_1).toList == a1.toList) = true := beq_iff_eq.mpr c5
      have c5b1 : ((rdOf ByteArray.empty l0 x5_1).toList != a1.toList) = false := bne_eq_false_iff_eq.mpr c5
      clear c5
      obtain rfl := Option.some.inj H
      have p264 : 0 ≤ (x5_1 : Int) := of_decide_eq_true (by first | (with_reducible assumption) | assumption)
      have q264 : x5_1 < (l0.length : Int) := of_decide_eq_true (by first | (with_reducible assumption) | assumption)
      obtain ⟨ad264, e264, hx264_0⟩ := Kd.at_string HR0.out x5_1 p264 q264
      cases e264
      replace p264 := eq_true p264
      replace q264 := eq_true q264
      go_wp2
      go_ret
      exact ⟨by first | rfl | (simp; done) | (simp [*]; done), by repeat (first | exact Drawn0.refl _ | apply Drawn0.step)⟩
     ·rw [if_neg c5] at H
      have c5b0 : ((rdOf ByteArray.empty l0 x5_1).toList == a1.toList) = false := beq_eq_false_iff_ne.mpr c5
      have c5b1 : ((rdOf ByteArray.empty l0 x5_1).toList != a1.toList) = true := bne_iff_ne.mpr c5
      have H' := Aside0.mk H
      clear H
      have p264 : 0 ≤ (x5_1 : Int) := of_decide_eq_true (by first | (with_reducible assumption) | assumption)
      have q264 : x5_1 < (l0.length : Int) := of_decide_eq_true (by first | (with_reducible assumption) | assumption)
      obtain ⟨ad264, e264, hx264_0⟩ := Kd.at_string HR0.out x5_1 p264 q264
      cases e264
      replace p264 := eq_true p264
      replace q264 := eq_true q264
      go_wp2
      go_roundg k1
      case measure => have := HK1.out; omega
      case rel => exact ⟨(wrap64 (x5_1 + 1)), rfs_, H', ⟨by have := HK1.out; omega⟩, by repeat (first | exact Drawn0.refl _ | apply Drawn0.step)⟩
    ·rw [if_neg c4] at H
     exact absurd H (by simp)
   ·rw [if_neg c3] at H
    have c3b0 : decide (x5_1 < (l0.length : Int)) = false := decide_eq_false c3
    clear c3
    obtain rfl := Option.some.inj H
    go_wp2
    go_ret
    exact ⟨by first | rfl | (simp; done) | (simp [*]; done), by repeat (first | exact Drawn0.refl _ | apply Drawn0.step)⟩

end Go.Proofs.Ytdjfdhnmbimkoaa.PRs
