-- Written by a program of this session (wip/p2) out of the translation; Lean checks it.
import Derived.Test.YtdjfdhnmbimkoaaSq
import Derived.Test.YtdjfdhnmbimkoaaPRsx0
import Derived.Test.YtdjfdhnmbimkoaaPRsx8
namespace Go.Proofs.Ytdjfdhnmbimkoaa.PRs
open Go.RowKit Go.Proofs.YtdjfdhnmbimkoaaW.PrintWords Go.Proofs.YtdjfdhnmbimkoaaW.PrintLast Go.Proofs.YtdjfdhnmbimkoaaW.PrintMore
attribute [local go_sem] max2_int min2_int max_two min_two max_three min_three max_four min_four   -- for this text's walks alone
set_option linter.unusedVariables false
set_option linter.unusedSimpArgs false
open Go.Proofs.Ytdjfdhnmbimkoaa.Opn Go.Proofs.Ytdjfdhnmbimkoaa.Giv

/-! ### resolve_far: function 88 -/
def resolve_far.f (k : Nat) (l0 : List (List ByteArray)) (a1 : Int) (a2_0 : Int) (a2_1 : Int) (a2_2 : ByteArray) (a3 : Int) : Option (Int) := if a2_0 = 4 then (if a2_2.toList = ([] : List UInt8) then (some (wrap64 (a1 + (wrap64 (a3 * a2_1))))) else ((names_Along.f k l0 a2_2 a1 (wrap64 (a3 * a2_1))).bind fun t133 => (some t133))) else (some (wrap64 (a1 + a3)))
theorem resolve_far.mono : ∀ a0 a1 a2 a3 a4 a5 k, LeO (resolve_far.f k a0 a1 a2 a3 a4 a5) (resolve_far.f (k + 1) a0 a1 a2 a3 a4 a5) := by
 intro a0 a1 a2 a3 a4 a5 k
 unfold resolve_far.f
 repeat' first
   | (with_reducible exact names_Along.mono _ _ _ _ _)
   | (with_reducible exact LeO.refl _)
   | (with_reducible exact LeO.none _)
   | (with_reducible refine LeO.ite ?_ ?_)
   | (with_reducible refine LeO.bind ?_ (fun _ => ?_))
set_option maxHeartbeats 8000000 in
set_option maxRecDepth 100000 in
theorem resolve_far.calls (k : Nat) (A0 : Option Addr) (c0 : Nat) (l0 : List (List ByteArray)) (a1 : Int) (a2_0 : Int) (a2_1 : Int) (a2_2 : ByteArray) (a3 : Int) (r : Int) (w : World) (hr0 : Kd.C (Kd.slice 9 Kd.string) w A0 l0.length l0) (hc0 : l0.length ≤ c0) (h : resolve_far.f k l0 a1 a2_0 a2_1 a2_2 a3 = some r) :
  Calls Try.prog 88 #[.slice A0 l0.length c0, .int .i64 a1, .agg #[.int .i64 a2_0, .int .i64 a2_1, .string a2_2], .int .i64 a3] w fun e w' => e = .returned (.int .i64 r) ∧ Below w.heap.size w w' := by
 have hu69 := Try.underlying69
 have HR0 := Aside0.mk hr0
 have HC0 := Aside0.mk hc0
 clear hr0 hc0
 have HB := Aside0.mk (Below.refl w.heap.size w)
 have H : (if a2_0 = 4 then (if a2_2.toList = ([] : List UInt8) then (some (wrap64 (a1 + (wrap64 (a3 * a2_1))))) else ((names_Along.f k l0 a2_2 a1 (wrap64 (a3 * a2_1))).bind fun t133 => (some t133))) else (some (wrap64 (a1 + a3)))) = some r := h
 clear h
 by_cases c5 : a2_0 = 4
 ·rw [if_pos c5] at H
  have c5b0 : (a2_0 == 4) = true := beq_iff_eq.mpr c5
  have c5b1 : (a2_0 != 4) = false := bne_eq_false_iff_eq.mpr c5
  clear c5
  by_cases c6 : a2_2.toList = ([] : List UInt8)
  ·rw [if_pos c6] at H
   have c6b0 : (a2_2.toList == ([] : List UInt8)) = true := beq_iff_eq.mpr c6
   have c6b1 : (a2_2.toList != ([] : List UInt8)) = false := bne_eq_false_iff_eq.mpr c6
   clear c6
   obtain rfl := Option.some.inj H
   go_enter Try.func88, Try.ntmps88
   go_wp2_with (first | ((with_reducible refine gate_dst (N := 6) rfl ?_); refine box_event ?hg (N := 6) ?hd (cs := #[.int .i64 a2_0, .int .i64 a2_1, .string a2_2]) (t := 69) ?hr ?_; (case hd => rfl); (case hg => rfl); (case hr => first | (go_simp; done) | (go_simp; rfl)); intro gb132 hg w7 hbox hb; have n0_ := Aside0.mk (below_step bel_ hb); have n1_ := Aside0.mk (hbox); have n2_ := Aside0.mk ((bsz_ hg : w.heap.size ≤ gb132)); have n3_ := Aside0.mk ((bsz_ hg : w.heap.size ≤ gb132)); clear HB; have HB := n0_; have BK132 := n1_; have GW132 := n2_; have GE132 := n3_; clear n0_ n1_ n2_ n3_; clear hb hbox hg; have hcz8_0 : w7.cell? ⟨gb132, 0, none⟩ = some (.int .i64 a2_0) := (blk_cell BK132.out 0).trans rfl; have hcz8_1 : w7.cell? ⟨gb132, 1, none⟩ = some (.int .i64 a2_1) := (blk_cell BK132.out 1).trans rfl; have hcz8_2 : w7.cell? ⟨gb132, 2, none⟩ = some (.string a2_2) := (blk_cell BK132.out 2).trans rfl; have hfz8_0 := blk_frozen BK132.out 0; have hfz8_1 := blk_frozen BK132.out 1; have hfz8_2 := blk_frozen BK132.out 2))
   go_ret
   exact ⟨rsl_, bel_⟩
  ·rw [if_neg c6] at H
   have c6b0 : (a2_2.toList == ([] : List UInt8)) = false := beq_eq_false_iff_ne.mpr c6
   have c6b1 : (a2_2.toList != ([] : List UInt8)) = true := bne_iff_ne.mpr c6
   replace H := Option.bind_eq_some_iff.mp H
   obtain ⟨t133, A90, H⟩ := H
   try dsimp only at H
   have A9 := Aside0.mk A90
   clear A90
   obtain rfl := Option.some.inj H
   go_enter Try.func88, Try.ntmps88
   go_wp2_with (first | ((with_reducible refine gate_dst (N := 6) rfl ?_); refine box_event ?hg (N := 6) ?hd (cs := #[.int .i64 a2_0, .int .i64 a2_1, .string a2_2]) (t := 69) ?hr ?_; (case hd => rfl); (case hg => rfl); (case hr => first | (go_simp; done) | (go_simp; rfl)); intro gb132 hg w10 hbox hb; have n0_ := Aside0.mk (below_step bel_ hb); have n1_ := Aside0.mk (hbox); have n2_ := Aside0.mk ((bsz_ hg : w.heap.size ≤ gb132)); have n3_ := Aside0.mk ((bsz_ hg : w.heap.size ≤ gb132)); clear HB; have HB := n0_; have BK132 := n1_; have GW132 := n2_; have GE132 := n3_; clear n0_ n1_ n2_ n3_; clear hb hbox hg; have hcz11_0 : w10.cell? ⟨gb132, 0, none⟩ = some (.int .i64 a2_0) := (blk_cell BK132.out 0).trans rfl; have hcz11_1 : w10.cell? ⟨gb132, 1, none⟩ = some (.int .i64 a2_1) := (blk_cell BK132.out 1).trans rfl; have hcz11_2 : w10.cell? ⟨gb132, 2, none⟩ = some (.string a2_2) := (blk_cell BK132.out 2).trans rfl; have hfz11_0 := blk_frozen BK132.out 0; have hfz11_1 := blk_frozen BK132.out 1; have hfz11_2 := blk_frozen BK132.out 2) | ((with_reducible refine gate_callee (f := 18) rfl ?_); refine goesL_ (some 28) rfl rfl Try.func18 (by kernel_rfl) rfl #[.slice A0 l0.length c0, .string a2_2, .int .i64 a1, .int .i64 (wrap64 (a3 * a2_1))] rfl goa_ ?_; (with_reducible refine (names_Along.calls k _ _ l0 a2_2 a1 (wrap64 (a3 * a2_1)) t133 _ ?side1 ?side2 A9.out).mono ?_); (case side1 => repeat (first | exact (Kd.C_below HR0.out HB.out) | (with_reducible refine Kd.C_alloc ?_ _) | (with_reducible refine Kd.C_drewN ?_ _) | (with_reducible refine Kd.C_drew ?_))); (case side2 => exact HC0.out); rintro e w12 ⟨rfl, hb⟩; refine ⟨_, rfl, ?_⟩; have n0_ := blb_ BK132 hb; have n1_ := Aside0.mk (below_step bel_ hb); clear BK132; clear HB; have BK132 := n0_; have HB := n1_; clear n0_ n1_; clear hb))
   go_ret
   exact ⟨rsl_, bel_⟩
 ·rw [if_neg c5] at H
  have c5b0 : (a2_0 == 4) = false := beq_eq_false_iff_ne.mpr c5
  have c5b1 : (a2_0 != 4) = true := bne_iff_ne.mpr c5
  obtain rfl := Option.some.inj H
  go_enter Try.func88, Try.ntmps88
  go_wp2_with (first | ((with_reducible refine gate_dst (N := 6) rfl ?_); refine box_event ?hg (N := 6) ?hd (cs := #[.int .i64 a2_0, .int .i64 a2_1, .string a2_2]) (t := 69) ?hr ?_; (case hd => rfl); (case hg => rfl); (case hr => first | (go_simp; done) | (go_simp; rfl)); intro gb132 hg w13 hbox hb; have n0_ := Aside0.mk (below_step bel_ hb); have n1_ := Aside0.mk (hbox); have n2_ := Aside0.mk ((bsz_ hg : w.heap.size ≤ gb132)); have n3_ := Aside0.mk ((bsz_ hg : w.heap.size ≤ gb132)); clear HB; have HB := n0_; have BK132 := n1_; have GW132 := n2_; have GE132 := n3_; clear n0_ n1_ n2_ n3_; clear hb hbox hg; have hcz14_0 : w13.cell? ⟨gb132, 0, none⟩ = some (.int .i64 a2_0) := (blk_cell BK132.out 0).trans rfl; have hcz14_1 : w13.cell? ⟨gb132, 1, none⟩ = some (.int .i64 a2_1) := (blk_cell BK132.out 1).trans rfl; have hcz14_2 : w13.cell? ⟨gb132, 2, none⟩ = some (.string a2_2) := (blk_cell BK132.out 2).trans rfl; have hfz14_0 := blk_frozen BK132.out 0; have hfz14_1 := blk_frozen BK132.out 1; have hfz14_2 := blk_frozen BK132.out 2))
  go_ret
  exact ⟨rsl_, bel_⟩

end Go.Proofs.Ytdjfdhnmbimkoaa.PRs
