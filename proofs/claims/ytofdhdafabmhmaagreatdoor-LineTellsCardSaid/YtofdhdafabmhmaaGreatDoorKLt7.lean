/- LineTellsCardSaid, part 8 of 8: the statement itself, and what it stands on. Conditions: none beyond what the statements say. -/
import Derived.Test.YtofdhdafabmhmaaGreatDoorKLt0
import Derived.Test.YtofdhdafabmhmaaGreatDoorKLt2
import Derived.Test.YtofdhdafabmhmaaGreatDoorKLt6
import Derived.Test.YtofdhdafabmhmaaGreatDoorKLt4
import Derived.Test.YtofdhdafabmhmaaGreatDoorKLt5
import Derived.Lib.IndexLaws
import Derived.Lib.ItoaNum
import Derived.Test.YtofdhdafabmhmaaGreatDoorRows
import Derived.Test.YtofdhdafabmhmaaGreatDoorCards
import Derived.Test.YtofdhdafabmhmaaGreatDoorTie
import Derived.Test.YtofdhdafabmhmaaGreatDoorKLt1
import Derived.SevenTiedAt
import Derived.LaidMore
import Derived.Stop.Joined
import Derived.WalkKit
import Derived.ProofKit
import Derived.OpenShut
import Derived.ShutString
import Derived.ChangeOld
import Derived.Below
import Derived.SizedLaws
import Derived.Carry
set_option linter.unusedVariables false
set_option linter.unusedSimpArgs false
section
namespace Go.Proofs.YtofdhdafabmhmaaGreatDoor.PLt
open Go.RowKit Go.Proofs.YtofdhdafabmhmaaGreatDoorW.PrintWords Go.Proofs.YtofdhdafabmhmaaGreatDoorW.PrintLast Go.Proofs.YtofdhdafabmhmaaGreatDoorW.PrintMore
attribute [local go_sem] max2_int min2_int max_two min_two max_three min_three max_four min_four
open Go.Proofs.YtofdhdafabmhmaaGreatDoor.Opn Go.Proofs.YtofdhdafabmhmaaGreatDoor.Giv

/-! ### parterreref07_Text: function 19 -/
def parterreref07_Text.f (k : Nat) (a0_0 : Int) (a0_1 : Int) (a0_2 : ByteArray) : Option (ByteArray) := (parterreref07_Good.f k a0_0 a0_1 a0_2).bind fun t326 => (if t326 = true then ((parterreref02_Text.f k a0_1 1).bind fun t327 => ((parterreref04_Write.f k a0_2).bind fun t328 => (if a0_0 = 1 then (some (⟨#[97, 117, 116, 111]⟩ : ByteArray)) else (if a0_0 = 3 then (some t328) else (if a0_0 = 2 then (if t328.toList = ([] : List UInt8) then (some t327) else (if t327.size + 1 ≤ 9223372036854775807 then (if (t327 ++ (⟨#[32]⟩ : ByteArray)).size + t328.size ≤ 9223372036854775807 then (some ((t327 ++ (⟨#[32]⟩ : ByteArray)) ++ t328)) else (none)) else (none))) else (if t328.toList = ([] : List UInt8) then (if 5 + t327.size ≤ 9223372036854775807 then (some ((⟨#[115, 112, 97, 110, 32]⟩ : ByteArray) ++ t327)) else (none)) else (if a0_1 = 1 then (if 5 + t328.size ≤ 9223372036854775807 then (some ((⟨#[115, 112, 97, 110, 32]⟩ : ByteArray) ++ t328)) else (none)) else (if 5 + t327.size ≤ 9223372036854775807 then (if ((⟨#[115, 112, 97, 110, 32]⟩ : ByteArray) ++ t327).size + 1 ≤ 9223372036854775807 then (if (((⟨#[115, 112, 97, 110, 32]⟩ : ByteArray) ++ t327) ++ (⟨#[32]⟩ : ByteArray)).size + t328.size ≤ 9223372036854775807 then (some ((((⟨#[115, 112, 97, 110, 32]⟩ : ByteArray) ++ t327) ++ (⟨#[32]⟩ : ByteArray)) ++ t328)) else (none)) else (none)) else (none))))))))) else (some (⟨#[]⟩ : ByteArray)))
theorem parterreref07_Text.mono : ∀ a0 a1 a2 k, LeO (parterreref07_Text.f k a0 a1 a2) (parterreref07_Text.f (k + 1) a0 a1 a2) := by
 intro a0 a1 a2 k
 unfold parterreref07_Text.f
 repeat' first
   | (with_reducible exact parterreref02_Text.mono _ _ _)
   | (with_reducible exact parterreref04_Write.mono _ _)
   | (with_reducible exact parterreref07_Good.mono _ _ _ _)
   | (with_reducible exact LeO.refl _)
   | (with_reducible exact LeO.none _)
   | (with_reducible refine LeO.ite ?_ ?_)
   | (with_reducible refine LeO.bind ?_ (fun _ => ?_))
set_option maxHeartbeats 8000000 in
set_option maxRecDepth 100000 in
theorem parterreref07_Text.calls (k : Nat) (a0_0 : Int) (a0_1 : Int) (a0_2 : ByteArray) (r : ByteArray) (w : World) (h : parterreref07_Text.f k a0_0 a0_1 a0_2 = some r) :
  Calls Tryz.prog 19 #[.agg #[.int .i64 a0_0, .int .i64 a0_1, .string a0_2]] w fun e w' => e = .returned (.string r) ∧ Below w.heap.size w w' := by
 have hu32 := Tryz.underlying32
 have HB := Aside0.mk (Below.refl w.heap.size w)
 have H : ((parterreref07_Good.f k a0_0 a0_1 a0_2).bind fun t326 => (if t326 = true then ((parterreref02_Text.f k a0_1 1).bind fun t327 => ((parterreref04_Write.f k a0_2).bind fun t328 => (if a0_0 = 1 then (some (⟨#[97, 117, 116, 111]⟩ : ByteArray)) else (if a0_0 = 3 then (some t328) else (if a0_0 = 2 then (if t328.toList = ([] : List UInt8) then (some t327) else (if t327.size + 1 ≤ 9223372036854775807 then (if (t327 ++ (⟨#[32]⟩ : ByteArray)).size + t328.size ≤ 9223372036854775807 then (some ((t327 ++ (⟨#[32]⟩ : ByteArray)) ++ t328)) else (none)) else (none))) else (if t328.toList = ([] : List UInt8) then (if 5 + t327.size ≤ 9223372036854775807 then (some ((⟨#[115, 112, 97, 110, 32]⟩ : ByteArray) ++ t327)) else (none)) else (if a0_1 = 1 then (if 5 + t328.size ≤ 9223372036854775807 then (some ((⟨#[115, 112, 97, 110, 32]⟩ : ByteArray) ++ t328)) else (none)) else (if 5 + t327.size ≤ 9223372036854775807 then (if ((⟨#[115, 112, 97, 110, 32]⟩ : ByteArray) ++ t327).size + 1 ≤ 9223372036854775807 then (if (((⟨#[115, 112, 97, 110, 32]⟩ : ByteArray) ++ t327) ++ (⟨#[32]⟩ : ByteArray)).size + t328.size ≤ 9223372036854775807 then (some ((((⟨#[115, 112, 97, 110, 32]⟩ : ByteArray) ++ t327) ++ (⟨#[32]⟩ : ByteArray)) ++ t328)) else (none)) else (none)) else (none))))))))) else (some (⟨#[]⟩ : ByteArray)))) = some r := h
 clear h
 replace H := Option.bind_eq_some_iff.mp H
 obtain ⟨t326, A20, H⟩ := H
 try dsimp only at H
 have A2 := Aside0.mk A20
 clear A20
 by_cases c3 : t326 = true
 ·subst c3
  rw [if_pos rfl] at H
  replace H := Option.bind_eq_some_iff.mp H
  obtain ⟨t327, A40, H⟩ := H
  try dsimp only at H
  have A4 := Aside0.mk A40
  clear A40
  replace H := Option.bind_eq_some_iff.mp H
  obtain ⟨t328, A50, H⟩ := H
  try dsimp only at H
  have A5 := Aside0.mk A50
  clear A50
  by_cases c6 : a0_0 = 1
  ·rw [if_pos c6] at H
   have c6b0 : (a0_0 == 1) = true := beq_iff_eq.mpr c6
   have c6b1 : (a0_0 != 1) = false := bne_eq_false_iff_eq.mpr c6
   clear c6
   obtain rfl := Option.some.inj H
   go_enter Tryz.func19, Tryz.ntmps19
   go_wp2_with (first | ((with_reducible refine gate_dst (N := 1) rfl ?_); refine box_event ?hg (N := 1) ?hd (cs := #[.int .i64 a0_0, .int .i64 a0_1, .string a0_2]) (t := 32) ?hr ?_; (case hd => rfl); (case hg => rfl); (case hr => first | (go_simp; done) | (go_simp; rfl)); intro gb325 hg w7 hbox hb; have n0_ := Aside0.mk (below_step bel_ hb); have n1_ := Aside0.mk (hbox); have n2_ := Aside0.mk ((bsz_ hg : w.heap.size ≤ gb325)); have n3_ := Aside0.mk ((bsz_ hg : w.heap.size ≤ gb325)); clear HB; have HB := n0_; have BK325 := n1_; have GW325 := n2_; have GE325 := n3_; clear n0_ n1_ n2_ n3_; clear hb hbox hg; have hcz8_0 : w7.cell? ⟨gb325, 0, none⟩ = some (.int .i64 a0_0) := (blk_cell BK325.out 0).trans rfl; have hcz8_1 : w7.cell? ⟨gb325, 1, none⟩ = some (.int .i64 a0_1) := (blk_cell BK325.out 1).trans rfl; have hcz8_2 : w7.cell? ⟨gb325, 2, none⟩ = some (.string a0_2) := (blk_cell BK325.out 2).trans rfl; have hfz8_0 := blk_frozen BK325.out 0; have hfz8_1 := blk_frozen BK325.out 1; have hfz8_2 := blk_frozen BK325.out 2) | ((with_reducible refine gate_callee (f := 17) rfl ?_); refine goesL_ (some 6) rfl rfl Tryz.func17 (by kernel_rfl) rfl #[.agg #[.int .i64 a0_0, .int .i64 a0_1, .string a0_2]] rfl goa_ ?_; (with_reducible refine (parterreref07_Good.calls k a0_0 a0_1 a0_2 true _ A2.out).mono ?_); rintro e w9 ⟨rfl, hb⟩; refine ⟨_, rfl, ?_⟩; have n0_ := blb_ BK325 hb; have n1_ := Aside0.mk (below_step bel_ hb); clear BK325; clear HB; have BK325 := n0_; have HB := n1_; clear n0_ n1_; clear hb; have hcz10_0 : w9.cell? ⟨gb325, 0, none⟩ = some (.int .i64 a0_0) := (blk_cell BK325.out 0).trans rfl; have hcz10_1 : w9.cell? ⟨gb325, 1, none⟩ = some (.int .i64 a0_1) := (blk_cell BK325.out 1).trans rfl; have hcz10_2 : w9.cell? ⟨gb325, 2, none⟩ = some (.string a0_2) := (blk_cell BK325.out 2).trans rfl; have hfz10_0 := blk_frozen BK325.out 0; have hfz10_1 := blk_frozen BK325.out 1; have hfz10_2 := blk_frozen BK325.out 2) | ((with_reducible refine gate_callee (f := 42) rfl ?_); refine goesL_ (some 10) rfl rfl Tryz.func42 (by kernel_rfl) rfl #[.int .i64 a0_1, .int .i64 1] rfl goa_ ?_; (with_reducible refine (parterreref02_Text.calls k a0_1 1 t327 _ A4.out).mono ?_); rintro e w11 ⟨rfl, hb⟩; refine ⟨_, rfl, ?_⟩; have n0_ := blb_ BK325 hb; have n1_ := Aside0.mk (below_step bel_ hb); clear BK325; clear HB; have BK325 := n0_; have HB := n1_; clear n0_ n1_; clear hb; have hcz12_0 : w11.cell? ⟨gb325, 0, none⟩ = some (.int .i64 a0_0) := (blk_cell BK325.out 0).trans rfl; have hcz12_1 : w11.cell? ⟨gb325, 1, none⟩ = some (.int .i64 a0_1) := (blk_cell BK325.out 1).trans rfl; have hcz12_2 : w11.cell? ⟨gb325, 2, none⟩ = some (.string a0_2) := (blk_cell BK325.out 2).trans rfl; have hfz12_0 := blk_frozen BK325.out 0; have hfz12_1 := blk_frozen BK325.out 1; have hfz12_2 := blk_frozen BK325.out 2) | ((with_reducible refine gate_callee (f := 43) rfl ?_); refine goesL_ (some 13) rfl rfl Tryz.func43 (by kernel_rfl) rfl #[.string a0_2] rfl goa_ ?_; (with_reducible refine (parterreref04_Write.calls k a0_2 t328 _ A5.out).mono ?_); rintro e w' ⟨rfl, ⟨nd, rfl⟩⟩; refine ⟨_, rfl, ?_⟩))
   go_ret
   exact ⟨rsl_, bel_⟩
  ·rw [if_neg c6] at H
   have c6b0 : (a0_0 == 1) = false := beq_eq_false_iff_ne.mpr c6
   have c6b1 : (a0_0 != 1) = true := bne_iff_ne.mpr c6
   by_cases c13 : a0_0 = 3
   ·rw [if_pos c13] at H
    have c13b0 : (a0_0 == 3) = true := beq_iff_eq.mpr c13
    have c13b1 : (a0_0 != 3) = false := bne_eq_false_iff_eq.mpr c13
    clear c13
    obtain rfl := Option.some.inj H
    go_enter Tryz.func19, Tryz.ntmps19
    go_wp2_with (first | ((with_reducible refine gate_dst (N := 1) rfl ?_); refine box_event ?hg (N := 1) ?hd (cs := #[.int .i64 a0_0, .int .i64 a0_1, .string a0_2]) (t := 32) ?hr ?_; (case hd => rfl); (case hg => rfl); (case hr => first | (go_simp; done) | (go_simp; rfl)); intro gb325 hg w14 hbox hb; have n0_ := Aside0.mk (below_step bel_ hb); have n1_ := Aside0.mk (hbox); have n2_ := Aside0.mk ((bsz_ hg : w.heap.size ≤ gb325)); have n3_ := Aside0.mk ((bsz_ hg : w.heap.size ≤ gb325)); clear HB; have HB := n0_; have BK325 := n1_; have GW325 := n2_; have GE325 := n3_; clear n0_ n1_ n2_ n3_; clear hb hbox hg; have hcz15_0 : w14.cell? ⟨gb325, 0, none⟩ = some (.int .i64 a0_0) := (blk_cell BK325.out 0).trans rfl; have hcz15_1 : w14.cell? ⟨gb325, 1, none⟩ = some (.int .i64 a0_1) := (blk_cell BK325.out 1).trans rfl; have hcz15_2 : w14.cell? ⟨gb325, 2, none⟩ = some (.string a0_2) := (blk_cell BK325.out 2).trans rfl; have hfz15_0 := blk_frozen BK325.out 0; have hfz15_1 := blk_frozen BK325.out 1; have hfz15_2 := blk_frozen BK325.out 2) | ((with_reducible refine gate_callee (f := 17) rfl ?_); refine goesL_ (some 6) rfl rfl Tryz.func17 (by kernel_rfl) rfl #[.agg #[.int .i64 a0_0, .int .i64 a0_1, .string a0_2]] rfl goa_ ?_; (with_reducible refine (parterreref07_Good.calls k a0_0 a0_1 a0_2 true _ A2.out).mono ?_); rintro e w16 ⟨rfl, hb⟩; refine ⟨_, rfl, ?_⟩; have n0_ := blb_ BK325 hb; have n1_ := Aside0.mk (below_step bel_ hb); clear BK325; clear HB; have BK325 := n0_; have HB := n1_; clear n0_ n1_; clear hb; have hcz17_0 : w16.cell? ⟨gb325, 0, none⟩ = some (.int .i64 a0_0) := (blk_cell BK325.out 0).trans rfl; have hcz17_1 : w16.cell? ⟨gb325, 1, none⟩ = some (.int .i64 a0_1) := (blk_cell BK325.out 1).trans rfl; have hcz17_2 : w16.cell? ⟨gb325, 2, none⟩ = some (.string a0_2) := (blk_cell BK325.out 2).trans rfl; have hfz17_0 := blk_frozen BK325.out 0; have hfz17_1 := blk_frozen BK325.out 1; have hfz17_2 := blk_frozen BK325.out 2) | ((with_reducible refine gate_callee (f := 42) rfl ?_); refine goesL_ (some 10) rfl rfl Tryz.func42 (by kernel_rfl) rfl #[.int .i64 a0_1, .int .i64 1] rfl goa_ ?_; (with_reducible refine (parterreref02_Text.calls k a0_1 1 t327 _ A4.out).mono ?_); rintro e w18 ⟨rfl, hb⟩; refine ⟨_, rfl, ?_⟩; have n0_ := blb_ BK325 hb; have n1_ := Aside0.mk (below_step bel_ hb); clear BK325; clear HB; have BK325 := n0_; have HB := n1_; clear n0_ n1_; clear hb; have hcz19_0 : w18.cell? ⟨gb325, 0, none⟩ = some (.int .i64 a0_0) := (blk_cell BK325.out 0).trans rfl; have hcz19_1 : w18.cell? ⟨gb325, 1, none⟩ = some (.int .i64 a0_1) := (blk_cell BK325.out 1).trans rfl; have hcz19_2 : w18.cell? ⟨gb325, 2, none⟩ = some (.string a0_2) := (blk_cell BK325.out 2).trans rfl; have hfz19_0 := blk_frozen BK325.out 0; have hfz19_1 := blk_frozen BK325.out 1; have hfz19_2 := blk_frozen BK325.out 2) | ((with_reducible refine gate_callee (f := 43) rfl ?_); refine goesL_ (some 13) rfl rfl Tryz.func43 (by kernel_rfl) rfl #[.string a0_2] rfl goa_ ?_; (with_reducible refine (parterreref04_Write.calls k a0_2 t328 _ A5.out).mono ?_); rintro e w' ⟨rfl, ⟨nd, rfl⟩⟩; refine ⟨_, rfl, ?_⟩))
    go_ret
    exact ⟨rsl_, bel_⟩
   ·rw [if_neg c13] at H
    have c13b0 : (a0_0 == 3) = false := beq_eq_false_iff_ne.mpr c13
    have c13b1 : (a0_0 != 3) = true := bne_iff_ne.mpr c13
    by_cases c20 : a0_0 = 2
    ·rw [if_pos c20] at H
     have c20b0 : (a0_0 == 2) = true := beq_iff_eq.mpr c20
     have c20b1 : (a0_0 != 2) = false := bne_eq_false_iff_eq.mpr c20
     clear c20
     by_cases c21 : t328.toList = ([] : List UInt8)
     ·rw [if_pos c21] at H
      have c21b0 : (t328.toList == ([] : List UInt8)) = true := beq_iff_eq.mpr c21
      have c21b1 : (t328.toList != ([] : List UInt8)) = false := bne_eq_false_iff_eq.mpr c21
      clear c21
      obtain rfl := Option.some.inj H
      go_enter Tryz.func19, Tryz.ntmps19
      go_wp2_with (first | ((with_reducible refine gate_dst (N := 1) rfl ?_); refine box_event ?hg (N := 1) ?hd (cs := #[.int .i64 a0_0, .int .i64 a0_1, .string a0_2]) (t := 32) ?hr ?_; (case hd => rfl); (case hg => rfl); (case hr => first | (go_simp; done) | (go_simp; rfl)); intro gb325 hg w22 hbox hb; have n0_ := Aside0.mk (below_step bel_ hb); have n1_ := Aside0.mk (hbox); have n2_ := Aside0.mk ((bsz_ hg : w.heap.size ≤ gb325)); have n3_ := Aside0.mk ((bsz_ hg : w.heap.size ≤ gb325)); clear HB; have HB := n0_; have BK325 := n1_; have GW325 := n2_; have GE325 := n3_; clear n0_ n1_ n2_ n3_; clear hb hbox hg; have hcz23_0 : w22.cell? ⟨gb325, 0, none⟩ = some (.int .i64 a0_0) := (blk_cell BK325.out 0).trans rfl; have hcz23_1 : w22.cell? ⟨gb325, 1, none⟩ = some (.int .i64 a0_1) := (blk_cell BK325.out 1).trans rfl; have hcz23_2 : w22.cell? ⟨gb325, 2, none⟩ = some (.string a0_2) := (blk_cell BK325.out 2).trans rfl; have hfz23_0 := blk_frozen BK325.out 0; have hfz23_1 := blk_frozen BK325.out 1; have hfz23_2 := blk_frozen BK325.out 2) | ((with_reducible refine gate_callee (f := 17) rfl ?_); refine goesL_ (some 6) rfl rfl Tryz.func17 (by kernel_rfl) rfl #[.agg #[.int .i64 a0_0, .int .i64 a0_1, .string a0_2]] rfl goa_ ?_; (with_reducible refine (parterreref07_Good.calls k a0_0 a0_1 a0_2 true _ A2.out).mono ?_); rintro e w24 ⟨rfl, hb⟩; refine ⟨_, rfl, ?_⟩; have n0_ := blb_ BK325 hb; have n1_ := Aside0.mk (below_step bel_ hb); clear BK325; clear HB; have BK325 := n0_; have HB := n1_; clear n0_ n1_; clear hb; have hcz25_0 : w24.cell? ⟨gb325, 0, none⟩ = some (.int .i64 a0_0) := (blk_cell BK325.out 0).trans rfl; have hcz25_1 : w24.cell? ⟨gb325, 1, none⟩ = some (.int .i64 a0_1) := (blk_cell BK325.out 1).trans rfl; have hcz25_2 : w24.cell? ⟨gb325, 2, none⟩ = some (.string a0_2) := (blk_cell BK325.out 2).trans rfl; have hfz25_0 := blk_frozen BK325.out 0; have hfz25_1 := blk_frozen BK325.out 1; have hfz25_2 := blk_frozen BK325.out 2) | ((with_reducible refine gate_callee (f := 42) rfl ?_); refine goesL_ (some 10) rfl rfl Tryz.func42 (by kernel_rfl) rfl #[.int .i64 a0_1, .int .i64 1] rfl goa_ ?_; (with_reducible refine (parterreref02_Text.calls k a0_1 1 t327 _ A4.out).mono ?_); rintro e w26 ⟨rfl, hb⟩; refine ⟨_, rfl, ?_⟩; have n0_ := blb_ BK325 hb; have n1_ := Aside0.mk (below_step bel_ hb); clear BK325; clear HB; have BK325 := n0_; have HB := n1_; clear n0_ n1_; clear hb; have hcz27_0 : w26.cell? ⟨gb325, 0, none⟩ = some (.int .i64 a0_0) := (blk_cell BK325.out 0).trans rfl; have hcz27_1 : w26.cell? ⟨gb325, 1, none⟩ = some (.int .i64 a0_1) := (blk_cell BK325.out 1).trans rfl; have hcz27_2 : w26.cell? ⟨gb325, 2, none⟩ = some (.string a0_2) := (blk_cell BK325.out 2).trans rfl; have hfz27_0 := blk_frozen BK325.out 0; have hfz27_1 := blk_frozen BK325.out 1; have hfz27_2 := blk_frozen BK325.out 2) | ((with_reducible refine gate_callee (f := 43) rfl ?_); refine goesL_ (some 13) rfl rfl Tryz.func43 (by kernel_rfl) rfl #[.string a0_2] rfl goa_ ?_; (with_reducible refine (parterreref04_Write.calls k a0_2 t328 _ A5.out).mono ?_); rintro e w' ⟨rfl, ⟨nd, rfl⟩⟩; refine ⟨_, rfl, ?_⟩))
      go_ret
      exact ⟨rsl_, bel_⟩
     ·rw [if_neg c21] at H
      have c21b0 : (t328.toList == ([] : List UInt8)) = false := beq_eq_false_iff_ne.mpr c21
      have c21b1 : (t328.toList != ([] : List UInt8)) = true := bne_iff_ne.mpr c21
      by_cases c28 : t327.size + 1 ≤ 9223372036854775807
      ·rw [if_pos c28] at H
       have c28b0 := eq_true c28
       have c28b1 : decide (t327.size + 1 ≤ 9223372036854775807) = true := decide_eq_true c28
       try have c28b2 : (9223372036854775807 < t327.size + 1) = False := eq_false (Nat.not_lt.2 c28)
       by_cases c29 : (t327 ++ (⟨#[32]⟩ : ByteArray)).size + t328.size ≤ 9223372036854775807
       ·rw [if_pos c29] at H
        have c29b0 := eq_true c29
        have c29b1 : decide ((t327 ++ (⟨#[32]⟩ : ByteArray)).size + t328.size ≤ 9223372036854775807) = true := decide_eq_true c29
        try have c29b2 : (9223372036854775807 < (t327 ++ (⟨#[32]⟩ : ByteArray)).size + t328.size) = False := eq_false (Nat.not_lt.2 c29)
        try have c29b3 : (9223372036854775807 < t327.size + 1 + t328.size) = False := eq_false (Nat.not_lt.2 (by have h_ := c29; simp only [ByteArray.size_append] at h_; exact h_))
        obtain rfl := Option.some.inj H
        go_enter Tryz.func19, Tryz.ntmps19
        go_wp2_with (first | ((with_reducible refine gate_dst (N := 1) rfl ?_); refine box_event ?hg (N := 1) ?hd (cs := #[.int .i64 a0_0, .int .i64 a0_1, .string a0_2]) (t := 32) ?hr ?_; (case hd => rfl); (case hg => rfl); (case hr => first | (go_simp; done) | (go_simp; rfl)); intro gb325 hg w30 hbox hb; have n0_ := Aside0.mk (below_step bel_ hb); have n1_ := Aside0.mk (hbox); have n2_ := Aside0.mk ((bsz_ hg : w.heap.size ≤ gb325)); have n3_ := Aside0.mk ((bsz_ hg : w.heap.size ≤ gb325)); clear HB; have HB := n0_; have BK325 := n1_; have GW325 := n2_; have GE325 := n3_; clear n0_ n1_ n2_ n3_; clear hb hbox hg; have hcz31_0 : w30.cell? ⟨gb325, 0, none⟩ = some (.int .i64 a0_0) := (blk_cell BK325.out 0).trans rfl; have hcz31_1 : w30.cell? ⟨gb325, 1, none⟩ = some (.int .i64 a0_1) := (blk_cell BK325.out 1).trans rfl; have hcz31_2 : w30.cell? ⟨gb325, 2, none⟩ = some (.string a0_2) := (blk_cell BK325.out 2).trans rfl; have hfz31_0 := blk_frozen BK325.out 0; have hfz31_1 := blk_frozen BK325.out 1; have hfz31_2 := blk_frozen BK325.out 2) | ((with_reducible refine gate_callee (f := 17) rfl ?_); refine goesL_ (some 6) rfl rfl Tryz.func17 (by kernel_rfl) rfl #[.agg #[.int .i64 a0_0, .int .i64 a0_1, .string a0_2]] rfl goa_ ?_; (with_reducible refine (parterreref07_Good.calls k a0_0 a0_1 a0_2 true _ A2.out).mono ?_); rintro e w32 ⟨rfl, hb⟩; refine ⟨_, rfl, ?_⟩; have n0_ := blb_ BK325 hb; have n1_ := Aside0.mk (below_step bel_ hb); clear BK325; clear HB; have BK325 := n0_; have HB := n1_; clear n0_ n1_; clear hb; have hcz33_0 : w32.cell? ⟨gb325, 0, none⟩ = some (.int .i64 a0_0) := (blk_cell BK325.out 0).trans rfl; have hcz33_1 : w32.cell? ⟨gb325, 1, none⟩ = some (.int .i64 a0_1) := (blk_cell BK325.out 1).trans rfl; have hcz33_2 : w32.cell? ⟨gb325, 2, none⟩ = some (.string a0_2) := (blk_cell BK325.out 2).trans rfl; have hfz33_0 := blk_frozen BK325.out 0; have hfz33_1 := blk_frozen BK325.out 1; have hfz33_2 := blk_frozen BK325.out 2) | ((with_reducible refine gate_callee (f := 42) rfl ?_); refine goesL_ (some 10) rfl rfl Tryz.func42 (by kernel_rfl) rfl #[.int .i64 a0_1, .int .i64 1] rfl goa_ ?_; (with_reducible refine (parterreref02_Text.calls k a0_1 1 t327 _ A4.out).mono ?_); rintro e w34 ⟨rfl, hb⟩; refine ⟨_, rfl, ?_⟩; have n0_ := blb_ BK325 hb; have n1_ := Aside0.mk (below_step bel_ hb); clear BK325; clear HB; have BK325 := n0_; have HB := n1_; clear n0_ n1_; clear hb; have hcz35_0 : w34.cell? ⟨gb325, 0, none⟩ = some (.int .i64 a0_0) := (blk_cell BK325.out 0).trans rfl; have hcz35_1 : w34.cell? ⟨gb325, 1, none⟩ = some (.int .i64 a0_1) := (blk_cell BK325.out 1).trans rfl; have hcz35_2 : w34.cell? ⟨gb325, 2, none⟩ = some (.string a0_2) := (blk_cell BK325.out 2).trans rfl; have hfz35_0 := blk_frozen BK325.out 0; have hfz35_1 := blk_frozen BK325.out 1; have hfz35_2 := blk_frozen BK325.out 2) | ((with_reducible refine gate_callee (f := 43) rfl ?_); refine goesL_ (some 13) rfl rfl Tryz.func43 (by kernel_rfl) rfl #[.string a0_2] rfl goa_ ?_; (with_reducible refine (parterreref04_Write.calls k a0_2 t328 _ A5.out).mono ?_); rintro e w' ⟨rfl, ⟨nd, rfl⟩⟩; refine ⟨_, rfl, ?_⟩))
        go_ret
        exact ⟨rsl_, bel_⟩
       ·rw [if_neg c29] at H
        exact absurd H (by simp)
      ·rw [if_neg c28] at H
       exact absurd H (by simp)
    ·rw [if_neg c20] at H
     have c20b0 : (a0_0 == 2) = false := beq_eq_false_iff_ne.mpr c20
     have c20b1 : (a0_0 != 2) = true := bne_iff_ne.mpr c20
     by_cases c36 : t328.toList = ([] : List UInt8)
     ·rw [if_pos c36] at H
      have c36b0 : (t328.toList == ([] : List UInt8)) = true := beq_iff_eq.mpr c36
      have c36b1 : (t328.toList != ([] : List UInt8)) = false := bne_eq_false_iff_eq.mpr c36
      clear c36
      by_cases c37 : 5 + t327.size ≤ 9223372036854775807
      ·rw [if_pos c37] at H
       have c37b0 := eq_true c37
       have c37b1 : decide (5 + t327.size ≤ 9223372036854775807) = true := decide_eq_true c37
       try have c37b2 : (9223372036854775807 < 5 + t327.size) = False := eq_false (Nat.not_lt.2 c37)
       obtain rfl := Option.some.inj H
       go_enter Tryz.func19, Tryz.ntmps19
       go_wp2_with (first | ((with_reducible refine gate_dst (N := 1) rfl ?_); refine box_event ?hg (N := 1) ?hd (cs := #[.int .i64 a0_0, .int .i64 a0_1, .string a0_2]) (t := 32) ?hr ?_; (case hd => rfl); (case hg => rfl); (case hr => first | (go_simp; done) | (go_simp; rfl)); intro gb325 hg w38 hbox hb; have n0_ := Aside0.mk (below_step bel_ hb); have n1_ := Aside0.mk (hbox); have n2_ := Aside0.mk ((bsz_ hg : w.heap.size ≤ gb325)); have n3_ := Aside0.mk ((bsz_ hg : w.heap.size ≤ gb325)); clear HB; have HB := n0_; have BK325 := n1_; have GW325 := n2_; have GE325 := n3_; clear n0_ n1_ n2_ n3_; clear hb hbox hg; have hcz39_0 : w38.cell? ⟨gb325, 0, none⟩ = some (.int .i64 a0_0) := (blk_cell BK325.out 0).trans rfl; have hcz39_1 : w38.cell? ⟨gb325, 1, none⟩ = some (.int .i64 a0_1) := (blk_cell BK325.out 1).trans rfl; have hcz39_2 : w38.cell? ⟨gb325, 2, none⟩ = some (.string a0_2) := (blk_cell BK325.out 2).trans rfl; have hfz39_0 := blk_frozen BK325.out 0; have hfz39_1 := blk_frozen BK325.out 1; have hfz39_2 := blk_frozen BK325.out 2) | ((with_reducible refine gate_callee (f := 17) rfl ?_); refine goesL_ (some 6) rfl rfl Tryz.func17 (by kernel_rfl) rfl #[.agg #[.int .i64 a0_0, .int .i64 a0_1, .string a0_2]] rfl goa_ ?_; (with_reducible refine (parterreref07_Good.calls k a0_0 a0_1 a0_2 true _ A2.out).mono ?_); rintro e w40 ⟨rfl, hb⟩; refine ⟨_, rfl, ?_⟩; have n0_ := blb_ BK325 hb; have n1_ := Aside0.mk (below_step bel_ hb); clear BK325; clear HB; have BK325 := n0_; have HB := n1_; clear n0_ n1_; clear hb; have hcz41_0 : w40.cell? ⟨gb325, 0, none⟩ = some (.int .i64 a0_0) := (blk_cell BK325.out 0).trans rfl; have hcz41_1 : w40.cell? ⟨gb325, 1, none⟩ = some (.int .i64 a0_1) := (blk_cell BK325.out 1).trans rfl; have hcz41_2 : w40.cell? ⟨gb325, 2, none⟩ = some (.string a0_2) := (blk_cell BK325.out 2).trans rfl; have hfz41_0 := blk_frozen BK325.out 0; have hfz41_1 := blk_frozen BK325.out 1; have hfz41_2 := blk_frozen BK325.out 2) | ((with_reducible refine gate_callee (f := 42) rfl ?_); refine goesL_ (some 10) rfl rfl Tryz.func42 (by kernel_rfl) rfl #[.int .i64 a0_1, .int .i64 1] rfl goa_ ?_; (with_reducible refine (parterreref02_Text.calls k a0_1 1 t327 _ A4.out).mono ?_); rintro e w42 ⟨rfl, hb⟩; refine ⟨_, rfl, ?_⟩; have n0_ := blb_ BK325 hb; have n1_ := Aside0.mk (below_step bel_ hb); clear BK325; clear HB; have BK325 := n0_; have HB := n1_; clear n0_ n1_; clear hb; have hcz43_0 : w42.cell? ⟨gb325, 0, none⟩ = some (.int .i64 a0_0) := (blk_cell BK325.out 0).trans rfl; have hcz43_1 : w42.cell? ⟨gb325, 1, none⟩ = some (.int .i64 a0_1) := (blk_cell BK325.out 1).trans rfl; have hcz43_2 : w42.cell? ⟨gb325, 2, none⟩ = some (.string a0_2) := (blk_cell BK325.out 2).trans rfl; have hfz43_0 := blk_frozen BK325.out 0; have hfz43_1 := blk_frozen BK325.out 1; have hfz43_2 := blk_frozen BK325.out 2) | ((with_reducible refine gate_callee (f := 43) rfl ?_); refine goesL_ (some 13) rfl rfl Tryz.func43 (by kernel_rfl) rfl #[.string a0_2] rfl goa_ ?_; (with_reducible refine (parterreref04_Write.calls k a0_2 t328 _ A5.out).mono ?_); rintro e w' ⟨rfl, ⟨nd, rfl⟩⟩; refine ⟨_, rfl, ?_⟩))
       go_ret
       exact ⟨rsl_, bel_⟩
      ·rw [if_neg c37] at H
       exact absurd H (by simp)
     ·rw [if_neg c36] at H
      have c36b0 : (t328.toList == ([] : List UInt8)) = false := beq_eq_false_iff_ne.mpr c36
      have c36b1 : (t328.toList != ([] : List UInt8)) = true := bne_iff_ne.mpr c36
      by_cases c44 : a0_1 = 1
      ·rw [if_pos c44] at H
       have c44b0 : (a0_1 == 1) = true := beq_iff_eq.mpr c44
       have c44b1 : (a0_1 != 1) = false := bne_eq_false_iff_eq.mpr c44
       clear c44
       by_cases c45 : 5 + t328.size ≤ 9223372036854775807
       ·rw [if_pos c45] at H
        have c45b0 := eq_true c45
        have c45b1 : decide (5 + t328.size ≤ 9223372036854775807) = true := decide_eq_true c45
        try have c45b2 : (9223372036854775807 < 5 + t328.size) = False := eq_false (Nat.not_lt.2 c45)
        obtain rfl := Option.some.inj H
        go_enter Tryz.func19, Tryz.ntmps19
        go_wp2_with (first | ((with_reducible refine gate_dst (N := 1) rfl ?_); refine box_event ?hg (N := 1) ?hd (cs := #[.int .i64 a0_0, .int .i64 a0_1, .string a0_2]) (t := 32) ?hr ?_; (case hd => rfl); (case hg => rfl); (case hr => first | (go_simp; done) | (go_simp; rfl)); intro gb325 hg w46 hbox hb; have n0_ := Aside0.mk (below_step bel_ hb); have n1_ := Aside0.mk (hbox); have n2_ := Aside0.mk ((bsz_ hg : w.heap.size ≤ gb325)); have n3_ := Aside0.mk ((bsz_ hg : w.heap.size ≤ gb325)); clear HB; have HB := n0_; have BK325 := n1_; have GW325 := n2_; have GE325 := n3_; clear n0_ n1_ n2_ n3_; clear hb hbox hg; have hcz47_0 : w46.cell? ⟨gb325, 0, none⟩ = some (.int .i64 a0_0) := (blk_cell BK325.out 0).trans rfl; have hcz47_1 : w46.cell? ⟨gb325, 1, none⟩ = some (.int .i64 a0_1) := (blk_cell BK325.out 1).trans rfl; have hcz47_2 : w46.cell? ⟨gb325, 2, none⟩ = some (.string a0_2) := (blk_cell BK325.out 2).trans rfl; have hfz47_0 := blk_frozen BK325.out 0; have hfz47_1 := blk_frozen BK325.out 1; have hfz47_2 := blk_frozen BK325.out 2) | ((with_reducible refine gate_callee (f := 17) rfl ?_); refine goesL_ (some 6) rfl rfl Tryz.func17 (by kernel_rfl) rfl #[.agg #[.int .i64 a0_0, .int .i64 a0_1, .string a0_2]] rfl goa_ ?_; (with_reducible refine (parterreref07_Good.calls k a0_0 a0_1 a0_2 true _ A2.out).mono ?_); rintro e w48 ⟨rfl, hb⟩; refine ⟨_, rfl, ?_⟩; have n0_ := blb_ BK325 hb; have n1_ := Aside0.mk (below_step bel_ hb); clear BK325; clear HB; have BK325 := n0_; have HB := n1_; clear n0_ n1_; clear hb; have hcz49_0 : w48.cell? ⟨gb325, 0, none⟩ = some (.int .i64 a0_0) := (blk_cell BK325.out 0).trans rfl; have hcz49_1 : w48.cell? ⟨gb325, 1, none⟩ = some (.int .i64 a0_1) := (blk_cell BK325.out 1).trans rfl; have hcz49_2 : w48.cell? ⟨gb325, 2, none⟩ = some (.string a0_2) := (blk_cell BK325.out 2).trans rfl; have hfz49_0 := blk_frozen BK325.out 0; have hfz49_1 := blk_frozen BK325.out 1; have hfz49_2 := blk_frozen BK325.out 2) | ((with_reducible refine gate_callee (f := 42) rfl ?_); refine goesL_ (some 10) rfl rfl Tryz.func42 (by kernel_rfl) rfl #[.int .i64 a0_1, .int .i64 1] rfl goa_ ?_; (with_reducible refine (parterreref02_Text.calls k a0_1 1 t327 _ A4.out).mono ?_); rintro e w50 ⟨rfl, hb⟩; refine ⟨_, rfl, ?_⟩; have n0_ := blb_ BK325 hb; have n1_ := Aside0.mk (below_step bel_ hb); clear BK325; clear HB; have BK325 := n0_; have HB := n1_; clear n0_ n1_; clear hb; have hcz51_0 : w50.cell? ⟨gb325, 0, none⟩ = some (.int .i64 a0_0) := (blk_cell BK325.out 0).trans rfl; have hcz51_1 : w50.cell? ⟨gb325, 1, none⟩ = some (.int .i64 a0_1) := (blk_cell BK325.out 1).trans rfl; have hcz51_2 : w50.cell? ⟨gb325, 2, none⟩ = some (.string a0_2) := (blk_cell BK325.out 2).trans rfl; have hfz51_0 := blk_frozen BK325.out 0; have hfz51_1 := blk_frozen BK325.out 1; have hfz51_2 := blk_frozen BK325.out 2) | ((with_reducible refine gate_callee (f := 43) rfl ?_); refine goesL_ (some 13) rfl rfl Tryz.func43 (by kernel_rfl) rfl #[.string a0_2] rfl goa_ ?_; (with_reducible refine (parterreref04_Write.calls k a0_2 t328 _ A5.out).mono ?_); rintro e w' ⟨rfl, ⟨nd, rfl⟩⟩; refine ⟨_, rfl, ?_⟩))
        go_ret
        exact ⟨rsl_, bel_⟩
       ·rw [if_neg c45] at H
        exact absurd H (by simp)
      ·rw [if_neg c44] at H
       have c44b0 : (a0_1 == 1) = false := beq_eq_false_iff_ne.mpr c44
       have c44b1 : (a0_1 != 1) = true := bne_iff_ne.mpr c44
       by_cases c52 : 5 + t327.size ≤ 9223372036854775807
       ·rw [if_pos c52] at H
        have c52b0 := eq_true c52
        have c52b1 : decide (5 + t327.size ≤ 9223372036854775807) = true := decide_eq_true c52
        try have c52b2 : (9223372036854775807 < 5 + t327.size) = False := eq_false (Nat.not_lt.2 c52)
        by_cases c53 : ((⟨#[115, 112, 97, 110, 32]⟩ : ByteArray) ++ t327).size + 1 ≤ 9223372036854775807
        ·rw [if_pos c53] at H
         have c53b0 := eq_true c53
         have c53b1 : decide (((⟨#[115, 112, 97, 110, 32]⟩ : ByteArray) ++ t327).size + 1 ≤ 9223372036854775807) = true := decide_eq_true c53
         try have c53b2 : (9223372036854775807 < ((⟨#[115, 112, 97, 110, 32]⟩ : ByteArray) ++ t327).size + 1) = False := eq_false (Nat.not_lt.2 c53)
         try have c53b3 : (9223372036854775807 < 5 + t327.size + 1) = False := eq_false (Nat.not_lt.2 (by have h_ := c53; simp only [ByteArray.size_append] at h_; exact h_))
         by_cases c54 : (((⟨#[115, 112, 97, 110, 32]⟩ : ByteArray) ++ t327) ++ (⟨#[32]⟩ : ByteArray)).size + t328.size ≤ 9223372036854775807
         ·rw [if_pos c54] at H
          have c54b0 := eq_true c54
          have c54b1 : decide ((((⟨#[115, 112, 97, 110, 32]⟩ : ByteArray) ++ t327) ++ (⟨#[32]⟩ : ByteArray)).size + t328.size ≤ 9223372036854775807) = true := decide_eq_true c54
          try have c54b2 : (9223372036854775807 < (((⟨#[115, 112, 97, 110, 32]⟩ : ByteArray) ++ t327) ++ (⟨#[32]⟩ : ByteArray)).size + t328.size) = False := eq_false (Nat.not_lt.2 c54)
          try have c54b3 : (9223372036854775807 < 5 + t327.size + 1 + t328.size) = False := eq_false (Nat.not_lt.2 (by have h_ := c54; simp only [ByteArray.size_append] at h_; exact h_))
          obtain rfl := Option.some.inj H
          go_enter Tryz.func19, Tryz.ntmps19
          go_wp2_with (first | ((with_reducible refine gate_dst (N := 1) rfl ?_); refine box_event ?hg (N := 1) ?hd (cs := #[.int .i64 a0_0, .int .i64 a0_1, .string a0_2]) (t := 32) ?hr ?_; (case hd => rfl); (case hg => rfl); (case hr => first | (go_simp; done) | (go_simp; rfl)); intro gb325 hg w55 hbox hb; have n0_ := Aside0.mk (below_step bel_ hb); have n1_ := Aside0.mk (hbox); have n2_ := Aside0.mk ((bsz_ hg : w.heap.size ≤ gb325)); have n3_ := Aside0.mk ((bsz_ hg : w.heap.size ≤ gb325)); clear HB; have HB := n0_; have BK325 := n1_; have GW325 := n2_; have GE325 := n3_; clear n0_ n1_ n2_ n3_; clear hb hbox hg; have hcz56_0 : w55.cell? ⟨gb325, 0, none⟩ = some (.int .i64 a0_0) := (blk_cell BK325.out 0).trans rfl; have hcz56_1 : w55.cell? ⟨gb325, 1, none⟩ = some (.int .i64 a0_1) := (blk_cell BK325.out 1).trans rfl; have hcz56_2 : w55.cell? ⟨gb325, 2, none⟩ = some (.string a0_2) := (blk_cell BK325.out 2).trans rfl; have hfz56_0 := blk_frozen BK325.out 0; have hfz56_1 := blk_frozen BK325.out 1; have hfz56_2 := blk_frozen BK325.out 2) | ((with_reducible refine gate_callee (f := 17) rfl ?_); refine goesL_ (some 6) rfl rfl Tryz.func17 (by kernel_rfl) rfl #[.agg #[.int .i64 a0_0, .int .i64 a0_1, .string a0_2]] rfl goa_ ?_; (with_reducible refine (parterreref07_Good.calls k a0_0 a0_1 a0_2 true _ A2.out).mono ?_); rintro e w57 ⟨rfl, hb⟩; refine ⟨_, rfl, ?_⟩; have n0_ := blb_ BK325 hb; have n1_ := Aside0.mk (below_step bel_ hb); clear BK325; clear HB; have BK325 := n0_; have HB := n1_; clear n0_ n1_; clear hb; have hcz58_0 : w57.cell? ⟨gb325, 0, none⟩ = some (.int .i64 a0_0) := (blk_cell BK325.out 0).trans rfl; have hcz58_1 : w57.cell? ⟨gb325, 1, none⟩ = some (.int .i64 a0_1) := (blk_cell BK325.out 1).trans rfl; have hcz58_2 : w57.cell? ⟨gb325, 2, none⟩ = some (.string a0_2) := (blk_cell BK325.out 2).trans rfl; have hfz58_0 := blk_frozen BK325.out 0; have hfz58_1 := blk_frozen BK325.out 1; have hfz58_2 := blk_frozen BK325.out 2) | ((with_reducible refine gate_callee (f := 42) rfl ?_); refine goesL_ (some 10) rfl rfl Tryz.func42 (by kernel_rfl) rfl #[.int .i64 a0_1, .int .i64 1] rfl goa_ ?_; (with_reducible refine (parterreref02_Text.calls k a0_1 1 t327 _ A4.out).mono ?_); rintro e w59 ⟨rfl, hb⟩; refine ⟨_, rfl, ?_⟩; have n0_ := blb_ BK325 hb; have n1_ := Aside0.mk (below_step bel_ hb); clear BK325; clear HB; have BK325 := n0_; have HB := n1_; clear n0_ n1_; clear hb; have hcz60_0 : w59.cell? ⟨gb325, 0, none⟩ = some (.int .i64 a0_0) := (blk_cell BK325.out 0).trans rfl; have hcz60_1 : w59.cell? ⟨gb325, 1, none⟩ = some (.int .i64 a0_1) := (blk_cell BK325.out 1).trans rfl; have hcz60_2 : w59.cell? ⟨gb325, 2, none⟩ = some (.string a0_2) := (blk_cell BK325.out 2).trans rfl; have hfz60_0 := blk_frozen BK325.out 0; have hfz60_1 := blk_frozen BK325.out 1; have hfz60_2 := blk_frozen BK325.out 2) | ((with_reducible refine gate_callee (f := 43) rfl ?_); refine goesL_ (some 13) rfl rfl Tryz.func43 (by kernel_rfl) rfl #[.string a0_2] rfl goa_ ?_; (with_reducible refine (parterreref04_Write.calls k a0_2 t328 _ A5.out).mono ?_); rintro e w' ⟨rfl, ⟨nd, rfl⟩⟩; refine ⟨_, rfl, ?_⟩))
          go_ret
          exact ⟨rsl_, bel_⟩
         ·rw [if_neg c54] at H
          exact absurd H (by simp)
        ·rw [if_neg c53] at H
         exact absurd H (by simp)
       ·rw [if_neg c52] at H
        exact absurd H (by simp)
 ·replace c3 := Bool.eq_false_iff.mpr c3
  subst c3
  rw [if_neg (show ¬ (false = true) by decide)] at H
  obtain rfl := Option.some.inj H
  go_enter Tryz.func19, Tryz.ntmps19
  go_wp2_with (first | ((with_reducible refine gate_dst (N := 1) rfl ?_); refine box_event ?hg (N := 1) ?hd (cs := #[.int .i64 a0_0, .int .i64 a0_1, .string a0_2]) (t := 32) ?hr ?_; (case hd => rfl); (case hg => rfl); (case hr => first | (go_simp; done) | (go_simp; rfl)); intro gb325 hg w61 hbox hb; have n0_ := Aside0.mk (below_step bel_ hb); have n1_ := Aside0.mk (hbox); have n2_ := Aside0.mk ((bsz_ hg : w.heap.size ≤ gb325)); have n3_ := Aside0.mk ((bsz_ hg : w.heap.size ≤ gb325)); clear HB; have HB := n0_; have BK325 := n1_; have GW325 := n2_; have GE325 := n3_; clear n0_ n1_ n2_ n3_; clear hb hbox hg; have hcz62_0 : w61.cell? ⟨gb325, 0, none⟩ = some (.int .i64 a0_0) := (blk_cell BK325.out 0).trans rfl; have hcz62_1 : w61.cell? ⟨gb325, 1, none⟩ = some (.int .i64 a0_1) := (blk_cell BK325.out 1).trans rfl; have hcz62_2 : w61.cell? ⟨gb325, 2, none⟩ = some (.string a0_2) := (blk_cell BK325.out 2).trans rfl; have hfz62_0 := blk_frozen BK325.out 0; have hfz62_1 := blk_frozen BK325.out 1; have hfz62_2 := blk_frozen BK325.out 2) | ((with_reducible refine gate_callee (f := 17) rfl ?_); refine goesL_ (some 6) rfl rfl Tryz.func17 (by kernel_rfl) rfl #[.agg #[.int .i64 a0_0, .int .i64 a0_1, .string a0_2]] rfl goa_ ?_; (with_reducible refine (parterreref07_Good.calls k a0_0 a0_1 a0_2 false _ A2.out).mono ?_); rintro e w63 ⟨rfl, hb⟩; refine ⟨_, rfl, ?_⟩; have n0_ := blb_ BK325 hb; have n1_ := Aside0.mk (below_step bel_ hb); clear BK325; clear HB; have BK325 := n0_; have HB := n1_; clear n0_ n1_; clear hb))
  go_ret
  exact ⟨rsl_, bel_⟩

end Go.Proofs.YtofdhdafabmhmaaGreatDoor.PLt
end
section
namespace Go.Proofs.YtofdhdafabmhmaaGreatDoor.PLt
open Go.RowKit Go.Proofs.YtofdhdafabmhmaaGreatDoorW.PrintWords Go.Proofs.YtofdhdafabmhmaaGreatDoorW.PrintLast Go.Proofs.YtofdhdafabmhmaaGreatDoorW.PrintMore
attribute [local go_sem] max2_int min2_int max_two min_two max_three min_three max_four min_four
open Go.Proofs.YtofdhdafabmhmaaGreatDoor.Opn Go.Proofs.YtofdhdafabmhmaaGreatDoor.Giv

attribute [local go_sem high] eqA32
/-! ### line_PairText: function 20 -/
def line_PairText.j0 : Nat → Bool → Int → Int → ByteArray → Int → Int → ByteArray → Option (ByteArray)
 | 0, _, _, _, _, _, _, _ => none
 | k + 1, x5, x330000, x330001, x330002, x331000, x331001, x331002 => if x5 = true then (some (⟨#[]⟩ : ByteArray)) else ((line_other.f x330000 x330001 x330002).bind fun bt333 => (if (x331000 == bt333.1 && (x331001 == bt333.2.1 && (x331002.toList == bt333.2.2.toList))) = true then ((line_Text.f k x330000 x330001 x330002).bind fun t336 => (some t336)) else ((line_Text.f k x330000 x330001 x330002).bind fun t337 => (if t337.size + 3 ≤ 9223372036854775807 then ((line_Text.f k x331000 x331001 x331002).bind fun t338 => (if (t337 ++ (⟨#[32, 47, 32]⟩ : ByteArray)).size + t338.size ≤ 9223372036854775807 then (some ((t337 ++ (⟨#[32, 47, 32]⟩ : ByteArray)) ++ t338)) else (none))) else (none)))))
def line_PairText.f (k : Nat) (a0_0 : Int) (a0_1 : Int) (a0_2 : ByteArray) (a1_0 : Int) (a1_1 : Int) (a1_2 : ByteArray) : Option (ByteArray) := (line_Good.f k a0_0 a0_1 a0_2).bind fun t331 => (if t331 = true then ((line_Good.f k a1_0 a1_1 a1_2).bind fun t332 => (line_PairText.j0 k (!t332) a0_0 a0_1 a0_2 a1_0 a1_1 a1_2)) else (line_PairText.j0 k true a0_0 a0_1 a0_2 a1_0 a1_1 a1_2))
theorem line_PairText.mono_l : ∀ k, (∀ y0 y1 y2 y3 y4 y5 y6, LeO (line_PairText.j0 k y0 y1 y2 y3 y4 y5 y6) (line_PairText.j0 (k + 1) y0 y1 y2 y3 y4 y5 y6))
 | 0 => fun _ _ _ _ _ _ _ r h => by simp [line_PairText.j0] at h
 | k + 1 => by
  have ih0 := line_PairText.mono_l k
  ·intro y0 y1 y2 y3 y4 y5 y6
   unfold line_PairText.j0
   repeat' first
   | (with_reducible exact ih0 _ _ _ _ _ _ _)
   | (with_reducible exact line_Good.mono _ _ _ _)
   | (with_reducible exact line_Text.mono _ _ _ _)
   | (with_reducible exact LeO.refl _)
   | (with_reducible exact LeO.none _)
   | (with_reducible refine LeO.ite ?_ ?_)
   | (with_reducible refine LeO.bind ?_ (fun _ => ?_))
theorem line_PairText.mono : ∀ a0 a1 a2 a3 a4 a5 k, LeO (line_PairText.f k a0 a1 a2 a3 a4 a5) (line_PairText.f (k + 1) a0 a1 a2 a3 a4 a5) := by
 intro a0 a1 a2 a3 a4 a5 k
 have ih0 := line_PairText.mono_l k
 unfold line_PairText.f
 repeat' first
   | (with_reducible exact ih0 _ _ _ _ _ _ _)
   | (with_reducible exact line_Good.mono _ _ _ _)
   | (with_reducible exact line_Text.mono _ _ _ _)
   | (with_reducible exact LeO.refl _)
   | (with_reducible exact LeO.none _)
   | (with_reducible refine LeO.ite ?_ ?_)
   | (with_reducible refine LeO.bind ?_ (fun _ => ?_))
set_option maxHeartbeats 8000000 in
set_option maxRecDepth 100000 in
theorem line_PairText.calls (k : Nat) (a0_0 : Int) (a0_1 : Int) (a0_2 : ByteArray) (a1_0 : Int) (a1_1 : Int) (a1_2 : ByteArray) (r : ByteArray) (w : World) (h : line_PairText.f k a0_0 a0_1 a0_2 a1_0 a1_1 a1_2 = some r) (htab : Tbl.Tab0 w) :
  Calls Tryz.prog 20 #[.agg #[.int .i64 a0_0, .int .i64 a0_1, .string a0_2], .agg #[.int .i64 a1_0, .int .i64 a1_1, .string a1_2]] w fun e w' => e = .returned (.string r) ∧ Below w.heap.size w w' := by
 have HTB := Aside0.mk htab
 clear htab
 have hu32 := Tryz.underlying32
 have HB := Aside0.mk (Below.refl w.heap.size w)
 have H : ((line_Good.f k a0_0 a0_1 a0_2).bind fun t331 => (if t331 = true then ((line_Good.f k a1_0 a1_1 a1_2).bind fun t332 => (line_PairText.j0 k (!t332) a0_0 a0_1 a0_2 a1_0 a1_1 a1_2)) else (line_PairText.j0 k true a0_0 a0_1 a0_2 a1_0 a1_1 a1_2))) = some r := h
 clear h
 have HC3 := Aside0.mk H
 clear H
 go_enter Tryz.func20, Tryz.ntmps20
 go_upto_region 1 with (first | ((with_reducible refine gate_dst (N := 2) rfl ?_); refine box_event ?hg (N := 2) ?hd (cs := #[.int .i64 a0_0, .int .i64 a0_1, .string a0_2]) (t := 32) ?hr ?_; (case hd => rfl); (case hg => rfl); (case hr => first | (go_simp; done) | (go_simp; rfl)); intro gb329 hg w4 hbox hb; have n0_ := Aside0.mk (below_step bel_ hb); have n1_ := Aside0.mk (hbox); have n2_ := Aside0.mk ((bsz_ hg : w.heap.size ≤ gb329)); have n3_ := Aside0.mk ((bsz_ hg : w.heap.size ≤ gb329)); clear HB; have HB := n0_; have BK329 := n1_; have GW329 := n2_; have GE329 := n3_; clear n0_ n1_ n2_ n3_; clear hb hbox hg) | ((with_reducible refine gate_dst (N := 3) rfl ?_); refine box_event ?hg (N := 3) ?hd (cs := #[.int .i64 a1_0, .int .i64 a1_1, .string a1_2]) (t := 32) ?hr ?_; (case hd => rfl); (case hg => rfl); (case hr => first | (go_simp; done) | (go_simp; rfl)); intro gb330 hg w5 hbox hb; have n0_ := blb_ BK329 hb; have n1_ := Aside0.mk (below_step bel_ hb); have n2_ := Aside0.mk (hbox); have n3_ := Aside0.mk ((bsz_ hg : w.heap.size ≤ gb330)); have n4_ := Aside0.mk ((bsz_ hg : w.heap.size ≤ gb330)); have n5_ := Aside0.mk (bne_ BK329 hg : gb329 ≠ gb330); have n6_ := Aside0.mk (bng_ BK329 hg : gb330 ≠ gb329); clear BK329; clear HB; have BK329 := n0_; have HB := n1_; have BK330 := n2_; have GW330 := n3_; have GE330 := n4_; have NB329_330 := n5_; have NB330_329 := n6_; clear n0_ n1_ n2_ n3_ n4_ n5_ n6_; clear hb hbox hg))
 (try simp only [Act.put, List.setIfInBounds_toArray, List.set_cons_zero, List.set_cons_succ])
 go_cut [5] (fun v5 wc => ∃ (kq : Nat) (x5_2 : Bool), v5 = .bool x5_2 ∧ Aside0 (line_PairText.j0 kq x5_2 a0_0 a0_1 a0_2 a1_0 a1_1 a1_2 = some r) ∧ Aside0 (kq ≤ k) ∧ Aside0 (wc.heap[gb329]? = some (.cells #[.int .i64 a0_0, .int .i64 a0_1, .string a0_2] 32 (0, 0))) ∧ Aside0 (wc.heap[gb330]? = some (.cells #[.int .i64 a1_0, .int .i64 a1_1, .string a1_2] 32 (0, 0))) ∧ Aside0 (Below w.heap.size w wc))
 case first =>
  have H := HC3.out
  clear HC3
  replace H := Option.bind_eq_some_iff.mp H
  obtain ⟨t331, A60, H⟩ := H
  try dsimp only at H
  have A6 := Aside0.mk A60
  clear A60
  by_cases c7 : t331 = true
  ·subst c7
   rw [if_pos rfl] at H
   replace H := Option.bind_eq_some_iff.mp H
   obtain ⟨t332, A80, H⟩ := H
   try dsimp only at H
   have A8 := Aside0.mk A80
   clear A80
   have H' := Aside0.mk H
   clear H
   have hnb9 := NB329_330.out
   have hnc9 := NB330_329.out
   have hcz10_0 : w5.cell? ⟨gb329, 0, none⟩ = some (.int .i64 a0_0) := (blk_cell BK329.out 0).trans rfl
   have hcz10_1 : w5.cell? ⟨gb329, 1, none⟩ = some (.int .i64 a0_1) := (blk_cell BK329.out 1).trans rfl
   have hcz10_2 : w5.cell? ⟨gb329, 2, none⟩ = some (.string a0_2) := (blk_cell BK329.out 2).trans rfl
   have hfz10_0 := blk_frozen BK329.out 0
   have hfz10_1 := blk_frozen BK329.out 1
   have hfz10_2 := blk_frozen BK329.out 2
   go_wp2_with (first | ((with_reducible refine gate_callee (f := 16) rfl ?_); refine goesL_ (some 7) rfl rfl Tryz.func16 (by kernel_rfl) rfl #[.agg #[.int .i64 a0_0, .int .i64 a0_1, .string a0_2]] rfl goa_ ?_; (with_reducible refine (line_Good.calls k a0_0 a0_1 a0_2 true _ A6.out).mono ?_); rintro e w11 ⟨rfl, hb⟩; refine ⟨_, rfl, ?_⟩; have n0_ := blb_ BK329 hb; have n1_ := blb_ BK330 hb; have n2_ := Aside0.mk (below_step bel_ hb); clear BK329; clear BK330; clear HB; have BK329 := n0_; have BK330 := n1_; have HB := n2_; clear n0_ n1_ n2_; clear hb; have hcz12_0 : w11.cell? ⟨gb330, 0, none⟩ = some (.int .i64 a1_0) := (blk_cell BK330.out 0).trans rfl; have hcz12_1 : w11.cell? ⟨gb330, 1, none⟩ = some (.int .i64 a1_1) := (blk_cell BK330.out 1).trans rfl; have hcz12_2 : w11.cell? ⟨gb330, 2, none⟩ = some (.string a1_2) := (blk_cell BK330.out 2).trans rfl; have hfz12_0 := blk_frozen BK330.out 0; have hfz12_1 := blk_frozen BK330.out 1; have hfz12_2 := blk_frozen BK330.out 2) | (go_at_call 16; (with_reducible refine (line_Good.calls k a1_0 a1_1 a1_2 t332 _ A8.out).mono ?_); rintro e w13 ⟨rfl, hb⟩; have n0_ := blb_ BK329 hb; have n1_ := blb_ BK330 hb; have n2_ := Aside0.mk (below_step bel_ hb); clear BK329; clear BK330; clear HB; have BK329 := n0_; have BK330 := n1_; have HB := n2_; clear n0_ n1_ n2_; clear hb))
   go_meet
   case rel => exact ⟨_, (!t332), rfs_, (by first | exact H' | (subst_vars; exact H')), ⟨ole_⟩, ⟨blk_⟩, ⟨blk_⟩, ⟨bel_⟩⟩
  ·replace c7 := Bool.eq_false_iff.mpr c7
   subst c7
   rw [if_neg (show ¬ (false = true) by decide)] at H
   have H' := Aside0.mk H
   clear H
   have hnb14 := NB329_330.out
   have hnc14 := NB330_329.out
   have hcz15_0 : w5.cell? ⟨gb329, 0, none⟩ = some (.int .i64 a0_0) := (blk_cell BK329.out 0).trans rfl
   have hcz15_1 : w5.cell? ⟨gb329, 1, none⟩ = some (.int .i64 a0_1) := (blk_cell BK329.out 1).trans rfl
   have hcz15_2 : w5.cell? ⟨gb329, 2, none⟩ = some (.string a0_2) := (blk_cell BK329.out 2).trans rfl
   have hfz15_0 := blk_frozen BK329.out 0
   have hfz15_1 := blk_frozen BK329.out 1
   have hfz15_2 := blk_frozen BK329.out 2
   go_wp2_with (first | ((with_reducible refine gate_callee (f := 16) rfl ?_); refine goesL_ (some 7) rfl rfl Tryz.func16 (by kernel_rfl) rfl #[.agg #[.int .i64 a0_0, .int .i64 a0_1, .string a0_2]] rfl goa_ ?_; (with_reducible refine (line_Good.calls k a0_0 a0_1 a0_2 false _ A6.out).mono ?_); rintro e w16 ⟨rfl, hb⟩; refine ⟨_, rfl, ?_⟩; have n0_ := blb_ BK329 hb; have n1_ := blb_ BK330 hb; have n2_ := Aside0.mk (below_step bel_ hb); clear BK329; clear BK330; clear HB; have BK329 := n0_; have BK330 := n1_; have HB := n2_; clear n0_ n1_ n2_; clear hb))
   go_meet
   case rel => exact ⟨_, (true), rfs_, (by first | exact H' | (subst_vars; exact H')), ⟨ole_⟩, ⟨blk_⟩, ⟨blk_⟩, ⟨bel_⟩⟩
 case rest =>
  clear HC3
  try clear c1
  try clear c2
  try clear p2
  try clear c7
  try clear c9
  try clear c14
  try clear c16
  try clear hcz10_0
  try clear hcz10_1
  try clear hcz10_2
  try clear hcz12_0
  try clear hcz12_1
  try clear hcz12_2
  try clear hcz15_0
  try clear hcz15_1
  try clear hcz15_2
  try clear hfz10_0
  try clear hfz10_1
  try clear hfz10_2
  try clear hfz12_0
  try clear hfz12_1
  try clear hfz12_2
  try clear hfz15_0
  try clear hfz15_1
  try clear hfz15_2
  obtain ⟨kq, x5_2, rfl, HA, HJ2, BK329, BK330, HB⟩ := hcut
  cases kq with
  | zero => exact absurd HA.out (by simp [line_PairText.j0])
  | succ kj2 =>
   have H := HA.out
   clear HA
   simp only [line_PairText.j0] at H
   by_cases c17 : x5_2 = true
   ·subst c17
    rw [if_pos rfl] at H
    obtain rfl := Option.some.inj H
    go_wp2
    go_ret
    exact ⟨rsl_, bel_⟩
   ·replace c17 := Bool.eq_false_iff.mpr c17
    subst c17
    rw [if_neg (show ¬ (false = true) by decide)] at H
    replace H := Option.bind_eq_some_iff.mp H
    obtain ⟨⟨t333, t334, t335⟩, A180, H⟩ := H
    try dsimp only at H
    have A18 := Aside0.mk A180
    clear A180
    by_cases c19 : (a1_0 == t333 && (a1_1 == t334 && (a1_2.toList == t335.toList))) = true
    ·rw [if_pos c19] at H
     have c19b0 : (a1_0 == t333 && (a1_1 == t334 && (a1_2.toList == t335.toList))) = true := c19
     (try (have c19b1 : decide (a1_0 = t333 && (a1_1 == t334 && (a1_2.toList == t335.toList))) = true := by simpa using c19))
     (try (have c19b2 : (a1_0 == t333 && (a1_1 == t334 && (a1_2.toList == t335.toList))) = true := by simpa using c19))
     clear c19
     replace H := Option.bind_eq_some_iff.mp H
     obtain ⟨t336, A200, H⟩ := H
     try dsimp only at H
     have A20 := Aside0.mk A200
     clear A200
     obtain rfl := Option.some.inj H
     try go_wp2
     have n0_ := Aside0.mk (blk_drew BK329.out)
     have n1_ := Aside0.mk (blk_drew BK330.out)
     have n2_ := Aside0.mk (below_drew1 HB.out)
     clear BK329
     clear BK330
     clear HB
     have BK329 := n0_
     have BK330 := n1_
     have HB := n2_
     clear n0_ n1_ n2_
     refine start_ (n := 5) (S := fun w' => w'.cell? ⟨gb330, 0, none⟩ = some (.int .i64 a1_0) ∧ w'.cell? ⟨gb330, 1, none⟩ = some (.int .i64 a1_1) ∧ w'.cell? ⟨gb330, 2, none⟩ = some (.string a1_2) ∧ w'.cell? ⟨gb329, 0, none⟩ = some (.int .i64 a0_0) ∧ w'.cell? ⟨gb329, 1, none⟩ = some (.int .i64 a0_1) ∧ w'.cell? ⟨gb329, 2, none⟩ = some (.string a0_2)) (ds := []) #[false, false, false, false, false] (by kernel_rfl) rfl rfl ⟨(blk_cell BK330.out 0).trans rfl, (blk_cell BK330.out 1).trans rfl, (blk_cell BK330.out 2).trans rfl, (blk_cell BK329.out 0).trans rfl, (blk_cell BK329.out 1).trans rfl, (blk_cell BK329.out 2).trans rfl⟩ (fun hHeld => ?_)
     generalize wc.drew = w21 at BK329 BK330 HB hHeld ⊢
     refine take_ (i := 0) (N := some 15) (v := ?_) (a' := ?_) #[true, false, false, false, false] rfl rfl (by kernel_rfl) (fun _ _ _ h => h) (Or.inl ⟨by rfl, ?_⟩) hHeld ?_ ?_
     rotate_left
     ·rintro w' ⟨s0, s1, s2, s3, s4, s5⟩
      go_simp
      with_reducible rfl
     rotate_left
     ·simp only [Act.put, List.setIfInBounds_toArray, List.set_cons_zero, List.set_cons_succ, i64_w, i32_w]
      rfl
     refine take_ (i := 1) (N := some 16) (v := ?_) (a' := ?_) #[true, true, false, false, false] rfl rfl (by kernel_rfl) (fun _ _ _ h => h) (Or.inl ⟨by rfl, ?_⟩) hHeld ?_ ?_
     rotate_left
     ·rintro w' ⟨s0, s1, s2, s3, s4, s5⟩
      go_simp
      with_reducible rfl
     rotate_left
     ·simp only [Act.put, List.setIfInBounds_toArray, List.set_cons_zero, List.set_cons_succ, i64_w, i32_w]
      rfl
     refine one_ (i := 2) (N := some 17) #[true, true, true, false, false] rfl rfl (by kernel_rfl) (by decide) (fun K hK => ?_)
     refine goes_ Tryz.func44 (by kernel_rfl) rfl #[.agg #[.int .i64 a0_0, .int .i64 a0_1, .string a0_2]] (by rfl) rfl rfl goa_ ?_
     with_reducible refine (line_other.calls a0_0 a0_1 a0_2 t333 t334 t335 _ A18.out).mono ?_
     rintro e w22 ⟨rfl, hb⟩
     refine ⟨_, rfl, ?_⟩
     have n0_ := blb_ BK329 hb
     have n1_ := blb_ BK330 hb
     have n2_ := Aside0.mk (below_step bel_ hb)
     clear BK329
     clear BK330
     clear HB
     have BK329 := n0_
     have BK330 := n1_
     have HB := n2_
     clear n0_ n1_ n2_
     (try clear hb)
     (try clear hb2)
     (try clear hk)
     (try clear hi)
     refine hK.out _ _ ⟨(blk_cell BK330.out 0).trans rfl, (blk_cell BK330.out 1).trans rfl, (blk_cell BK330.out 2).trans rfl, (blk_cell BK329.out 0).trans rfl, (blk_cell BK329.out 1).trans rfl, (blk_cell BK329.out 2).trans rfl⟩ (fun hHeld => ?_)
     clear hK K
     refine norm_ (a' := ?_) ?_ ?_
     rotate_left
     ·show Act.put _ (some 17) _ = _
      simp only [Act.put, List.setIfInBounds_toArray, List.set_cons_zero, List.set_cons_succ, i64_w, i32_w]
      rfl
     refine pure_ (i := 3) (N := some 18) (v := ?_) (a' := ?_) #[true, true, true, true, false] rfl rfl (by kernel_rfl) (fun _ _ _ h => h) (Or.inl ⟨by rfl, ?_⟩) ?_ ?_
     rotate_left
     ·intro w'
      go_simp
      with_reducible rfl
     rotate_left
     ·simp only [Act.put, List.setIfInBounds_toArray, List.set_cons_zero, List.set_cons_succ, i64_w, i32_w]
      rfl
     refine pure_ (i := 4) (N := some 14) (v := ?_) (a' := ?_) #[true, true, true, true, true] rfl rfl (by kernel_rfl) (fun _ _ _ h => h) (Or.inl ⟨by rfl, ?_⟩) ?_ ?_
     rotate_left
     ·intro w'
      go_simp
      with_reducible rfl
     rotate_left
     ·simp only [Act.put, List.setIfInBounds_toArray, List.set_cons_zero, List.set_cons_succ, i64_w, i32_w]
      rfl
     refine done_ (by kernel_rfl) ?_
     have hnb23 := NB329_330.out
     have hnc23 := NB330_329.out
     have hcz24_0 : w22.cell? ⟨gb329, 0, none⟩ = some (.int .i64 a0_0) := (blk_cell BK329.out 0).trans rfl
     have hcz24_1 : w22.cell? ⟨gb329, 1, none⟩ = some (.int .i64 a0_1) := (blk_cell BK329.out 1).trans rfl
     have hcz24_2 : w22.cell? ⟨gb329, 2, none⟩ = some (.string a0_2) := (blk_cell BK329.out 2).trans rfl
     have hfz24_0 := blk_frozen BK329.out 0
     have hfz24_1 := blk_frozen BK329.out 1
     have hfz24_2 := blk_frozen BK329.out 2
     try go_wp2_with (first | ((with_reducible refine gate_callee (f := 18) rfl ?_); refine goesL_ (some 20) rfl rfl Tryz.func18 (by kernel_rfl) rfl #[.agg #[.int .i64 a0_0, .int .i64 a0_1, .string a0_2]] rfl goa_ ?_; (with_reducible refine (line_Text.calls kj2 a0_0 a0_1 a0_2 t336 _ A20.out (Tbl.tab0_stays HTB.out bel_)).mono ?_); rintro e w25 ⟨rfl, hb⟩; refine ⟨_, rfl, ?_⟩; have n0_ := blb_ BK329 hb; have n1_ := blb_ BK330 hb; have n2_ := Aside0.mk (below_step bel_ hb); clear BK329; clear BK330; clear HB; have BK329 := n0_; have BK330 := n1_; have HB := n2_; clear n0_ n1_ n2_; clear hb))
     go_ret
     exact ⟨rsl_, bel_⟩
    ·rw [if_neg c19] at H
     have c19b0 : (a1_0 == t333 && (a1_1 == t334 && (a1_2.toList == t335.toList))) = false := by simpa using c19
     (try (have c19b1 : decide (a1_0 = t333 && (a1_1 == t334 && (a1_2.toList == t335.toList))) = false := by simpa using c19))
     (try (have c19b2 : (a1_0 == t333 && (a1_1 == t334 && (a1_2.toList == t335.toList))) = false := by simpa using c19))
     (try (have c19b3 : ¬ (a1_0 = t333 && (a1_1 == t334 && (a1_2.toList == t335.toList))) := by simpa using c19))
     clear c19
     replace H := Option.bind_eq_some_iff.mp H
     obtain ⟨t337, A260, H⟩ := H
     try dsimp only at H
     have A26 := Aside0.mk A260
     clear A260
     by_cases c27 : t337.size + 3 ≤ 9223372036854775807
     ·rw [if_pos c27] at H
      have c27b0 := eq_true c27
      have c27b1 : decide (t337.size + 3 ≤ 9223372036854775807) = true := decide_eq_true c27
      try have c27b2 : (9223372036854775807 < t337.size + 3) = False := eq_false (Nat.not_lt.2 c27)
      replace H := Option.bind_eq_some_iff.mp H
      obtain ⟨t338, A280, H⟩ := H
      try dsimp only at H
      have A28 := Aside0.mk A280
      clear A280
      by_cases c29 : (t337 ++ (⟨#[32, 47, 32]⟩ : ByteArray)).size + t338.size ≤ 9223372036854775807
      ·rw [if_pos c29] at H
       have c29b0 := eq_true c29
       have c29b1 : decide ((t337 ++ (⟨#[32, 47, 32]⟩ : ByteArray)).size + t338.size ≤ 9223372036854775807) = true := decide_eq_true c29
       try have c29b2 : (9223372036854775807 < (t337 ++ (⟨#[32, 47, 32]⟩ : ByteArray)).size + t338.size) = False := eq_false (Nat.not_lt.2 c29)
       try have c29b3 : (9223372036854775807 < t337.size + 3 + t338.size) = False := eq_false (Nat.not_lt.2 (by have h_ := c29; simp only [ByteArray.size_append] at h_; exact h_))
       obtain rfl := Option.some.inj H
       try go_wp2
       have n0_ := Aside0.mk (blk_drew BK329.out)
       have n1_ := Aside0.mk (blk_drew BK330.out)
       have n2_ := Aside0.mk (below_drew1 HB.out)
       clear BK329
       clear BK330
       clear HB
       have BK329 := n0_
       have BK330 := n1_
       have HB := n2_
       clear n0_ n1_ n2_
       refine start_ (n := 5) (S := fun w' => w'.cell? ⟨gb330, 0, none⟩ = some (.int .i64 a1_0) ∧ w'.cell? ⟨gb330, 1, none⟩ = some (.int .i64 a1_1) ∧ w'.cell? ⟨gb330, 2, none⟩ = some (.string a1_2) ∧ w'.cell? ⟨gb329, 0, none⟩ = some (.int .i64 a0_0) ∧ w'.cell? ⟨gb329, 1, none⟩ = some (.int .i64 a0_1) ∧ w'.cell? ⟨gb329, 2, none⟩ = some (.string a0_2)) (ds := []) #[false, false, false, false, false] (by kernel_rfl) rfl rfl ⟨(blk_cell BK330.out 0).trans rfl, (blk_cell BK330.out 1).trans rfl, (blk_cell BK330.out 2).trans rfl, (blk_cell BK329.out 0).trans rfl, (blk_cell BK329.out 1).trans rfl, (blk_cell BK329.out 2).trans rfl⟩ (fun hHeld => ?_)
       generalize wc.drew = w30 at BK329 BK330 HB hHeld ⊢
       refine take_ (i := 0) (N := some 15) (v := ?_) (a' := ?_) #[true, false, false, false, false] rfl rfl (by kernel_rfl) (fun _ _ _ h => h) (Or.inl ⟨by rfl, ?_⟩) hHeld ?_ ?_
       rotate_left
       ·rintro w' ⟨s0, s1, s2, s3, s4, s5⟩
        go_simp
        with_reducible rfl
       rotate_left
       ·simp only [Act.put, List.setIfInBounds_toArray, List.set_cons_zero, List.set_cons_succ, i64_w, i32_w]
        rfl
       refine take_ (i := 1) (N := some 16) (v := ?_) (a' := ?_) #[true, true, false, false, false] rfl rfl (by kernel_rfl) (fun _ _ _ h => h) (Or.inl ⟨by rfl, ?_⟩) hHeld ?_ ?_
       rotate_left
       ·rintro w' ⟨s0, s1, s2, s3, s4, s5⟩
        go_simp
        with_reducible rfl
       rotate_left
       ·simp only [Act.put, List.setIfInBounds_toArray, List.set_cons_zero, List.set_cons_succ, i64_w, i32_w]
        rfl
       refine one_ (i := 2) (N := some 17) #[true, true, true, false, false] rfl rfl (by kernel_rfl) (by decide) (fun K hK => ?_)
       refine goes_ Tryz.func44 (by kernel_rfl) rfl #[.agg #[.int .i64 a0_0, .int .i64 a0_1, .string a0_2]] (by rfl) rfl rfl goa_ ?_
       with_reducible refine (line_other.calls a0_0 a0_1 a0_2 t333 t334 t335 _ A18.out).mono ?_
       rintro e w31 ⟨rfl, hb⟩
       refine ⟨_, rfl, ?_⟩
       have n0_ := blb_ BK329 hb
       have n1_ := blb_ BK330 hb
       have n2_ := Aside0.mk (below_step bel_ hb)
       clear BK329
       clear BK330
       clear HB
       have BK329 := n0_
       have BK330 := n1_
       have HB := n2_
       clear n0_ n1_ n2_
       (try clear hb)
       (try clear hb2)
       (try clear hk)
       (try clear hi)
       refine hK.out _ _ ⟨(blk_cell BK330.out 0).trans rfl, (blk_cell BK330.out 1).trans rfl, (blk_cell BK330.out 2).trans rfl, (blk_cell BK329.out 0).trans rfl, (blk_cell BK329.out 1).trans rfl, (blk_cell BK329.out 2).trans rfl⟩ (fun hHeld => ?_)
       clear hK K
       refine norm_ (a' := ?_) ?_ ?_
       rotate_left
       ·show Act.put _ (some 17) _ = _
        simp only [Act.put, List.setIfInBounds_toArray, List.set_cons_zero, List.set_cons_succ, i64_w, i32_w]
        rfl
       refine pure_ (i := 3) (N := some 18) (v := ?_) (a' := ?_) #[true, true, true, true, false] rfl rfl (by kernel_rfl) (fun _ _ _ h => h) (Or.inl ⟨by rfl, ?_⟩) ?_ ?_
       rotate_left
       ·intro w'
        go_simp
        with_reducible rfl
       rotate_left
       ·simp only [Act.put, List.setIfInBounds_toArray, List.set_cons_zero, List.set_cons_succ, i64_w, i32_w]
        rfl
       refine pure_ (i := 4) (N := some 14) (v := ?_) (a' := ?_) #[true, true, true, true, true] rfl rfl (by kernel_rfl) (fun _ _ _ h => h) (Or.inl ⟨by rfl, ?_⟩) ?_ ?_
       rotate_left
       ·intro w'
        go_simp
        with_reducible rfl
       rotate_left
       ·simp only [Act.put, List.setIfInBounds_toArray, List.set_cons_zero, List.set_cons_succ, i64_w, i32_w]
        rfl
       refine done_ (by kernel_rfl) ?_
       try go_wp2
       have n0_ := Aside0.mk (blk_drew BK329.out)
       have n1_ := Aside0.mk (blk_drew BK330.out)
       have n2_ := Aside0.mk (below_drew1 HB.out)
       clear BK329
       clear BK330
       clear HB
       have BK329 := n0_
       have BK330 := n1_
       have HB := n2_
       clear n0_ n1_ n2_
       refine start_ (n := 7) (S := fun w' => w'.cell? ⟨gb329, 0, none⟩ = some (.int .i64 a0_0) ∧ w'.cell? ⟨gb329, 1, none⟩ = some (.int .i64 a0_1) ∧ w'.cell? ⟨gb329, 2, none⟩ = some (.string a0_2) ∧ w'.cell? ⟨gb330, 0, none⟩ = some (.int .i64 a1_0) ∧ w'.cell? ⟨gb330, 1, none⟩ = some (.int .i64 a1_1) ∧ w'.cell? ⟨gb330, 2, none⟩ = some (.string a1_2)) (ds := []) #[false, false, false, false, false, false, false] (by kernel_rfl) rfl rfl ⟨(blk_cell BK329.out 0).trans rfl, (blk_cell BK329.out 1).trans rfl, (blk_cell BK329.out 2).trans rfl, (blk_cell BK330.out 0).trans rfl, (blk_cell BK330.out 1).trans rfl, (blk_cell BK330.out 2).trans rfl⟩ (fun hHeld => ?_)
       generalize w31.drew = w32 at BK329 BK330 HB hHeld ⊢
       refine take_ (i := 0) (N := some 21) (v := ?_) (a' := ?_) #[true, false, false, false, false, false, false] rfl rfl (by kernel_rfl) (fun _ _ _ h => h) (Or.inl ⟨by rfl, ?_⟩) hHeld ?_ ?_
       rotate_left
       ·rintro w' ⟨s0, s1, s2, s3, s4, s5⟩
        go_simp
        with_reducible rfl
       rotate_left
       ·simp only [Act.put, List.setIfInBounds_toArray, List.set_cons_zero, List.set_cons_succ, i64_w, i32_w]
        rfl
       refine take_ (i := 3) (N := some 24) (v := ?_) (a' := ?_) #[true, false, false, true, false, false, false] rfl rfl (by kernel_rfl) (fun _ _ _ h => h) (Or.inl ⟨by rfl, ?_⟩) hHeld ?_ ?_
       rotate_left
       ·rintro w' ⟨s0, s1, s2, s3, s4, s5⟩
        go_simp
        with_reducible rfl
       rotate_left
       ·simp only [Act.put, List.setIfInBounds_toArray, List.set_cons_zero, List.set_cons_succ, i64_w, i32_w]
        rfl
       refine one_ (i := 1) (N := some 22) #[true, true, false, true, false, false, false] rfl rfl (by kernel_rfl) (by decide) (fun K hK => ?_)
       refine goes_ Tryz.func18 (by kernel_rfl) rfl #[.agg #[.int .i64 a0_0, .int .i64 a0_1, .string a0_2]] (by rfl) rfl rfl goa_ ?_
       with_reducible refine (line_Text.calls kj2 a0_0 a0_1 a0_2 t337 _ A26.out (Tbl.tab0_stays HTB.out bel_)).mono ?_
       rintro e w33 ⟨rfl, hb⟩
       refine ⟨_, rfl, ?_⟩
       have n0_ := blb_ BK329 hb
       have n1_ := blb_ BK330 hb
       have n2_ := Aside0.mk (below_step bel_ hb)
       clear BK329
       clear BK330
       clear HB
       have BK329 := n0_
       have BK330 := n1_
       have HB := n2_
       clear n0_ n1_ n2_
       (try clear hb)
       (try clear hb2)
       (try clear hk)
       (try clear hi)
       refine hK.out _ _ ⟨(blk_cell BK329.out 0).trans rfl, (blk_cell BK329.out 1).trans rfl, (blk_cell BK329.out 2).trans rfl, (blk_cell BK330.out 0).trans rfl, (blk_cell BK330.out 1).trans rfl, (blk_cell BK330.out 2).trans rfl⟩ (fun hHeld => ?_)
       clear hK K
       refine norm_ (a' := ?_) ?_ ?_
       rotate_left
       ·show Act.put _ (some 22) _ = _
        simp only [Act.put, List.setIfInBounds_toArray, List.set_cons_zero, List.set_cons_succ, i64_w, i32_w]
        rfl
       refine pure_ (i := 2) (N := some 23) (v := ?_) (a' := ?_) #[true, true, true, true, false, false, false] rfl rfl (by kernel_rfl) (fun _ _ _ h => h) (Or.inl ⟨by rfl, ?_⟩) ?_ ?_
       rotate_left
       ·intro w'
        go_simp
        with_reducible rfl
       rotate_left
       ·simp only [Act.put, List.setIfInBounds_toArray, List.set_cons_zero, List.set_cons_succ, i64_w, i32_w]
        rfl
       refine one_ (i := 4) (N := some 25) #[true, true, true, true, true, false, false] rfl rfl (by kernel_rfl) (by decide) (fun K hK => ?_)
       refine goes_ Tryz.func18 (by kernel_rfl) rfl #[.agg #[.int .i64 a1_0, .int .i64 a1_1, .string a1_2]] (by rfl) rfl rfl goa_ ?_
       with_reducible refine (line_Text.calls kj2 a1_0 a1_1 a1_2 t338 _ A28.out (Tbl.tab0_stays HTB.out bel_)).mono ?_
       rintro e w34 ⟨rfl, hb⟩
       refine ⟨_, rfl, ?_⟩
       have n0_ := blb_ BK329 hb
       have n1_ := blb_ BK330 hb
       have n2_ := Aside0.mk (below_step bel_ hb)
       clear BK329
       clear BK330
       clear HB
       have BK329 := n0_
       have BK330 := n1_
       have HB := n2_
       clear n0_ n1_ n2_
       (try clear hb)
       (try clear hb2)
       (try clear hk)
       (try clear hi)
       refine hK.out _ _ ⟨(blk_cell BK329.out 0).trans rfl, (blk_cell BK329.out 1).trans rfl, (blk_cell BK329.out 2).trans rfl, (blk_cell BK330.out 0).trans rfl, (blk_cell BK330.out 1).trans rfl, (blk_cell BK330.out 2).trans rfl⟩ (fun hHeld => ?_)
       clear hK K
       refine norm_ (a' := ?_) ?_ ?_
       rotate_left
       ·show Act.put _ (some 25) _ = _
        simp only [Act.put, List.setIfInBounds_toArray, List.set_cons_zero, List.set_cons_succ, i64_w, i32_w]
        rfl
       refine pure_ (i := 5) (N := some 26) (v := ?_) (a' := ?_) #[true, true, true, true, true, true, false] rfl rfl (by kernel_rfl) (fun _ _ _ h => h) (Or.inl ⟨by rfl, ?_⟩) ?_ ?_
       rotate_left
       ·intro w'
        go_simp
        with_reducible rfl
       rotate_left
       ·simp only [Act.put, List.setIfInBounds_toArray, List.set_cons_zero, List.set_cons_succ, i64_w, i32_w]
        rfl
       refine pure_ (i := 6) (N := some 4) (v := ?_) (a' := ?_) #[true, true, true, true, true, true, true] rfl rfl (by kernel_rfl) (fun _ _ _ h => h) (Or.inl ⟨by rfl, ?_⟩) ?_ ?_
       rotate_left
       ·intro w'
        go_simp
        with_reducible rfl
       rotate_left
       ·simp only [Act.put, List.setIfInBounds_toArray, List.set_cons_zero, List.set_cons_succ, i64_w, i32_w]
        rfl
       refine done_ (by kernel_rfl) ?_
       try go_wp2
       go_ret
       exact ⟨rsl_, bel_⟩
      ·rw [if_neg c29] at H
       exact absurd H (by simp)
     ·rw [if_neg c27] at H
      exact absurd H (by simp)

end Go.Proofs.YtofdhdafabmhmaaGreatDoor.PLt
end
section
namespace Go.Proofs.YtofdhdafabmhmaaGreatDoor.PLt
open Go.RowKit Go.Proofs.YtofdhdafabmhmaaGreatDoorW.PrintWords Go.Proofs.YtofdhdafabmhmaaGreatDoorW.PrintLast Go.Proofs.YtofdhdafabmhmaaGreatDoorW.PrintMore
attribute [local go_sem] max2_int min2_int max_two min_two max_three min_three max_four min_four
open Go.Proofs.YtofdhdafabmhmaaGreatDoor.Opn Go.Proofs.YtofdhdafabmhmaaGreatDoor.Giv

/-! ### parterreref07_Other: function 45 -/
def parterreref07_Other.f (a0_0 : Int) (a0_1 : Int) (a0_2 : ByteArray) : Option (Int × Int × ByteArray) := if a0_0 = 3 then (some (a0_0, a0_1, a0_2)) else (some (1, 0, (⟨#[]⟩ : ByteArray)))
set_option maxHeartbeats 8000000 in
set_option maxRecDepth 100000 in
theorem parterreref07_Other.calls (a0_0 : Int) (a0_1 : Int) (a0_2 : ByteArray) (r1 : Int) (r2 : Int) (r3 : ByteArray) (w : World) (h : parterreref07_Other.f a0_0 a0_1 a0_2 = some (r1, r2, r3)) :
  Calls Tryz.prog 45 #[.agg #[.int .i64 a0_0, .int .i64 a0_1, .string a0_2]] w fun e w' => e = .returned (.agg #[.int .i64 r1, .int .i64 r2, .string r3]) ∧ Below w.heap.size w w' := by
 have hu32 := Tryz.underlying32
 have HB := Aside0.mk (Below.refl w.heap.size w)
 have H : (if a0_0 = 3 then (some (a0_0, a0_1, a0_2)) else (some (1, 0, (⟨#[]⟩ : ByteArray)))) = some (r1, r2, r3) := h
 clear h
 by_cases c2 : a0_0 = 3
 ·rw [if_pos c2] at H
  have c2b0 : (a0_0 == 3) = true := beq_iff_eq.mpr c2
  have c2b1 : (a0_0 != 3) = false := bne_eq_false_iff_eq.mpr c2
  clear c2
  simp only [Option.some.injEq, Prod.mk.injEq] at H
  obtain ⟨rfl, rfl, rfl⟩ := H
  go_enter Tryz.func45, Tryz.ntmps45
  go_wp2_with (first | ((with_reducible refine gate_dst (N := 1) rfl ?_); refine box_event ?hg (N := 1) ?hd (cs := #[.int .i64 a0_0, .int .i64 a0_1, .string a0_2]) (t := 32) ?hr ?_; (case hd => rfl); (case hg => rfl); (case hr => first | (go_simp; done) | (go_simp; rfl)); intro gb339 hg w3 hbox hb; have n0_ := Aside0.mk (below_step bel_ hb); have n1_ := Aside0.mk (hbox); have n2_ := Aside0.mk ((bsz_ hg : w.heap.size ≤ gb339)); have n3_ := Aside0.mk ((bsz_ hg : w.heap.size ≤ gb339)); clear HB; have HB := n0_; have BK339 := n1_; have GW339 := n2_; have GE339 := n3_; clear n0_ n1_ n2_ n3_; clear hb hbox hg) | ((with_reducible refine gate_dst (N := 2) rfl ?_); refine box_event ?hg (N := 2) ?hd (cs := #[.int .i64 0, .int .i64 0, .string (⟨#[]⟩ : ByteArray)]) (t := 32) ?hr ?_; (case hd => rfl); (case hg => rfl); (case hr => first | (go_simp; done) | (go_simp; rfl)); intro gb340 hg w4 hbox hb; have n0_ := blb_ BK339 hb; have n1_ := Aside0.mk (below_step bel_ hb); have n2_ := Aside0.mk (hbox); have n3_ := Aside0.mk ((bsz_ hg : w.heap.size ≤ gb340)); have n4_ := Aside0.mk ((bsz_ hg : w.heap.size ≤ gb340)); have n5_ := Aside0.mk (bne_ BK339 hg : gb339 ≠ gb340); have n6_ := Aside0.mk (bng_ BK339 hg : gb340 ≠ gb339); clear BK339; clear HB; have BK339 := n0_; have HB := n1_; have BK340 := n2_; have GW340 := n3_; have GE340 := n4_; have NB339_340 := n5_; have NB340_339 := n6_; clear n0_ n1_ n2_ n3_ n4_ n5_ n6_; clear hb hbox hg; have hnb5 := NB339_340.out; have hnc5 := NB340_339.out; have hcz6_0 : w4.cell? ⟨gb339, 0, none⟩ = some (.int .i64 a0_0) := (blk_cell BK339.out 0).trans rfl; have hcz6_1 : w4.cell? ⟨gb339, 1, none⟩ = some (.int .i64 a0_1) := (blk_cell BK339.out 1).trans rfl; have hcz6_2 : w4.cell? ⟨gb339, 2, none⟩ = some (.string a0_2) := (blk_cell BK339.out 2).trans rfl; have hfz6_0 := blk_frozen BK339.out 0; have hfz6_1 := blk_frozen BK339.out 1; have hfz6_2 := blk_frozen BK339.out 2; have hcz7_0 : w4.cell? ⟨gb340, 0, none⟩ = some (.int .i64 0) := (blk_cell BK340.out 0).trans rfl; have hcz7_1 : w4.cell? ⟨gb340, 1, none⟩ = some (.int .i64 0) := (blk_cell BK340.out 1).trans rfl; have hcz7_2 : w4.cell? ⟨gb340, 2, none⟩ = some (.string (⟨#[]⟩ : ByteArray)) := (blk_cell BK340.out 2).trans rfl; have hfz7_0 := blk_frozen BK340.out 0; have hfz7_1 := blk_frozen BK340.out 1; have hfz7_2 := blk_frozen BK340.out 2))
  refine bodyPost_ret (results_cell_row rfl _ _ gb340 32 #[.int .i64 a0_0, .int .i64 a0_1, .string a0_2] (0, 0) _ rfl (by (with_reducible repeat (first | refine blk_drewN ?_ _ | refine blk_drew ?_ | refine blk_alloc ?_ _)); refine blk_put (cs := #[.int .i64 a0_0, .int .i64 a0_1, .string (⟨#[]⟩ : ByteArray)]) ?_ 2 _ rfl; (with_reducible repeat (first | refine blk_drewN ?_ _ | refine blk_drew ?_ | refine blk_alloc ?_ _)); refine blk_put (cs := #[.int .i64 a0_0, .int .i64 0, .string (⟨#[]⟩ : ByteArray)]) ?_ 1 _ rfl; (with_reducible repeat (first | refine blk_drewN ?_ _ | refine blk_drew ?_ | refine blk_alloc ?_ _)); refine blk_put (cs := #[.int .i64 0, .int .i64 0, .string (⟨#[]⟩ : ByteArray)]) ?_ 0 _ rfl; (with_reducible repeat (first | refine blk_drewN ?_ _ | refine blk_drew ?_ | refine blk_alloc ?_ _)); exact BK340.out) Tryz.underlying32 rfl (by kernel_rfl)) rfl ?_
  exact ⟨rsl_, bel_⟩
 ·rw [if_neg c2] at H
  have c2b0 : (a0_0 == 3) = false := beq_eq_false_iff_ne.mpr c2
  have c2b1 : (a0_0 != 3) = true := bne_iff_ne.mpr c2
  simp only [Option.some.injEq, Prod.mk.injEq] at H
  obtain ⟨rfl, rfl, rfl⟩ := H
  go_enter Tryz.func45, Tryz.ntmps45
  go_wp2_with (first | ((with_reducible refine gate_dst (N := 1) rfl ?_); refine box_event ?hg (N := 1) ?hd (cs := #[.int .i64 a0_0, .int .i64 a0_1, .string a0_2]) (t := 32) ?hr ?_; (case hd => rfl); (case hg => rfl); (case hr => first | (go_simp; done) | (go_simp; rfl)); intro gb339 hg w8 hbox hb; have n0_ := Aside0.mk (below_step bel_ hb); have n1_ := Aside0.mk (hbox); have n2_ := Aside0.mk ((bsz_ hg : w.heap.size ≤ gb339)); have n3_ := Aside0.mk ((bsz_ hg : w.heap.size ≤ gb339)); clear HB; have HB := n0_; have BK339 := n1_; have GW339 := n2_; have GE339 := n3_; clear n0_ n1_ n2_ n3_; clear hb hbox hg) | ((with_reducible refine gate_dst (N := 2) rfl ?_); refine box_event ?hg (N := 2) ?hd (cs := #[.int .i64 0, .int .i64 0, .string (⟨#[]⟩ : ByteArray)]) (t := 32) ?hr ?_; (case hd => rfl); (case hg => rfl); (case hr => first | (go_simp; done) | (go_simp; rfl)); intro gb340 hg w9 hbox hb; have n0_ := blb_ BK339 hb; have n1_ := Aside0.mk (below_step bel_ hb); have n2_ := Aside0.mk (hbox); have n3_ := Aside0.mk ((bsz_ hg : w.heap.size ≤ gb340)); have n4_ := Aside0.mk ((bsz_ hg : w.heap.size ≤ gb340)); have n5_ := Aside0.mk (bne_ BK339 hg : gb339 ≠ gb340); have n6_ := Aside0.mk (bng_ BK339 hg : gb340 ≠ gb339); clear BK339; clear HB; have BK339 := n0_; have HB := n1_; have BK340 := n2_; have GW340 := n3_; have GE340 := n4_; have NB339_340 := n5_; have NB340_339 := n6_; clear n0_ n1_ n2_ n3_ n4_ n5_ n6_; clear hb hbox hg; have hnb10 := NB339_340.out; have hnc10 := NB340_339.out; have hcz11_0 : w9.cell? ⟨gb339, 0, none⟩ = some (.int .i64 a0_0) := (blk_cell BK339.out 0).trans rfl; have hcz11_1 : w9.cell? ⟨gb339, 1, none⟩ = some (.int .i64 a0_1) := (blk_cell BK339.out 1).trans rfl; have hcz11_2 : w9.cell? ⟨gb339, 2, none⟩ = some (.string a0_2) := (blk_cell BK339.out 2).trans rfl; have hfz11_0 := blk_frozen BK339.out 0; have hfz11_1 := blk_frozen BK339.out 1; have hfz11_2 := blk_frozen BK339.out 2; have hcz12_0 : w9.cell? ⟨gb340, 0, none⟩ = some (.int .i64 0) := (blk_cell BK340.out 0).trans rfl; have hcz12_1 : w9.cell? ⟨gb340, 1, none⟩ = some (.int .i64 0) := (blk_cell BK340.out 1).trans rfl; have hcz12_2 : w9.cell? ⟨gb340, 2, none⟩ = some (.string (⟨#[]⟩ : ByteArray)) := (blk_cell BK340.out 2).trans rfl; have hfz12_0 := blk_frozen BK340.out 0; have hfz12_1 := blk_frozen BK340.out 1; have hfz12_2 := blk_frozen BK340.out 2))
  refine bodyPost_ret (results_cell_row rfl _ _ gb340 32 #[.int .i64 1, .int .i64 0, .string (⟨#[]⟩ : ByteArray)] (0, 0) _ rfl (by (with_reducible repeat (first | refine blk_drewN ?_ _ | refine blk_drew ?_ | refine blk_alloc ?_ _)); refine blk_put (cs := #[.int .i64 1, .int .i64 0, .string (⟨#[]⟩ : ByteArray)]) ?_ 2 _ rfl; (with_reducible repeat (first | refine blk_drewN ?_ _ | refine blk_drew ?_ | refine blk_alloc ?_ _)); refine blk_put (cs := #[.int .i64 1, .int .i64 0, .string (⟨#[]⟩ : ByteArray)]) ?_ 1 _ rfl; (with_reducible repeat (first | refine blk_drewN ?_ _ | refine blk_drew ?_ | refine blk_alloc ?_ _)); refine blk_put (cs := #[.int .i64 0, .int .i64 0, .string (⟨#[]⟩ : ByteArray)]) ?_ 0 _ rfl; (with_reducible repeat (first | refine blk_drewN ?_ _ | refine blk_drew ?_ | refine blk_alloc ?_ _)); exact BK340.out) Tryz.underlying32 rfl (by kernel_rfl)) rfl ?_
  exact ⟨rsl_, bel_⟩

end Go.Proofs.YtofdhdafabmhmaaGreatDoor.PLt
end
section
namespace Go.Proofs.YtofdhdafabmhmaaGreatDoor.PLt
open Go.RowKit Go.Proofs.YtofdhdafabmhmaaGreatDoorW.PrintWords Go.Proofs.YtofdhdafabmhmaaGreatDoorW.PrintLast Go.Proofs.YtofdhdafabmhmaaGreatDoorW.PrintMore
attribute [local go_sem] max2_int min2_int max_two min_two max_three min_three max_four min_four
open Go.Proofs.YtofdhdafabmhmaaGreatDoor.Opn Go.Proofs.YtofdhdafabmhmaaGreatDoor.Giv

attribute [local go_sem high] eqA32
/-! ### parterreref07_PairText: function 21 -/
def parterreref07_PairText.j0 : Nat → Bool → Int → Int → ByteArray → Int → Int → ByteArray → Option (ByteArray)
 | 0, _, _, _, _, _, _, _ => none
 | k + 1, x12, x342000, x342001, x342002, x343000, x343001, x343002 => if x12 = true then (some (⟨#[]⟩ : ByteArray)) else ((parterreref07_Other.f x342000 x342001 x342002).bind fun bt345 => (if (x343000 == bt345.1 && (x343001 == bt345.2.1 && (x343002.toList == bt345.2.2.toList))) = true then ((parterreref07_Text.f k x342000 x342001 x342002).bind fun t348 => (some t348)) else ((parterreref07_Text.f k x342000 x342001 x342002).bind fun t349 => (if t349.size + 3 ≤ 9223372036854775807 then ((parterreref07_Text.f k x343000 x343001 x343002).bind fun t350 => (if (t349 ++ (⟨#[32, 47, 32]⟩ : ByteArray)).size + t350.size ≤ 9223372036854775807 then (some ((t349 ++ (⟨#[32, 47, 32]⟩ : ByteArray)) ++ t350)) else (none))) else (none)))))
def parterreref07_PairText.f (k : Nat) (a0_0 : Int) (a0_1 : Int) (a0_2 : ByteArray) (a1_0 : Int) (a1_1 : Int) (a1_2 : ByteArray) : Option (ByteArray) := (parterreref07_Good.f k a0_0 a0_1 a0_2).bind fun t343 => (if t343 = true then ((parterreref07_Good.f k a1_0 a1_1 a1_2).bind fun t344 => (parterreref07_PairText.j0 k (!t344) a0_0 a0_1 a0_2 a1_0 a1_1 a1_2)) else (parterreref07_PairText.j0 k true a0_0 a0_1 a0_2 a1_0 a1_1 a1_2))
theorem parterreref07_PairText.mono_l : ∀ k, (∀ y0 y1 y2 y3 y4 y5 y6, LeO (parterreref07_PairText.j0 k y0 y1 y2 y3 y4 y5 y6) (parterreref07_PairText.j0 (k + 1) y0 y1 y2 y3 y4 y5 y6))
 | 0 => fun _ _ _ _ _ _ _ r h => by simp [parterreref07_PairText.j0] at h
 | k + 1 => by
  have ih0 := parterreref07_PairText.mono_l k
  ·intro y0 y1 y2 y3 y4 y5 y6
   unfold parterreref07_PairText.j0
   repeat' first
   | (with_reducible exact ih0 _ _ _ _ _ _ _)
   | (with_reducible exact parterreref07_Good.mono _ _ _ _)
   | (with_reducible exact parterreref07_Text.mono _ _ _ _)
   | (with_reducible exact LeO.refl _)
   | (with_reducible exact LeO.none _)
   | (with_reducible refine LeO.ite ?_ ?_)
   | (with_reducible refine LeO.bind ?_ (fun _ => ?_))
theorem parterreref07_PairText.mono : ∀ a0 a1 a2 a3 a4 a5 k, LeO (parterreref07_PairText.f k a0 a1 a2 a3 a4 a5) (parterreref07_PairText.f (k + 1) a0 a1 a2 a3 a4 a5) := by
 intro a0 a1 a2 a3 a4 a5 k
 have ih0 := parterreref07_PairText.mono_l k
 unfold parterreref07_PairText.f
 repeat' first
   | (with_reducible exact ih0 _ _ _ _ _ _ _)
   | (with_reducible exact parterreref07_Good.mono _ _ _ _)
   | (with_reducible exact parterreref07_Text.mono _ _ _ _)
   | (with_reducible exact LeO.refl _)
   | (with_reducible exact LeO.none _)
   | (with_reducible refine LeO.ite ?_ ?_)
   | (with_reducible refine LeO.bind ?_ (fun _ => ?_))
set_option maxHeartbeats 8000000 in
set_option maxRecDepth 100000 in
theorem parterreref07_PairText.calls (k : Nat) (a0_0 : Int) (a0_1 : Int) (a0_2 : ByteArray) (a1_0 : Int) (a1_1 : Int) (a1_2 : ByteArray) (r : ByteArray) (w : World) (h : parterreref07_PairText.f k a0_0 a0_1 a0_2 a1_0 a1_1 a1_2 = some r) :
  Calls Tryz.prog 21 #[.agg #[.int .i64 a0_0, .int .i64 a0_1, .string a0_2], .agg #[.int .i64 a1_0, .int .i64 a1_1, .string a1_2]] w fun e w' => e = .returned (.string r) ∧ Below w.heap.size w w' := by
 have hu32 := Tryz.underlying32
 have HB := Aside0.mk (Below.refl w.heap.size w)
 have H : ((parterreref07_Good.f k a0_0 a0_1 a0_2).bind fun t343 => (if t343 = true then ((parterreref07_Good.f k a1_0 a1_1 a1_2).bind fun t344 => (parterreref07_PairText.j0 k (!t344) a0_0 a0_1 a0_2 a1_0 a1_1 a1_2)) else (parterreref07_PairText.j0 k true a0_0 a0_1 a0_2 a1_0 a1_1 a1_2))) = some r := h
 clear h
 have HC3 := Aside0.mk H
 clear H
 go_enter Tryz.func21, Tryz.ntmps21
 go_upto_region 1 with (first | ((with_reducible refine gate_dst (N := 2) rfl ?_); refine box_event ?hg (N := 2) ?hd (cs := #[.int .i64 a0_0, .int .i64 a0_1, .string a0_2]) (t := 32) ?hr ?_; (case hd => rfl); (case hg => rfl); (case hr => first | (go_simp; done) | (go_simp; rfl)); intro gb341 hg w4 hbox hb; have n0_ := Aside0.mk (below_step bel_ hb); have n1_ := Aside0.mk (hbox); have n2_ := Aside0.mk ((bsz_ hg : w.heap.size ≤ gb341)); have n3_ := Aside0.mk ((bsz_ hg : w.heap.size ≤ gb341)); clear HB; have HB := n0_; have BK341 := n1_; have GW341 := n2_; have GE341 := n3_; clear n0_ n1_ n2_ n3_; clear hb hbox hg) | ((with_reducible refine gate_dst (N := 3) rfl ?_); refine box_event ?hg (N := 3) ?hd (cs := #[.int .i64 a1_0, .int .i64 a1_1, .string a1_2]) (t := 32) ?hr ?_; (case hd => rfl); (case hg => rfl); (case hr => first | (go_simp; done) | (go_simp; rfl)); intro gb342 hg w5 hbox hb; have n0_ := blb_ BK341 hb; have n1_ := Aside0.mk (below_step bel_ hb); have n2_ := Aside0.mk (hbox); have n3_ := Aside0.mk ((bsz_ hg : w.heap.size ≤ gb342)); have n4_ := Aside0.mk ((bsz_ hg : w.heap.size ≤ gb342)); have n5_ := Aside0.mk (bne_ BK341 hg : gb341 ≠ gb342); have n6_ := Aside0.mk (bng_ BK341 hg : gb342 ≠ gb341); clear BK341; clear HB; have BK341 := n0_; have HB := n1_; have BK342 := n2_; have GW342 := n3_; have GE342 := n4_; have NB341_342 := n5_; have NB342_341 := n6_; clear n0_ n1_ n2_ n3_ n4_ n5_ n6_; clear hb hbox hg))
 (try simp only [Act.put, List.setIfInBounds_toArray, List.set_cons_zero, List.set_cons_succ])
 go_cut [12] (fun v12 wc => ∃ (kq : Nat) (x12_2 : Bool), v12 = .bool x12_2 ∧ Aside0 (parterreref07_PairText.j0 kq x12_2 a0_0 a0_1 a0_2 a1_0 a1_1 a1_2 = some r) ∧ Aside0 (kq ≤ k) ∧ Aside0 (wc.heap[gb341]? = some (.cells #[.int .i64 a0_0, .int .i64 a0_1, .string a0_2] 32 (0, 0))) ∧ Aside0 (wc.heap[gb342]? = some (.cells #[.int .i64 a1_0, .int .i64 a1_1, .string a1_2] 32 (0, 0))) ∧ Aside0 (Below w.heap.size w wc))
 case first =>
  have H := HC3.out
  clear HC3
  replace H := Option.bind_eq_some_iff.mp H
  obtain ⟨t343, A60, H⟩ := H
  try dsimp only at H
  have A6 := Aside0.mk A60
  clear A60
  by_cases c7 : t343 = true
  ·subst c7
   rw [if_pos rfl] at H
   replace H := Option.bind_eq_some_iff.mp H
   obtain ⟨t344, A80, H⟩ := H
   try dsimp only at H
   have A8 := Aside0.mk A80
   clear A80
   have H' := Aside0.mk H
   clear H
   have hnb9 := NB341_342.out
   have hnc9 := NB342_341.out
   have hcz10_0 : w5.cell? ⟨gb341, 0, none⟩ = some (.int .i64 a0_0) := (blk_cell BK341.out 0).trans rfl
   have hcz10_1 : w5.cell? ⟨gb341, 1, none⟩ = some (.int .i64 a0_1) := (blk_cell BK341.out 1).trans rfl
   have hcz10_2 : w5.cell? ⟨gb341, 2, none⟩ = some (.string a0_2) := (blk_cell BK341.out 2).trans rfl
   have hfz10_0 := blk_frozen BK341.out 0
   have hfz10_1 := blk_frozen BK341.out 1
   have hfz10_2 := blk_frozen BK341.out 2
   go_wp2_with (first | ((with_reducible refine gate_callee (f := 17) rfl ?_); refine goesL_ (some 6) rfl rfl Tryz.func17 (by kernel_rfl) rfl #[.agg #[.int .i64 a0_0, .int .i64 a0_1, .string a0_2]] rfl goa_ ?_; (with_reducible refine (parterreref07_Good.calls k a0_0 a0_1 a0_2 true _ A6.out).mono ?_); rintro e w11 ⟨rfl, hb⟩; refine ⟨_, rfl, ?_⟩; have n0_ := blb_ BK341 hb; have n1_ := blb_ BK342 hb; have n2_ := Aside0.mk (below_step bel_ hb); clear BK341; clear BK342; clear HB; have BK341 := n0_; have BK342 := n1_; have HB := n2_; clear n0_ n1_ n2_; clear hb; have hcz12_0 : w11.cell? ⟨gb342, 0, none⟩ = some (.int .i64 a1_0) := (blk_cell BK342.out 0).trans rfl; have hcz12_1 : w11.cell? ⟨gb342, 1, none⟩ = some (.int .i64 a1_1) := (blk_cell BK342.out 1).trans rfl; have hcz12_2 : w11.cell? ⟨gb342, 2, none⟩ = some (.string a1_2) := (blk_cell BK342.out 2).trans rfl; have hfz12_0 := blk_frozen BK342.out 0; have hfz12_1 := blk_frozen BK342.out 1; have hfz12_2 := blk_frozen BK342.out 2) | (go_at_call 17; (with_reducible refine (parterreref07_Good.calls k a1_0 a1_1 a1_2 t344 _ A8.out).mono ?_); rintro e w13 ⟨rfl, hb⟩; have n0_ := blb_ BK341 hb; have n1_ := blb_ BK342 hb; have n2_ := Aside0.mk (below_step bel_ hb); clear BK341; clear BK342; clear HB; have BK341 := n0_; have BK342 := n1_; have HB := n2_; clear n0_ n1_ n2_; clear hb))
   go_meet
   case rel => exact ⟨_, (!t344), rfs_, (by first | exact H' | (subst_vars; exact H')), ⟨ole_⟩, ⟨blk_⟩, ⟨blk_⟩, ⟨bel_⟩⟩
  ·replace c7 := Bool.eq_false_iff.mpr c7
   subst c7
   rw [if_neg (show ¬ (false = true) by decide)] at H
   have H' := Aside0.mk H
   clear H
   have hnb14 := NB341_342.out
   have hnc14 := NB342_341.out
   have hcz15_0 : w5.cell? ⟨gb341, 0, none⟩ = some (.int .i64 a0_0) := (blk_cell BK341.out 0).trans rfl
   have hcz15_1 : w5.cell? ⟨gb341, 1, none⟩ = some (.int .i64 a0_1) := (blk_cell BK341.out 1).trans rfl
   have hcz15_2 : w5.cell? ⟨gb341, 2, none⟩ = some (.string a0_2) := (blk_cell BK341.out 2).trans rfl
   have hfz15_0 := blk_frozen BK341.out 0
   have hfz15_1 := blk_frozen BK341.out 1
   have hfz15_2 := blk_frozen BK341.out 2
   go_wp2_with (first | ((with_reducible refine gate_callee (f := 17) rfl ?_); refine goesL_ (some 6) rfl rfl Tryz.func17 (by kernel_rfl) rfl #[.agg #[.int .i64 a0_0, .int .i64 a0_1, .string a0_2]] rfl goa_ ?_; (with_reducible refine (parterreref07_Good.calls k a0_0 a0_1 a0_2 false _ A6.out).mono ?_); rintro e w16 ⟨rfl, hb⟩; refine ⟨_, rfl, ?_⟩; have n0_ := blb_ BK341 hb; have n1_ := blb_ BK342 hb; have n2_ := Aside0.mk (below_step bel_ hb); clear BK341; clear BK342; clear HB; have BK341 := n0_; have BK342 := n1_; have HB := n2_; clear n0_ n1_ n2_; clear hb))
   go_meet
   case rel => exact ⟨_, (true), rfs_, (by first | exact H' | (subst_vars; exact H')), ⟨ole_⟩, ⟨blk_⟩, ⟨blk_⟩, ⟨bel_⟩⟩
 case rest =>
  clear HC3
  try clear c1
  try clear c2
  try clear p2
  try clear c7
  try clear c9
  try clear c14
  try clear hcz10_0
  try clear hcz10_1
  try clear hcz10_2
  try clear hcz12_0
  try clear hcz12_1
  try clear hcz12_2
  try clear hcz15_0
  try clear hcz15_1
  try clear hcz15_2
  try clear hfz10_0
  try clear hfz10_1
  try clear hfz10_2
  try clear hfz12_0
  try clear hfz12_1
  try clear hfz12_2
  try clear hfz15_0
  try clear hfz15_1
  try clear hfz15_2
  obtain ⟨kq, x12_2, rfl, HA, HJ2, BK341, BK342, HB⟩ := hcut
  cases kq with
  | zero => exact absurd HA.out (by simp [parterreref07_PairText.j0])
  | succ kj2 =>
   have H := HA.out
   clear HA
   simp only [parterreref07_PairText.j0] at H
   by_cases c17 : x12_2 = true
   ·subst c17
    rw [if_pos rfl] at H
    obtain rfl := Option.some.inj H
    go_wp2
    go_ret
    exact ⟨rsl_, bel_⟩
   ·replace c17 := Bool.eq_false_iff.mpr c17
    subst c17
    rw [if_neg (show ¬ (false = true) by decide)] at H
    replace H := Option.bind_eq_some_iff.mp H
    obtain ⟨⟨t345, t346, t347⟩, A180, H⟩ := H
    try dsimp only at H
    have A18 := Aside0.mk A180
    clear A180
    by_cases c19 : (a1_0 == t345 && (a1_1 == t346 && (a1_2.toList == t347.toList))) = true
    ·rw [if_pos c19] at H
     have c19b0 : (a1_0 == t345 && (a1_1 == t346 && (a1_2.toList == t347.toList))) = true := c19
     (try (have c19b1 : decide (a1_0 = t345 && (a1_1 == t346 && (a1_2.toList == t347.toList))) = true := by simpa using c19))
     (try (have c19b2 : (a1_0 == t345 && (a1_1 == t346 && (a1_2.toList == t347.toList))) = true := by simpa using c19))
     clear c19
     replace H := Option.bind_eq_some_iff.mp H
     obtain ⟨t348, A200, H⟩ := H
     try dsimp only at H
     have A20 := Aside0.mk A200
     clear A200
     obtain rfl := Option.some.inj H
     try go_wp2
     have n0_ := Aside0.mk (blk_drew BK341.out)
     have n1_ := Aside0.mk (blk_drew BK342.out)
     have n2_ := Aside0.mk (below_drew1 HB.out)
     clear BK341
     clear BK342
     clear HB
     have BK341 := n0_
     have BK342 := n1_
     have HB := n2_
     clear n0_ n1_ n2_
     refine start_ (n := 4) (S := fun w' => w'.cell? ⟨gb342, 0, none⟩ = some (.int .i64 a1_0) ∧ w'.cell? ⟨gb342, 1, none⟩ = some (.int .i64 a1_1) ∧ w'.cell? ⟨gb342, 2, none⟩ = some (.string a1_2) ∧ w'.cell? ⟨gb341, 0, none⟩ = some (.int .i64 a0_0) ∧ w'.cell? ⟨gb341, 1, none⟩ = some (.int .i64 a0_1) ∧ w'.cell? ⟨gb341, 2, none⟩ = some (.string a0_2)) (ds := []) #[false, false, false, false] (by kernel_rfl) rfl rfl ⟨(blk_cell BK342.out 0).trans rfl, (blk_cell BK342.out 1).trans rfl, (blk_cell BK342.out 2).trans rfl, (blk_cell BK341.out 0).trans rfl, (blk_cell BK341.out 1).trans rfl, (blk_cell BK341.out 2).trans rfl⟩ (fun hHeld => ?_)
     generalize wc.drew = w21 at BK341 BK342 HB hHeld ⊢
     refine take_ (i := 0) (N := some 13) (v := ?_) (a' := ?_) #[true, false, false, false] rfl rfl (by kernel_rfl) (fun _ _ _ h => h) (Or.inl ⟨by rfl, ?_⟩) hHeld ?_ ?_
     rotate_left
     ·rintro w' ⟨s0, s1, s2, s3, s4, s5⟩
      go_simp
      with_reducible rfl
     rotate_left
     ·simp only [Act.put, List.setIfInBounds_toArray, List.set_cons_zero, List.set_cons_succ, i64_w, i32_w]
      rfl
     refine take_ (i := 1) (N := some 14) (v := ?_) (a' := ?_) #[true, true, false, false] rfl rfl (by kernel_rfl) (fun _ _ _ h => h) (Or.inl ⟨by rfl, ?_⟩) hHeld ?_ ?_
     rotate_left
     ·rintro w' ⟨s0, s1, s2, s3, s4, s5⟩
      go_simp
      with_reducible rfl
     rotate_left
     ·simp only [Act.put, List.setIfInBounds_toArray, List.set_cons_zero, List.set_cons_succ, i64_w, i32_w]
      rfl
     refine one_ (i := 2) (N := some 15) #[true, true, true, false] rfl rfl (by kernel_rfl) (by decide) (fun K hK => ?_)
     refine goes_ Tryz.func45 (by kernel_rfl) rfl #[.agg #[.int .i64 a0_0, .int .i64 a0_1, .string a0_2]] (by rfl) rfl rfl goa_ ?_
     with_reducible refine (parterreref07_Other.calls a0_0 a0_1 a0_2 t345 t346 t347 _ A18.out).mono ?_
     rintro e w22 ⟨rfl, hb⟩
     refine ⟨_, rfl, ?_⟩
     have n0_ := blb_ BK341 hb
     have n1_ := blb_ BK342 hb
     have n2_ := Aside0.mk (below_step bel_ hb)
     clear BK341
     clear BK342
     clear HB
     have BK341 := n0_
     have BK342 := n1_
     have HB := n2_
     clear n0_ n1_ n2_
     (try clear hb)
     (try clear hb2)
     (try clear hk)
     (try clear hi)
     refine hK.out _ _ ⟨(blk_cell BK342.out 0).trans rfl, (blk_cell BK342.out 1).trans rfl, (blk_cell BK342.out 2).trans rfl, (blk_cell BK341.out 0).trans rfl, (blk_cell BK341.out 1).trans rfl, (blk_cell BK341.out 2).trans rfl⟩ (fun hHeld => ?_)
     clear hK K
     refine norm_ (a' := ?_) ?_ ?_
     rotate_left
     ·show Act.put _ (some 15) _ = _
      simp only [Act.put, List.setIfInBounds_toArray, List.set_cons_zero, List.set_cons_succ, i64_w, i32_w]
      rfl
     refine pure_ (i := 3) (N := some 16) (v := ?_) (a' := ?_) #[true, true, true, true] rfl rfl (by kernel_rfl) (fun _ _ _ h => h) (Or.inl ⟨by rfl, ?_⟩) ?_ ?_
     rotate_left
     ·intro w'
      go_simp
      with_reducible rfl
     rotate_left
     ·simp only [Act.put, List.setIfInBounds_toArray, List.set_cons_zero, List.set_cons_succ, i64_w, i32_w]
      rfl
     refine done_ (by kernel_rfl) ?_
     have hnb23 := NB341_342.out
     have hnc23 := NB342_341.out
     have hcz24_0 : w22.cell? ⟨gb341, 0, none⟩ = some (.int .i64 a0_0) := (blk_cell BK341.out 0).trans rfl
     have hcz24_1 : w22.cell? ⟨gb341, 1, none⟩ = some (.int .i64 a0_1) := (blk_cell BK341.out 1).trans rfl
     have hcz24_2 : w22.cell? ⟨gb341, 2, none⟩ = some (.string a0_2) := (blk_cell BK341.out 2).trans rfl
     have hfz24_0 := blk_frozen BK341.out 0
     have hfz24_1 := blk_frozen BK341.out 1
     have hfz24_2 := blk_frozen BK341.out 2
     try go_wp2_with (first | ((with_reducible refine gate_callee (f := 19) rfl ?_); refine goesL_ (some 18) rfl rfl Tryz.func19 (by kernel_rfl) rfl #[.agg #[.int .i64 a0_0, .int .i64 a0_1, .string a0_2]] rfl goa_ ?_; (with_reducible refine (parterreref07_Text.calls kj2 a0_0 a0_1 a0_2 t348 _ A20.out).mono ?_); rintro e w25 ⟨rfl, hb⟩; refine ⟨_, rfl, ?_⟩; have n0_ := blb_ BK341 hb; have n1_ := blb_ BK342 hb; have n2_ := Aside0.mk (below_step bel_ hb); clear BK341; clear BK342; clear HB; have BK341 := n0_; have BK342 := n1_; have HB := n2_; clear n0_ n1_ n2_; clear hb))
     go_ret
     exact ⟨rsl_, bel_⟩
    ·rw [if_neg c19] at H
     have c19b0 : (a1_0 == t345 && (a1_1 == t346 && (a1_2.toList == t347.toList))) = false := by simpa using c19
     (try (have c19b1 : decide (a1_0 = t345 && (a1_1 == t346 && (a1_2.toList == t347.toList))) = false := by simpa using c19))
     (try (have c19b2 : (a1_0 == t345 && (a1_1 == t346 && (a1_2.toList == t347.toList))) = false := by simpa using c19))
     (try (have c19b3 : ¬ (a1_0 = t345 && (a1_1 == t346 && (a1_2.toList == t347.toList))) := by simpa using c19))
     clear c19
     replace H := Option.bind_eq_some_iff.mp H
     obtain ⟨t349, A260, H⟩ := H
     try dsimp only at H
     have A26 := Aside0.mk A260
     clear A260
     by_cases c27 : t349.size + 3 ≤ 9223372036854775807
     ·rw [if_pos c27] at H
      have c27b0 := eq_true c27
      have c27b1 : decide (t349.size + 3 ≤ 9223372036854775807) = true := decide_eq_true c27
      try have c27b2 : (9223372036854775807 < t349.size + 3) = False := eq_false (Nat.not_lt.2 c27)
      replace H := Option.bind_eq_some_iff.mp H
      obtain ⟨t350, A280, H⟩ := H
      try dsimp only at H
      have A28 := Aside0.mk A280
      clear A280
      by_cases c29 : (t349 ++ (⟨#[32, 47, 32]⟩ : ByteArray)).size + t350.size ≤ 9223372036854775807
      ·rw [if_pos c29] at H
       have c29b0 := eq_true c29
       have c29b1 : decide ((t349 ++ (⟨#[32, 47, 32]⟩ : ByteArray)).size + t350.size ≤ 9223372036854775807) = true := decide_eq_true c29
       try have c29b2 : (9223372036854775807 < (t349 ++ (⟨#[32, 47, 32]⟩ : ByteArray)).size + t350.size) = False := eq_false (Nat.not_lt.2 c29)
       try have c29b3 : (9223372036854775807 < t349.size + 3 + t350.size) = False := eq_false (Nat.not_lt.2 (by have h_ := c29; simp only [ByteArray.size_append] at h_; exact h_))
       obtain rfl := Option.some.inj H
       try go_wp2
       have n0_ := Aside0.mk (blk_drew BK341.out)
       have n1_ := Aside0.mk (blk_drew BK342.out)
       have n2_ := Aside0.mk (below_drew1 HB.out)
       clear BK341
       clear BK342
       clear HB
       have BK341 := n0_
       have BK342 := n1_
       have HB := n2_
       clear n0_ n1_ n2_
       refine start_ (n := 4) (S := fun w' => w'.cell? ⟨gb342, 0, none⟩ = some (.int .i64 a1_0) ∧ w'.cell? ⟨gb342, 1, none⟩ = some (.int .i64 a1_1) ∧ w'.cell? ⟨gb342, 2, none⟩ = some (.string a1_2) ∧ w'.cell? ⟨gb341, 0, none⟩ = some (.int .i64 a0_0) ∧ w'.cell? ⟨gb341, 1, none⟩ = some (.int .i64 a0_1) ∧ w'.cell? ⟨gb341, 2, none⟩ = some (.string a0_2)) (ds := []) #[false, false, false, false] (by kernel_rfl) rfl rfl ⟨(blk_cell BK342.out 0).trans rfl, (blk_cell BK342.out 1).trans rfl, (blk_cell BK342.out 2).trans rfl, (blk_cell BK341.out 0).trans rfl, (blk_cell BK341.out 1).trans rfl, (blk_cell BK341.out 2).trans rfl⟩ (fun hHeld => ?_)
       generalize wc.drew = w30 at BK341 BK342 HB hHeld ⊢
       refine take_ (i := 0) (N := some 13) (v := ?_) (a' := ?_) #[true, false, false, false] rfl rfl (by kernel_rfl) (fun _ _ _ h => h) (Or.inl ⟨by rfl, ?_⟩) hHeld ?_ ?_
       rotate_left
       ·rintro w' ⟨s0, s1, s2, s3, s4, s5⟩
        go_simp
        with_reducible rfl
       rotate_left
       ·simp only [Act.put, List.setIfInBounds_toArray, List.set_cons_zero, List.set_cons_succ, i64_w, i32_w]
        rfl
       refine take_ (i := 1) (N := some 14) (v := ?_) (a' := ?_) #[true, true, false, false] rfl rfl (by kernel_rfl) (fun _ _ _ h => h) (Or.inl ⟨by rfl, ?_⟩) hHeld ?_ ?_
       rotate_left
       ·rintro w' ⟨s0, s1, s2, s3, s4, s5⟩
        go_simp
        with_reducible rfl
       rotate_left
       ·simp only [Act.put, List.setIfInBounds_toArray, List.set_cons_zero, List.set_cons_succ, i64_w, i32_w]
        rfl
       refine one_ (i := 2) (N := some 15) #[true, true, true, false] rfl rfl (by kernel_rfl) (by decide) (fun K hK => ?_)
       refine goes_ Tryz.func45 (by kernel_rfl) rfl #[.agg #[.int .i64 a0_0, .int .i64 a0_1, .string a0_2]] (by rfl) rfl rfl goa_ ?_
       with_reducible refine (parterreref07_Other.calls a0_0 a0_1 a0_2 t345 t346 t347 _ A18.out).mono ?_
       rintro e w31 ⟨rfl, hb⟩
       refine ⟨_, rfl, ?_⟩
       have n0_ := blb_ BK341 hb
       have n1_ := blb_ BK342 hb
       have n2_ := Aside0.mk (below_step bel_ hb)
       clear BK341
       clear BK342
       clear HB
       have BK341 := n0_
       have BK342 := n1_
       have HB := n2_
       clear n0_ n1_ n2_
       (try clear hb)
       (try clear hb2)
       (try clear hk)
       (try clear hi)
       refine hK.out _ _ ⟨(blk_cell BK342.out 0).trans rfl, (blk_cell BK342.out 1).trans rfl, (blk_cell BK342.out 2).trans rfl, (blk_cell BK341.out 0).trans rfl, (blk_cell BK341.out 1).trans rfl, (blk_cell BK341.out 2).trans rfl⟩ (fun hHeld => ?_)
       clear hK K
       refine norm_ (a' := ?_) ?_ ?_
       rotate_left
       ·show Act.put _ (some 15) _ = _
        simp only [Act.put, List.setIfInBounds_toArray, List.set_cons_zero, List.set_cons_succ, i64_w, i32_w]
        rfl
       refine pure_ (i := 3) (N := some 16) (v := ?_) (a' := ?_) #[true, true, true, true] rfl rfl (by kernel_rfl) (fun _ _ _ h => h) (Or.inl ⟨by rfl, ?_⟩) ?_ ?_
       rotate_left
       ·intro w'
        go_simp
        with_reducible rfl
       rotate_left
       ·simp only [Act.put, List.setIfInBounds_toArray, List.set_cons_zero, List.set_cons_succ, i64_w, i32_w]
        rfl
       refine done_ (by kernel_rfl) ?_
       try go_wp2
       have n0_ := Aside0.mk (blk_drew BK341.out)
       have n1_ := Aside0.mk (blk_drew BK342.out)
       have n2_ := Aside0.mk (below_drew1 HB.out)
       clear BK341
       clear BK342
       clear HB
       have BK341 := n0_
       have BK342 := n1_
       have HB := n2_
       clear n0_ n1_ n2_
       refine start_ (n := 7) (S := fun w' => w'.cell? ⟨gb341, 0, none⟩ = some (.int .i64 a0_0) ∧ w'.cell? ⟨gb341, 1, none⟩ = some (.int .i64 a0_1) ∧ w'.cell? ⟨gb341, 2, none⟩ = some (.string a0_2) ∧ w'.cell? ⟨gb342, 0, none⟩ = some (.int .i64 a1_0) ∧ w'.cell? ⟨gb342, 1, none⟩ = some (.int .i64 a1_1) ∧ w'.cell? ⟨gb342, 2, none⟩ = some (.string a1_2)) (ds := []) #[false, false, false, false, false, false, false] (by kernel_rfl) rfl rfl ⟨(blk_cell BK341.out 0).trans rfl, (blk_cell BK341.out 1).trans rfl, (blk_cell BK341.out 2).trans rfl, (blk_cell BK342.out 0).trans rfl, (blk_cell BK342.out 1).trans rfl, (blk_cell BK342.out 2).trans rfl⟩ (fun hHeld => ?_)
       generalize w31.drew = w32 at BK341 BK342 HB hHeld ⊢
       refine take_ (i := 0) (N := some 19) (v := ?_) (a' := ?_) #[true, false, false, false, false, false, false] rfl rfl (by kernel_rfl) (fun _ _ _ h => h) (Or.inl ⟨by rfl, ?_⟩) hHeld ?_ ?_
       rotate_left
       ·rintro w' ⟨s0, s1, s2, s3, s4, s5⟩
        go_simp
        with_reducible rfl
       rotate_left
       ·simp only [Act.put, List.setIfInBounds_toArray, List.set_cons_zero, List.set_cons_succ, i64_w, i32_w]
        rfl
       refine take_ (i := 3) (N := some 22) (v := ?_) (a' := ?_) #[true, false, false, true, false, false, false] rfl rfl (by kernel_rfl) (fun _ _ _ h => h) (Or.inl ⟨by rfl, ?_⟩) hHeld ?_ ?_
       rotate_left
       ·rintro w' ⟨s0, s1, s2, s3, s4, s5⟩
        go_simp
        with_reducible rfl
       rotate_left
       ·simp only [Act.put, List.setIfInBounds_toArray, List.set_cons_zero, List.set_cons_succ, i64_w, i32_w]
        rfl
       refine one_ (i := 1) (N := some 20) #[true, true, false, true, false, false, false] rfl rfl (by kernel_rfl) (by decide) (fun K hK => ?_)
       refine goes_ Tryz.func19 (by kernel_rfl) rfl #[.agg #[.int .i64 a0_0, .int .i64 a0_1, .string a0_2]] (by rfl) rfl rfl goa_ ?_
       with_reducible refine (parterreref07_Text.calls kj2 a0_0 a0_1 a0_2 t349 _ A26.out).mono ?_
       rintro e w33 ⟨rfl, hb⟩
       refine ⟨_, rfl, ?_⟩
       have n0_ := blb_ BK341 hb
       have n1_ := blb_ BK342 hb
       have n2_ := Aside0.mk (below_step bel_ hb)
       clear BK341
       clear BK342
       clear HB
       have BK341 := n0_
       have BK342 := n1_
       have HB := n2_
       clear n0_ n1_ n2_
       (try clear hb)
       (try clear hb2)
       (try clear hk)
       (try clear hi)
       refine hK.out _ _ ⟨(blk_cell BK341.out 0).trans rfl, (blk_cell BK341.out 1).trans rfl, (blk_cell BK341.out 2).trans rfl, (blk_cell BK342.out 0).trans rfl, (blk_cell BK342.out 1).trans rfl, (blk_cell BK342.out 2).trans rfl⟩ (fun hHeld => ?_)
       clear hK K
       refine norm_ (a' := ?_) ?_ ?_
       rotate_left
       ·show Act.put _ (some 20) _ = _
        simp only [Act.put, List.setIfInBounds_toArray, List.set_cons_zero, List.set_cons_succ, i64_w, i32_w]
        rfl
       refine pure_ (i := 2) (N := some 21) (v := ?_) (a' := ?_) #[true, true, true, true, false, false, false] rfl rfl (by kernel_rfl) (fun _ _ _ h => h) (Or.inl ⟨by rfl, ?_⟩) ?_ ?_
       rotate_left
       ·intro w'
        go_simp
        with_reducible rfl
       rotate_left
       ·simp only [Act.put, List.setIfInBounds_toArray, List.set_cons_zero, List.set_cons_succ, i64_w, i32_w]
        rfl
       refine one_ (i := 4) (N := some 23) #[true, true, true, true, true, false, false] rfl rfl (by kernel_rfl) (by decide) (fun K hK => ?_)
       refine goes_ Tryz.func19 (by kernel_rfl) rfl #[.agg #[.int .i64 a1_0, .int .i64 a1_1, .string a1_2]] (by rfl) rfl rfl goa_ ?_
       with_reducible refine (parterreref07_Text.calls kj2 a1_0 a1_1 a1_2 t350 _ A28.out).mono ?_
       rintro e w34 ⟨rfl, hb⟩
       refine ⟨_, rfl, ?_⟩
       have n0_ := blb_ BK341 hb
       have n1_ := blb_ BK342 hb
       have n2_ := Aside0.mk (below_step bel_ hb)
       clear BK341
       clear BK342
       clear HB
       have BK341 := n0_
       have BK342 := n1_
       have HB := n2_
       clear n0_ n1_ n2_
       (try clear hb)
       (try clear hb2)
       (try clear hk)
       (try clear hi)
       refine hK.out _ _ ⟨(blk_cell BK341.out 0).trans rfl, (blk_cell BK341.out 1).trans rfl, (blk_cell BK341.out 2).trans rfl, (blk_cell BK342.out 0).trans rfl, (blk_cell BK342.out 1).trans rfl, (blk_cell BK342.out 2).trans rfl⟩ (fun hHeld => ?_)
       clear hK K
       refine norm_ (a' := ?_) ?_ ?_
       rotate_left
       ·show Act.put _ (some 23) _ = _
        simp only [Act.put, List.setIfInBounds_toArray, List.set_cons_zero, List.set_cons_succ, i64_w, i32_w]
        rfl
       refine pure_ (i := 5) (N := some 24) (v := ?_) (a' := ?_) #[true, true, true, true, true, true, false] rfl rfl (by kernel_rfl) (fun _ _ _ h => h) (Or.inl ⟨by rfl, ?_⟩) ?_ ?_
       rotate_left
       ·intro w'
        go_simp
        with_reducible rfl
       rotate_left
       ·simp only [Act.put, List.setIfInBounds_toArray, List.set_cons_zero, List.set_cons_succ, i64_w, i32_w]
        rfl
       refine pure_ (i := 6) (N := some 4) (v := ?_) (a' := ?_) #[true, true, true, true, true, true, true] rfl rfl (by kernel_rfl) (fun _ _ _ h => h) (Or.inl ⟨by rfl, ?_⟩) ?_ ?_
       rotate_left
       ·intro w'
        go_simp
        with_reducible rfl
       rotate_left
       ·simp only [Act.put, List.setIfInBounds_toArray, List.set_cons_zero, List.set_cons_succ, i64_w, i32_w]
        rfl
       refine done_ (by kernel_rfl) ?_
       try go_wp2
       go_ret
       exact ⟨rsl_, bel_⟩
      ·rw [if_neg c29] at H
       exact absurd H (by simp)
     ·rw [if_neg c27] at H
      exact absurd H (by simp)

end Go.Proofs.YtofdhdafabmhmaaGreatDoor.PLt
end
section
namespace Go.Proofs.YtofdhdafabmhmaaGreatDoor.PLt
open Go.RowKit Go.Proofs.YtofdhdafabmhmaaGreatDoorW.PrintWords Go.Proofs.YtofdhdafabmhmaaGreatDoorW.PrintLast Go.Proofs.YtofdhdafabmhmaaGreatDoorW.PrintMore
attribute [local go_sem] max2_int min2_int max_two min_two max_three min_three max_four min_four
open Go.Proofs.YtofdhdafabmhmaaGreatDoor.Opn Go.Proofs.YtofdhdafabmhmaaGreatDoor.Giv

/-! ### parterrelaw07_LineTells: function 4 -/
def parterrelaw07_LineTells.j0 : Nat → Bool → Int → Int → ByteArray → Int → Int → ByteArray → Option (Bool)
 | 0, _, _, _, _, _, _, _ => none
 | k + 1, x14, x352000, x352001, x352002, x353000, x353001, x353002 => if x14 = true then ((parterrelaw07_lives.f k).bind fun t353 => (some t353)) else ((line_Good.f k x352000 x352001 x352002).bind fun t354 => ((parterreref07_Good.f k x352000 x352001 x352002).bind fun t355 => (if (t354 == t355) = true then ((line_Text.f k x352000 x352001 x352002).bind fun t356 => ((parterreref07_Text.f k x352000 x352001 x352002).bind fun t357 => (if t356.toList = t357.toList then ((line_PairText.f k x352000 x352001 x352002 x353000 x353001 x353002).bind fun t358 => ((parterreref07_PairText.f k x352000 x352001 x352002 x353000 x353001 x353002).bind fun t359 => (if t358.toList = t359.toList then ((parterrelaw07_lives.f k).bind fun t360 => (some t360)) else (some false)))) else (some false)))) else (some false))))
def parterrelaw07_LineTells.f (k : Nat) (a0_0 : Int) (a0_1 : Int) (a0_2 : ByteArray) (a1_0 : Int) (a1_1 : Int) (a1_2 : ByteArray) : Option (Bool) := if (a0_2.size : Int) > 300 then (parterrelaw07_LineTells.j0 k true a0_0 a0_1 a0_2 a1_0 a1_1 a1_2) else (parterrelaw07_LineTells.j0 k (decide ((a1_2.size : Int) > 300)) a0_0 a0_1 a0_2 a1_0 a1_1 a1_2)
theorem parterrelaw07_LineTells.mono_l : ∀ k, (∀ y0 y1 y2 y3 y4 y5 y6, LeO (parterrelaw07_LineTells.j0 k y0 y1 y2 y3 y4 y5 y6) (parterrelaw07_LineTells.j0 (k + 1) y0 y1 y2 y3 y4 y5 y6))
 | 0 => fun _ _ _ _ _ _ _ r h => by simp [parterrelaw07_LineTells.j0] at h
 | k + 1 => by
  have ih0 := parterrelaw07_LineTells.mono_l k
  ·intro y0 y1 y2 y3 y4 y5 y6
   unfold parterrelaw07_LineTells.j0
   repeat' first
   | (with_reducible exact ih0 _ _ _ _ _ _ _)
   | (with_reducible exact line_Good.mono _ _ _ _)
   | (with_reducible exact line_PairText.mono _ _ _ _ _ _ _)
   | (with_reducible exact line_Text.mono _ _ _ _)
   | (with_reducible exact parterrelaw07_lives.mono _)
   | (with_reducible exact parterreref07_Good.mono _ _ _ _)
   | (with_reducible exact parterreref07_PairText.mono _ _ _ _ _ _ _)
   | (with_reducible exact parterreref07_Text.mono _ _ _ _)
   | (with_reducible exact LeO.refl _)
   | (with_reducible exact LeO.none _)
   | (with_reducible refine LeO.ite ?_ ?_)
   | (with_reducible refine LeO.bind ?_ (fun _ => ?_))
theorem parterrelaw07_LineTells.mono : ∀ a0 a1 a2 a3 a4 a5 k, LeO (parterrelaw07_LineTells.f k a0 a1 a2 a3 a4 a5) (parterrelaw07_LineTells.f (k + 1) a0 a1 a2 a3 a4 a5) := by
 intro a0 a1 a2 a3 a4 a5 k
 have ih0 := parterrelaw07_LineTells.mono_l k
 unfold parterrelaw07_LineTells.f
 repeat' first
   | (with_reducible exact ih0 _ _ _ _ _ _ _)
   | (with_reducible exact line_Good.mono _ _ _ _)
   | (with_reducible exact line_PairText.mono _ _ _ _ _ _ _)
   | (with_reducible exact line_Text.mono _ _ _ _)
   | (with_reducible exact parterrelaw07_lives.mono _)
   | (with_reducible exact parterreref07_Good.mono _ _ _ _)
   | (with_reducible exact parterreref07_PairText.mono _ _ _ _ _ _ _)
   | (with_reducible exact parterreref07_Text.mono _ _ _ _)
   | (with_reducible exact LeO.refl _)
   | (with_reducible exact LeO.none _)
   | (with_reducible refine LeO.ite ?_ ?_)
   | (with_reducible refine LeO.bind ?_ (fun _ => ?_))
def parterrelaw07_LineTells.T3 : Bool × List (List Nat × List Nat) := (true, [([], []), ([0], [0]), ([], []), ([2, 1], [2]), ([1, 3], [1, 3]), ([4, 3], [4]), ([5], [5]), ([6, 5, 5], [5, 6]), ([5], [5]), ([8, 7, 5], [5, 8]), ([7, 9, 5], [5, 7, 9]), ([5, 10], [5, 10]), ([11, 9], [11]), ([12], [12]), ([12], [12]), ([13, 14, 12, 12], [12, 13, 14]), ([12], [12]), ([12], [12]), ([16, 17, 15, 12], [12, 16, 17]), ([15, 18, 12], [12, 15, 18]), ([12, 19], [12, 19]), ([20, 18], [20]), ([21, 21], [21]), ([21, 22], [21, 22]), ([23, 22, 0, 1, 2, 3, 4, 5, 6, 7, 8, 9, 10, 11, 12, 13, 14, 15, 16, 17, 18, 19, 20, 21, 22, 23], [23])])
def parterrelaw07_LineTells.B3 : List Nat := [0, 1, 0, 7, 15, 31, 63, 127, 63, 511, 1023, 2047, 4095, 8191, 8191, 32767, 8191, 8191, 262143, 524287, 1048575, 2097151, 4194303, 8388607, 16777215]
theorem parterrelaw07_LineTells.tab3 : rtab .any (opsOf Tryz.f4 3) = parterrelaw07_LineTells.T3 := by kernel_rfl
theorem parterrelaw07_LineTells.bits3 : waitsOk parterrelaw07_LineTells.T3.2 parterrelaw07_LineTells.B3 = true := by kernel_rfl
set_option maxHeartbeats 8000000 in
set_option maxRecDepth 100000 in
theorem parterrelaw07_LineTells.calls (k : Nat) (a0_0 : Int) (a0_1 : Int) (a0_2 : ByteArray) (a1_0 : Int) (a1_1 : Int) (a1_2 : ByteArray) (r : Bool) (w : World) (h : parterrelaw07_LineTells.f k a0_0 a0_1 a0_2 a1_0 a1_1 a1_2 = some r) (htab : Tbl.Tab0 w) :
  Calls Tryz.prog 4 #[.agg #[.int .i64 a0_0, .int .i64 a0_1, .string a0_2], .agg #[.int .i64 a1_0, .int .i64 a1_1, .string a1_2]] w fun e w' => e = .returned (.bool r) ∧ Below w.heap.size w w' := by
 have HTB := Aside0.mk htab
 clear htab
 have hu32 := Tryz.underlying32
 have HB := Aside0.mk (Below.refl w.heap.size w)
 have H : (if (a0_2.size : Int) > 300 then (parterrelaw07_LineTells.j0 k true a0_0 a0_1 a0_2 a1_0 a1_1 a1_2) else (parterrelaw07_LineTells.j0 k (decide ((a1_2.size : Int) > 300)) a0_0 a0_1 a0_2 a1_0 a1_1 a1_2)) = some r := h
 clear h
 have HC3 := Aside0.mk H
 clear H
 go_enter Tryz.func4, Tryz.ntmps4
 go_upto_region 1 with (first | ((with_reducible refine gate_dst (N := 2) rfl ?_); (try (refine gate_guard (by rfl) ?_; dsimp only)); refine box_event ?hg (N := 2) ?hd (cs := #[.int .i64 a0_0, .int .i64 a0_1, .string a0_2]) (t := 32) ?hr ?_; (case hd => rfl); (case hg => rfl); (case hr => first | (go_simp; done) | (go_simp; rfl)); intro gb351 hg w4 hbox hb; have n0_ := Aside0.mk (below_step bel_ hb); have n1_ := Aside0.mk (hbox); have n2_ := Aside0.mk ((bsz_ hg : w.heap.size ≤ gb351)); have n3_ := Aside0.mk ((bsz_ hg : w.heap.size ≤ gb351)); clear HB; have HB := n0_; have BK351 := n1_; have GW351 := n2_; have GE351 := n3_; clear n0_ n1_ n2_ n3_; clear hb hbox hg) | ((with_reducible refine gate_dst (N := 3) rfl ?_); (try (refine gate_guard (by rfl) ?_; dsimp only)); refine box_event ?hg (N := 3) ?hd (cs := #[.int .i64 a1_0, .int .i64 a1_1, .string a1_2]) (t := 32) ?hr ?_; (case hd => rfl); (case hg => rfl); (case hr => first | (go_simp; done) | (go_simp; rfl)); intro gb352 hg w5 hbox hb; have n0_ := blb_ BK351 hb; have n1_ := Aside0.mk (below_step bel_ hb); have n2_ := Aside0.mk (hbox); have n3_ := Aside0.mk ((bsz_ hg : w.heap.size ≤ gb352)); have n4_ := Aside0.mk ((bsz_ hg : w.heap.size ≤ gb352)); have n5_ := Aside0.mk (bne_ BK351 hg : gb351 ≠ gb352); have n6_ := Aside0.mk (bng_ BK351 hg : gb352 ≠ gb351); clear BK351; clear HB; have BK351 := n0_; have HB := n1_; have BK352 := n2_; have GW352 := n3_; have GE352 := n4_; have NB351_352 := n5_; have NB352_351 := n6_; clear n0_ n1_ n2_ n3_ n4_ n5_ n6_; clear hb hbox hg))
 (try simp only [Act.put, List.setIfInBounds_toArray, List.set_cons_zero, List.set_cons_succ])
 go_cut [14] (fun v14 wc => ∃ (kq : Nat) (x14_2 : Bool), v14 = .bool x14_2 ∧ Aside0 (parterrelaw07_LineTells.j0 kq x14_2 a0_0 a0_1 a0_2 a1_0 a1_1 a1_2 = some r) ∧ Aside0 (kq ≤ k) ∧ Aside0 (wc.heap[gb351]? = some (.cells #[.int .i64 a0_0, .int .i64 a0_1, .string a0_2] 32 (0, 0))) ∧ Aside0 (wc.heap[gb352]? = some (.cells #[.int .i64 a1_0, .int .i64 a1_1, .string a1_2] 32 (0, 0))) ∧ Aside0 (Below w.heap.size w wc))
 case first =>
  have H := HC3.out
  clear HC3
  by_cases c6 : (a0_2.size : Int) > 300
  ·rw [if_pos c6] at H
   have c6b0 : decide (300 < (a0_2.size : Int)) = true := decide_eq_true c6
   have c6b1 : decide (300 < a0_2.size) = true := decide_eq_true (by omega)
   clear c6
   (first | rw [c6b0] | (simp only [i64_w, i32_w]; rw [c6b0]) | skip)
   have H' := Aside0.mk H
   clear H
   have hnb7 := NB351_352.out
   have hnc7 := NB352_351.out
   have hcz8_0 : w5.cell? ⟨gb351, 0, none⟩ = some (.int .i64 a0_0) := (blk_cell BK351.out 0).trans rfl
   have hcz8_1 : w5.cell? ⟨gb351, 1, none⟩ = some (.int .i64 a0_1) := (blk_cell BK351.out 1).trans rfl
   have hcz8_2 : w5.cell? ⟨gb351, 2, none⟩ = some (.string a0_2) := (blk_cell BK351.out 2).trans rfl
   have hfz8_0 := blk_frozen BK351.out 0
   have hfz8_1 := blk_frozen BK351.out 1
   have hfz8_2 := blk_frozen BK351.out 2
   go_wp2
   go_meet
   case rel => exact ⟨_, (true), rfs_, (by first | exact H' | (subst_vars; exact H')), ⟨ole_⟩, ⟨blk_⟩, ⟨blk_⟩, ⟨bel_⟩⟩
  ·rw [if_neg c6] at H
   have c6b0 : decide (300 < (a0_2.size : Int)) = false := decide_eq_false c6
   have c6b1 : decide (300 < a0_2.size) = false := decide_eq_false (by omega)
   clear c6
   (first | rw [c6b0] | (simp only [i64_w, i32_w]; rw [c6b0]) | skip)
   have H' := Aside0.mk H
   clear H
   have hnb9 := NB351_352.out
   have hnc9 := NB352_351.out
   have hcz10_0 : w5.cell? ⟨gb351, 0, none⟩ = some (.int .i64 a0_0) := (blk_cell BK351.out 0).trans rfl
   have hcz10_1 : w5.cell? ⟨gb351, 1, none⟩ = some (.int .i64 a0_1) := (blk_cell BK351.out 1).trans rfl
   have hcz10_2 : w5.cell? ⟨gb351, 2, none⟩ = some (.string a0_2) := (blk_cell BK351.out 2).trans rfl
   have hfz10_0 := blk_frozen BK351.out 0
   have hfz10_1 := blk_frozen BK351.out 1
   have hfz10_2 := blk_frozen BK351.out 2
   have hcz11_0 : w5.cell? ⟨gb352, 0, none⟩ = some (.int .i64 a1_0) := (blk_cell BK352.out 0).trans rfl
   have hcz11_1 : w5.cell? ⟨gb352, 1, none⟩ = some (.int .i64 a1_1) := (blk_cell BK352.out 1).trans rfl
   have hcz11_2 : w5.cell? ⟨gb352, 2, none⟩ = some (.string a1_2) := (blk_cell BK352.out 2).trans rfl
   have hfz11_0 := blk_frozen BK352.out 0
   have hfz11_1 := blk_frozen BK352.out 1
   have hfz11_2 := blk_frozen BK352.out 2
   go_wp2
   go_meet
   case rel => exact ⟨_, (decide ((a1_2.size : Int) > 300)), rfs_, (by first | exact H' | (subst_vars; exact H')), ⟨ole_⟩, ⟨blk_⟩, ⟨blk_⟩, ⟨bel_⟩⟩
 case rest =>
  clear HC3
  try clear p2
  try clear c4
  try clear c6
  try clear c6b0
  try clear c6b1
  try clear c7
  try clear c9
  try clear hcz10_0
  try clear hcz10_1
  try clear hcz10_2
  try clear hcz11_0
  try clear hcz11_1
  try clear hcz11_2
  try clear hcz8_0
  try clear hcz8_1
  try clear hcz8_2
  try clear hfz10_0
  try clear hfz10_1
  try clear hfz10_2
  try clear hfz11_0
  try clear hfz11_1
  try clear hfz11_2
  try clear hfz8_0
  try clear hfz8_1
  try clear hfz8_2
  obtain ⟨kq, x14_2, rfl, HA, HJ2, BK351, BK352, HB⟩ := hcut
  cases kq with
  | zero => exact absurd HA.out (by simp [parterrelaw07_LineTells.j0])
  | succ kj2 =>
   have H := HA.out
   clear HA
   simp only [parterrelaw07_LineTells.j0] at H
   by_cases c12 : x14_2 = true
   ·subst c12
    rw [if_pos rfl] at H
    replace H := Option.bind_eq_some_iff.mp H
    obtain ⟨t353, A130, H⟩ := H
    try dsimp only at H
    have A13 := Aside0.mk A130
    clear A130
    obtain rfl := Option.some.inj H
    go_wp2_with (first | ((with_reducible refine gate_callee (f := 15) rfl ?_); refine goesL_ (some 15) rfl rfl Tryz.func15 (by kernel_rfl) rfl #[] rfl goa_ ?_; (with_reducible refine (parterrelaw07_lives.calls kj2  t353 _ A13.out).mono ?_); rintro e w14 ⟨rfl, hb⟩; refine ⟨_, rfl, ?_⟩; have n0_ := blb_ BK351 hb; have n1_ := blb_ BK352 hb; have n2_ := Aside0.mk (below_step bel_ hb); clear BK351; clear BK352; clear HB; have BK351 := n0_; have BK352 := n1_; have HB := n2_; clear n0_ n1_ n2_; clear hb))
    go_ret
    exact ⟨rsl_, bel_⟩
   ·replace c12 := Bool.eq_false_iff.mpr c12
    subst c12
    rw [if_neg (show ¬ (false = true) by decide)] at H
    replace H := Option.bind_eq_some_iff.mp H
    obtain ⟨t354, A150, H⟩ := H
    try dsimp only at H
    have A15 := Aside0.mk A150
    clear A150
    replace H := Option.bind_eq_some_iff.mp H
    obtain ⟨t355, A160, H⟩ := H
    try dsimp only at H
    have A16 := Aside0.mk A160
    clear A160
    by_cases c17 : (t354 == t355) = true
    ·rw [if_pos c17] at H
     have c17b0 : (t354 == t355) = true := c17
     (try (have c17b1 : decide (t354 = t355) = true := by simpa using c17))
     (try (have c17b2 : (t354 == t355) = true := by simpa using c17))
     clear c17
     replace H := Option.bind_eq_some_iff.mp H
     obtain ⟨t356, A180, H⟩ := H
     try dsimp only at H
     have A18 := Aside0.mk A180
     clear A180
     replace H := Option.bind_eq_some_iff.mp H
     obtain ⟨t357, A190, H⟩ := H
     try dsimp only at H
     have A19 := Aside0.mk A190
     clear A190
     by_cases c20 : t356.toList = t357.toList
     ·rw [if_pos c20] at H
      have c20b0 : (t356.toList == t357.toList) = true := beq_iff_eq.mpr c20
      have c20b1 : (t356.toList != t357.toList) = false := bne_eq_false_iff_eq.mpr c20
      clear c20
      replace H := Option.bind_eq_some_iff.mp H
      obtain ⟨t358, A210, H⟩ := H
      try dsimp only at H
      have A21 := Aside0.mk A210
      clear A210
      replace H := Option.bind_eq_some_iff.mp H
      obtain ⟨t359, A220, H⟩ := H
      try dsimp only at H
      have A22 := Aside0.mk A220
      clear A220
      by_cases c23 : t358.toList = t359.toList
      ·rw [if_pos c23] at H
       have c23b0 : (t358.toList == t359.toList) = true := beq_iff_eq.mpr c23
       have c23b1 : (t358.toList != t359.toList) = false := bne_eq_false_iff_eq.mpr c23
       clear c23
       replace H := Option.bind_eq_some_iff.mp H
       obtain ⟨t360, A240, H⟩ := H
       try dsimp only at H
       have A24 := Aside0.mk A240
       clear A240
       obtain rfl := Option.some.inj H
       try go_wp2
       have n0_ := Aside0.mk (blk_drew BK351.out)
       have n1_ := Aside0.mk (blk_drew BK352.out)
       have n2_ := Aside0.mk (below_drew1 HB.out)
       clear BK351
       clear BK352
       clear HB
       have BK351 := n0_
       have BK352 := n1_
       have HB := n2_
       clear n0_ n1_ n2_
       refine start_ (n := 25) (S := fun w' => w'.cell? ⟨gb351, 0, none⟩ = some (.int .i64 a0_0) ∧ w'.cell? ⟨gb351, 1, none⟩ = some (.int .i64 a0_1) ∧ w'.cell? ⟨gb351, 2, none⟩ = some (.string a0_2) ∧ w'.cell? ⟨gb352, 0, none⟩ = some (.int .i64 a1_0) ∧ w'.cell? ⟨gb352, 1, none⟩ = some (.int .i64 a1_1) ∧ w'.cell? ⟨gb352, 2, none⟩ = some (.string a1_2)) (ds := []) #[false, false, false, false, false, false, false, false, false, false, false, false, false, false, false, false, false, false, false, false, false, false, false, false, false] (by kernel_rfl) rfl rfl ⟨(blk_cell BK351.out 0).trans rfl, (blk_cell BK351.out 1).trans rfl, (blk_cell BK351.out 2).trans rfl, (blk_cell BK352.out 0).trans rfl, (blk_cell BK352.out 1).trans rfl, (blk_cell BK352.out 2).trans rfl⟩ (fun hHeld => ?_); refine with_tabW parterrelaw07_LineTells.tab3 parterrelaw07_LineTells.bits3 (fun HT_ HW_ => ?_)
       generalize wc.drew = w25 at BK351 BK352 HB hHeld ⊢
       refine tas_ 0 (some 16) #[true, false, false, false, false, false, false, false, false, false, false, false, false, false, false, false, false, false, false, false, false, false, false, false, false] rfl rfl HT_.out HW_.out hHeld ?_
       refine tas_ 2 (some 18) #[true, false, true, false, false, false, false, false, false, false, false, false, false, false, false, false, false, false, false, false, false, false, false, false, false] rfl rfl HT_.out HW_.out hHeld ?_
       refine one_ (i := 1) (N := some 17) #[true, true, true, false, false, false, false, false, false, false, false, false, false, false, false, false, false, false, false, false, false, false, false, false, false] rfl rfl (one_of HT_.out (by kernel_rfl)) (by decide) (fun K hK => ?_)
       refine goes_ Tryz.func16 (by kernel_rfl) rfl #[.agg #[.int .i64 a0_0, .int .i64 a0_1, .string a0_2]] (by rfl) rfl rfl goa_ ?_
       with_reducible refine (line_Good.calls kj2 a0_0 a0_1 a0_2 t354 _ A15.out).mono ?_
       rintro e w26 ⟨rfl, hb⟩
       refine ⟨_, rfl, ?_⟩
       have n0_ := blb_ BK351 hb
       have n1_ := blb_ BK352 hb
       have n2_ := Aside0.mk (below_step bel_ hb)
       clear BK351
       clear BK352
       clear HB
       have BK351 := n0_
       have BK352 := n1_
       have HB := n2_
       clear n0_ n1_ n2_
       (try clear hb)
       (try clear hb2)
       (try clear hk)
       (try clear hi)
       refine hK.out _ _ ⟨(blk_cell BK351.out 0).trans rfl, (blk_cell BK351.out 1).trans rfl, (blk_cell BK351.out 2).trans rfl, (blk_cell BK352.out 0).trans rfl, (blk_cell BK352.out 1).trans rfl, (blk_cell BK352.out 2).trans rfl⟩ (fun hHeld => ?_)
       clear hK K
       refine norm_ (a' := ?_) ?_ ?_
       rotate_left
       ·show Act.put _ (some 17) _ = _
        simp only [Act.put, List.setIfInBounds_toArray, List.set_cons_zero, List.set_cons_succ, i64_w, i32_w]
        rfl
       refine one_ (i := 3) (N := some 19) #[true, true, true, true, false, false, false, false, false, false, false, false, false, false, false, false, false, false, false, false, false, false, false, false, false] rfl rfl (one_of HT_.out (by kernel_rfl)) (by decide) (fun K hK => ?_)
       refine goes_ Tryz.func17 (by kernel_rfl) rfl #[.agg #[.int .i64 a0_0, .int .i64 a0_1, .string a0_2]] (by rfl) rfl rfl goa_ ?_
       with_reducible refine (parterreref07_Good.calls kj2 a0_0 a0_1 a0_2 t355 _ A16.out).mono ?_
       rintro e w27 ⟨rfl, hb⟩
       refine ⟨_, rfl, ?_⟩
       have n0_ := blb_ BK351 hb
       have n1_ := blb_ BK352 hb
       have n2_ := Aside0.mk (below_step bel_ hb)
       clear BK351
       clear BK352
       clear HB
       have BK351 := n0_
       have BK352 := n1_
       have HB := n2_
       clear n0_ n1_ n2_
       (try clear hb)
       (try clear hb2)
       (try clear hk)
       (try clear hi)
       refine hK.out _ _ ⟨(blk_cell BK351.out 0).trans rfl, (blk_cell BK351.out 1).trans rfl, (blk_cell BK351.out 2).trans rfl, (blk_cell BK352.out 0).trans rfl, (blk_cell BK352.out 1).trans rfl, (blk_cell BK352.out 2).trans rfl⟩ (fun hHeld => ?_)
       clear hK K
       refine norm_ (a' := ?_) ?_ ?_
       rotate_left
       ·show Act.put _ (some 19) _ = _
        simp only [Act.put, List.setIfInBounds_toArray, List.set_cons_zero, List.set_cons_succ, i64_w, i32_w]
        rfl
       refine pus_ 4 (some 20) #[true, true, true, true, true, false, false, false, false, false, false, false, false, false, false, false, false, false, false, false, false, false, false, false, false] rfl rfl HT_.out ?_
       refine pus_ 5 (some 21) #[true, true, true, true, true, true, false, false, false, false, false, false, false, false, false, false, false, false, false, false, false, false, false, false, false] rfl rfl HT_.out ?_
       refine tas_ 6 (some 22) #[true, true, true, true, true, true, true, false, false, false, false, false, false, false, false, false, false, false, false, false, false, false, false, false, false] rfl rfl HT_.out HW_.out hHeld ?_
       refine tas_ 8 (some 24) #[true, true, true, true, true, true, true, false, true, false, false, false, false, false, false, false, false, false, false, false, false, false, false, false, false] rfl rfl HT_.out HW_.out hHeld ?_
       refine one_ (i := 7) (N := some 23) #[true, true, true, true, true, true, true, true, true, false, false, false, false, false, false, false, false, false, false, false, false, false, false, false, false] rfl rfl (one_of HT_.out (by kernel_rfl)) (by decide) (fun K hK => ?_)
       refine goes_ Tryz.func18 (by kernel_rfl) rfl #[.agg #[.int .i64 a0_0, .int .i64 a0_1, .string a0_2]] (by rfl) rfl rfl goa_ ?_
       with_reducible refine (line_Text.calls kj2 a0_0 a0_1 a0_2 t356 _ A18.out (Tbl.tab0_stays HTB.out bel_)).mono ?_
       rintro e w28 ⟨rfl, hb⟩
       refine ⟨_, rfl, ?_⟩
       have n0_ := blb_ BK351 hb
       have n1_ := blb_ BK352 hb
       have n2_ := Aside0.mk (below_step bel_ hb)
       clear BK351
       clear BK352
       clear HB
       have BK351 := n0_
       have BK352 := n1_
       have HB := n2_
       clear n0_ n1_ n2_
       (try clear hb)
       (try clear hb2)
       (try clear hk)
       (try clear hi)
       refine hK.out _ _ ⟨(blk_cell BK351.out 0).trans rfl, (blk_cell BK351.out 1).trans rfl, (blk_cell BK351.out 2).trans rfl, (blk_cell BK352.out 0).trans rfl, (blk_cell BK352.out 1).trans rfl, (blk_cell BK352.out 2).trans rfl⟩ (fun hHeld => ?_)
       clear hK K
       refine norm_ (a' := ?_) ?_ ?_
       rotate_left
       ·show Act.put _ (some 23) _ = _
        simp only [Act.put, List.setIfInBounds_toArray, List.set_cons_zero, List.set_cons_succ, i64_w, i32_w]
        rfl
       refine one_ (i := 9) (N := some 25) #[true, true, true, true, true, true, true, true, true, true, false, false, false, false, false, false, false, false, false, false, false, false, false, false, false] rfl rfl (one_of HT_.out (by kernel_rfl)) (by decide) (fun K hK => ?_)
       refine goes_ Tryz.func19 (by kernel_rfl) rfl #[.agg #[.int .i64 a0_0, .int .i64 a0_1, .string a0_2]] (by rfl) rfl rfl goa_ ?_
       with_reducible refine (parterreref07_Text.calls kj2 a0_0 a0_1 a0_2 t357 _ A19.out).mono ?_
       rintro e w29 ⟨rfl, hb⟩
       refine ⟨_, rfl, ?_⟩
       have n0_ := blb_ BK351 hb
       have n1_ := blb_ BK352 hb
       have n2_ := Aside0.mk (below_step bel_ hb)
       clear BK351
       clear BK352
       clear HB
       have BK351 := n0_
       have BK352 := n1_
       have HB := n2_
       clear n0_ n1_ n2_
       (try clear hb)
       (try clear hb2)
       (try clear hk)
       (try clear hi)
       refine hK.out _ _ ⟨(blk_cell BK351.out 0).trans rfl, (blk_cell BK351.out 1).trans rfl, (blk_cell BK351.out 2).trans rfl, (blk_cell BK352.out 0).trans rfl, (blk_cell BK352.out 1).trans rfl, (blk_cell BK352.out 2).trans rfl⟩ (fun hHeld => ?_)
       clear hK K
       refine norm_ (a' := ?_) ?_ ?_
       rotate_left
       ·show Act.put _ (some 25) _ = _
        simp only [Act.put, List.setIfInBounds_toArray, List.set_cons_zero, List.set_cons_succ, i64_w, i32_w]
        rfl
       refine pus_ 10 (some 26) #[true, true, true, true, true, true, true, true, true, true, true, false, false, false, false, false, false, false, false, false, false, false, false, false, false] rfl rfl HT_.out ?_
       refine pus_ 11 (some 27) #[true, true, true, true, true, true, true, true, true, true, true, true, false, false, false, false, false, false, false, false, false, false, false, false, false] rfl rfl HT_.out ?_
       refine pus_ 12 (some 28) #[true, true, true, true, true, true, true, true, true, true, true, true, true, false, false, false, false, false, false, false, false, false, false, false, false] rfl rfl HT_.out ?_
       refine tas_ 13 (some 29) #[true, true, true, true, true, true, true, true, true, true, true, true, true, true, false, false, false, false, false, false, false, false, false, false, false] rfl rfl HT_.out HW_.out hHeld ?_
       refine tas_ 14 (some 30) #[true, true, true, true, true, true, true, true, true, true, true, true, true, true, true, false, false, false, false, false, false, false, false, false, false] rfl rfl HT_.out HW_.out hHeld ?_
       refine tas_ 16 (some 32) #[true, true, true, true, true, true, true, true, true, true, true, true, true, true, true, false, true, false, false, false, false, false, false, false, false] rfl rfl HT_.out HW_.out hHeld ?_
       refine tas_ 17 (some 33) #[true, true, true, true, true, true, true, true, true, true, true, true, true, true, true, false, true, true, false, false, false, false, false, false, false] rfl rfl HT_.out HW_.out hHeld ?_
       refine one_ (i := 15) (N := some 31) #[true, true, true, true, true, true, true, true, true, true, true, true, true, true, true, true, true, true, false, false, false, false, false, false, false] rfl rfl (one_of HT_.out (by kernel_rfl)) (by decide) (fun K hK => ?_)
       refine goes_ Tryz.func20 (by kernel_rfl) rfl #[.agg #[.int .i64 a0_0, .int .i64 a0_1, .string a0_2], .agg #[.int .i64 a1_0, .int .i64 a1_1, .string a1_2]] (by rfl) rfl rfl goa_ ?_
       with_reducible refine (line_PairText.calls kj2 a0_0 a0_1 a0_2 a1_0 a1_1 a1_2 t358 _ A21.out (Tbl.tab0_stays HTB.out bel_)).mono ?_
       rintro e w30 ⟨rfl, hb⟩
       refine ⟨_, rfl, ?_⟩
       have n0_ := blb_ BK351 hb
       have n1_ := blb_ BK352 hb
       have n2_ := Aside0.mk (below_step bel_ hb)
       clear BK351
       clear BK352
       clear HB
       have BK351 := n0_
       have BK352 := n1_
       have HB := n2_
       clear n0_ n1_ n2_
       (try clear hb)
       (try clear hb2)
       (try clear hk)
       (try clear hi)
       refine hK.out _ _ ⟨(blk_cell BK351.out 0).trans rfl, (blk_cell BK351.out 1).trans rfl, (blk_cell BK351.out 2).trans rfl, (blk_cell BK352.out 0).trans rfl, (blk_cell BK352.out 1).trans rfl, (blk_cell BK352.out 2).trans rfl⟩ (fun hHeld => ?_)
       clear hK K
       refine norm_ (a' := ?_) ?_ ?_
       rotate_left
       ·show Act.put _ (some 31) _ = _
        simp only [Act.put, List.setIfInBounds_toArray, List.set_cons_zero, List.set_cons_succ, i64_w, i32_w]
        rfl
       refine one_ (i := 18) (N := some 34) #[true, true, true, true, true, true, true, true, true, true, true, true, true, true, true, true, true, true, true, false, false, false, false, false, false] rfl rfl (one_of HT_.out (by kernel_rfl)) (by decide) (fun K hK => ?_)
       refine goes_ Tryz.func21 (by kernel_rfl) rfl #[.agg #[.int .i64 a0_0, .int .i64 a0_1, .string a0_2], .agg #[.int .i64 a1_0, .int .i64 a1_1, .string a1_2]] (by rfl) rfl rfl goa_ ?_
       with_reducible refine (parterreref07_PairText.calls kj2 a0_0 a0_1 a0_2 a1_0 a1_1 a1_2 t359 _ A22.out).mono ?_
       rintro e w31 ⟨rfl, hb⟩
       refine ⟨_, rfl, ?_⟩
       have n0_ := blb_ BK351 hb
       have n1_ := blb_ BK352 hb
       have n2_ := Aside0.mk (below_step bel_ hb)
       clear BK351
       clear BK352
       clear HB
       have BK351 := n0_
       have BK352 := n1_
       have HB := n2_
       clear n0_ n1_ n2_
       (try clear hb)
       (try clear hb2)
       (try clear hk)
       (try clear hi)
       refine hK.out _ _ ⟨(blk_cell BK351.out 0).trans rfl, (blk_cell BK351.out 1).trans rfl, (blk_cell BK351.out 2).trans rfl, (blk_cell BK352.out 0).trans rfl, (blk_cell BK352.out 1).trans rfl, (blk_cell BK352.out 2).trans rfl⟩ (fun hHeld => ?_)
       clear hK K
       refine norm_ (a' := ?_) ?_ ?_
       rotate_left
       ·show Act.put _ (some 34) _ = _
        simp only [Act.put, List.setIfInBounds_toArray, List.set_cons_zero, List.set_cons_succ, i64_w, i32_w]
        rfl
       refine pus_ 19 (some 35) #[true, true, true, true, true, true, true, true, true, true, true, true, true, true, true, true, true, true, true, true, false, false, false, false, false] rfl rfl HT_.out ?_
       refine pus_ 20 (some 36) #[true, true, true, true, true, true, true, true, true, true, true, true, true, true, true, true, true, true, true, true, true, false, false, false, false] rfl rfl HT_.out ?_
       refine pus_ 21 (some 37) #[true, true, true, true, true, true, true, true, true, true, true, true, true, true, true, true, true, true, true, true, true, true, false, false, false] rfl rfl HT_.out ?_
       refine one_ (i := 22) (N := some 38) #[true, true, true, true, true, true, true, true, true, true, true, true, true, true, true, true, true, true, true, true, true, true, true, false, false] rfl rfl (one_of HT_.out (by kernel_rfl)) (by decide) (fun K hK => ?_)
       refine goes_ Tryz.func15 (by kernel_rfl) rfl #[] (by rfl) rfl rfl goa_ ?_
       with_reducible refine (parterrelaw07_lives.calls kj2  t360 _ A24.out).mono ?_
       rintro e w32 ⟨rfl, hb⟩
       refine ⟨_, rfl, ?_⟩
       have n0_ := blb_ BK351 hb
       have n1_ := blb_ BK352 hb
       have n2_ := Aside0.mk (below_step bel_ hb)
       clear BK351
       clear BK352
       clear HB
       have BK351 := n0_
       have BK352 := n1_
       have HB := n2_
       clear n0_ n1_ n2_
       (try clear hb)
       (try clear hb2)
       (try clear hk)
       (try clear hi)
       refine hK.out _ _ ⟨(blk_cell BK351.out 0).trans rfl, (blk_cell BK351.out 1).trans rfl, (blk_cell BK351.out 2).trans rfl, (blk_cell BK352.out 0).trans rfl, (blk_cell BK352.out 1).trans rfl, (blk_cell BK352.out 2).trans rfl⟩ (fun hHeld => ?_)
       clear hK K
       refine norm_ (a' := ?_) ?_ ?_
       rotate_left
       ·show Act.put _ (some 38) _ = _
        simp only [Act.put, List.setIfInBounds_toArray, List.set_cons_zero, List.set_cons_succ, i64_w, i32_w]
        rfl
       refine pus_ 23 (some 39) #[true, true, true, true, true, true, true, true, true, true, true, true, true, true, true, true, true, true, true, true, true, true, true, true, false] rfl rfl HT_.out ?_
       refine pus_ 24 (some 4) #[true, true, true, true, true, true, true, true, true, true, true, true, true, true, true, true, true, true, true, true, true, true, true, true, true] rfl rfl HT_.out ?_
       refine done_ (done_of HT_.out (by kernel_rfl)) ?_
       try go_wp2
       go_ret
       exact ⟨rsl_, bel_⟩
      ·rw [if_neg c23] at H
       have c23b0 : (t358.toList == t359.toList) = false := beq_eq_false_iff_ne.mpr c23
       have c23b1 : (t358.toList != t359.toList) = true := bne_iff_ne.mpr c23
       obtain rfl := Option.some.inj H
       try go_wp2
       have n0_ := Aside0.mk (blk_drew BK351.out)
       have n1_ := Aside0.mk (blk_drew BK352.out)
       have n2_ := Aside0.mk (below_drew1 HB.out)
       clear BK351
       clear BK352
       clear HB
       have BK351 := n0_
       have BK352 := n1_
       have HB := n2_
       clear n0_ n1_ n2_
       refine start_ (n := 25) (S := fun w' => w'.cell? ⟨gb351, 0, none⟩ = some (.int .i64 a0_0) ∧ w'.cell? ⟨gb351, 1, none⟩ = some (.int .i64 a0_1) ∧ w'.cell? ⟨gb351, 2, none⟩ = some (.string a0_2) ∧ w'.cell? ⟨gb352, 0, none⟩ = some (.int .i64 a1_0) ∧ w'.cell? ⟨gb352, 1, none⟩ = some (.int .i64 a1_1) ∧ w'.cell? ⟨gb352, 2, none⟩ = some (.string a1_2)) (ds := []) #[false, false, false, false, false, false, false, false, false, false, false, false, false, false, false, false, false, false, false, false, false, false, false, false, false] (by kernel_rfl) rfl rfl ⟨(blk_cell BK351.out 0).trans rfl, (blk_cell BK351.out 1).trans rfl, (blk_cell BK351.out 2).trans rfl, (blk_cell BK352.out 0).trans rfl, (blk_cell BK352.out 1).trans rfl, (blk_cell BK352.out 2).trans rfl⟩ (fun hHeld => ?_); refine with_tabW parterrelaw07_LineTells.tab3 parterrelaw07_LineTells.bits3 (fun HT_ HW_ => ?_)
       generalize wc.drew = w33 at BK351 BK352 HB hHeld ⊢
       refine tas_ 0 (some 16) #[true, false, false, false, false, false, false, false, false, false, false, false, false, false, false, false, false, false, false, false, false, false, false, false, false] rfl rfl HT_.out HW_.out hHeld ?_
       refine tas_ 2 (some 18) #[true, false, true, false, false, false, false, false, false, false, false, false, false, false, false, false, false, false, false, false, false, false, false, false, false] rfl rfl HT_.out HW_.out hHeld ?_
       refine one_ (i := 1) (N := some 17) #[true, true, true, false, false, false, false, false, false, false, false, false, false, false, false, false, false, false, false, false, false, false, false, false, false] rfl rfl (one_of HT_.out (by kernel_rfl)) (by decide) (fun K hK => ?_)
       refine goes_ Tryz.func16 (by kernel_rfl) rfl #[.agg #[.int .i64 a0_0, .int .i64 a0_1, .string a0_2]] (by rfl) rfl rfl goa_ ?_
       with_reducible refine (line_Good.calls kj2 a0_0 a0_1 a0_2 t354 _ A15.out).mono ?_
       rintro e w34 ⟨rfl, hb⟩
       refine ⟨_, rfl, ?_⟩
       have n0_ := blb_ BK351 hb
       have n1_ := blb_ BK352 hb
       have n2_ := Aside0.mk (below_step bel_ hb)
       clear BK351
       clear BK352
       clear HB
       have BK351 := n0_
       have BK352 := n1_
       have HB := n2_
       clear n0_ n1_ n2_
       (try clear hb)
       (try clear hb2)
       (try clear hk)
       (try clear hi)
       refine hK.out _ _ ⟨(blk_cell BK351.out 0).trans rfl, (blk_cell BK351.out 1).trans rfl, (blk_cell BK351.out 2).trans rfl, (blk_cell BK352.out 0).trans rfl, (blk_cell BK352.out 1).trans rfl, (blk_cell BK352.out 2).trans rfl⟩ (fun hHeld => ?_)
       clear hK K
       refine norm_ (a' := ?_) ?_ ?_
       rotate_left
       ·show Act.put _ (some 17) _ = _
        simp only [Act.put, List.setIfInBounds_toArray, List.set_cons_zero, List.set_cons_succ, i64_w, i32_w]
        rfl
       refine one_ (i := 3) (N := some 19) #[true, true, true, true, false, false, false, false, false, false, false, false, false, false, false, false, false, false, false, false, false, false, false, false, false] rfl rfl (one_of HT_.out (by kernel_rfl)) (by decide) (fun K hK => ?_)
       refine goes_ Tryz.func17 (by kernel_rfl) rfl #[.agg #[.int .i64 a0_0, .int .i64 a0_1, .string a0_2]] (by rfl) rfl rfl goa_ ?_
       with_reducible refine (parterreref07_Good.calls kj2 a0_0 a0_1 a0_2 t355 _ A16.out).mono ?_
       rintro e w35 ⟨rfl, hb⟩
       refine ⟨_, rfl, ?_⟩
       have n0_ := blb_ BK351 hb
       have n1_ := blb_ BK352 hb
       have n2_ := Aside0.mk (below_step bel_ hb)
       clear BK351
       clear BK352
       clear HB
       have BK351 := n0_
       have BK352 := n1_
       have HB := n2_
       clear n0_ n1_ n2_
       (try clear hb)
       (try clear hb2)
       (try clear hk)
       (try clear hi)
       refine hK.out _ _ ⟨(blk_cell BK351.out 0).trans rfl, (blk_cell BK351.out 1).trans rfl, (blk_cell BK351.out 2).trans rfl, (blk_cell BK352.out 0).trans rfl, (blk_cell BK352.out 1).trans rfl, (blk_cell BK352.out 2).trans rfl⟩ (fun hHeld => ?_)
       clear hK K
       refine norm_ (a' := ?_) ?_ ?_
       rotate_left
       ·show Act.put _ (some 19) _ = _
        simp only [Act.put, List.setIfInBounds_toArray, List.set_cons_zero, List.set_cons_succ, i64_w, i32_w]
        rfl
       refine pus_ 4 (some 20) #[true, true, true, true, true, false, false, false, false, false, false, false, false, false, false, false, false, false, false, false, false, false, false, false, false] rfl rfl HT_.out ?_
       refine pus_ 5 (some 21) #[true, true, true, true, true, true, false, false, false, false, false, false, false, false, false, false, false, false, false, false, false, false, false, false, false] rfl rfl HT_.out ?_
       refine tas_ 6 (some 22) #[true, true, true, true, true, true, true, false, false, false, false, false, false, false, false, false, false, false, false, false, false, false, false, false, false] rfl rfl HT_.out HW_.out hHeld ?_
       refine tas_ 8 (some 24) #[true, true, true, true, true, true, true, false, true, false, false, false, false, false, false, false, false, false, false, false, false, false, false, false, false] rfl rfl HT_.out HW_.out hHeld ?_
       refine one_ (i := 7) (N := some 23) #[true, true, true, true, true, true, true, true, true, false, false, false, false, false, false, false, false, false, false, false, false, false, false, false, false] rfl rfl (one_of HT_.out (by kernel_rfl)) (by decide) (fun K hK => ?_)
       refine goes_ Tryz.func18 (by kernel_rfl) rfl #[.agg #[.int .i64 a0_0, .int .i64 a0_1, .string a0_2]] (by rfl) rfl rfl goa_ ?_
       with_reducible refine (line_Text.calls kj2 a0_0 a0_1 a0_2 t356 _ A18.out (Tbl.tab0_stays HTB.out bel_)).mono ?_
       rintro e w36 ⟨rfl, hb⟩
       refine ⟨_, rfl, ?_⟩
       have n0_ := blb_ BK351 hb
       have n1_ := blb_ BK352 hb
       have n2_ := Aside0.mk (below_step bel_ hb)
       clear BK351
       clear BK352
       clear HB
       have BK351 := n0_
       have BK352 := n1_
       have HB := n2_
       clear n0_ n1_ n2_
       (try clear hb)
       (try clear hb2)
       (try clear hk)
       (try clear hi)
       refine hK.out _ _ ⟨(blk_cell BK351.out 0).trans rfl, (blk_cell BK351.out 1).trans rfl, (blk_cell BK351.out 2).trans rfl, (blk_cell BK352.out 0).trans rfl, (blk_cell BK352.out 1).trans rfl, (blk_cell BK352.out 2).trans rfl⟩ (fun hHeld => ?_)
       clear hK K
       refine norm_ (a' := ?_) ?_ ?_
       rotate_left
       ·show Act.put _ (some 23) _ = _
        simp only [Act.put, List.setIfInBounds_toArray, List.set_cons_zero, List.set_cons_succ, i64_w, i32_w]
        rfl
       refine one_ (i := 9) (N := some 25) #[true, true, true, true, true, true, true, true, true, true, false, false, false, false, false, false, false, false, false, false, false, false, false, false, false] rfl rfl (one_of HT_.out (by kernel_rfl)) (by decide) (fun K hK => ?_)
       refine goes_ Tryz.func19 (by kernel_rfl) rfl #[.agg #[.int .i64 a0_0, .int .i64 a0_1, .string a0_2]] (by rfl) rfl rfl goa_ ?_
       with_reducible refine (parterreref07_Text.calls kj2 a0_0 a0_1 a0_2 t357 _ A19.out).mono ?_
       rintro e w37 ⟨rfl, hb⟩
       refine ⟨_, rfl, ?_⟩
       have n0_ := blb_ BK351 hb
       have n1_ := blb_ BK352 hb
       have n2_ := Aside0.mk (below_step bel_ hb)
       clear BK351
       clear BK352
       clear HB
       have BK351 := n0_
       have BK352 := n1_
       have HB := n2_
       clear n0_ n1_ n2_
       (try clear hb)
       (try clear hb2)
       (try clear hk)
       (try clear hi)
       refine hK.out _ _ ⟨(blk_cell BK351.out 0).trans rfl, (blk_cell BK351.out 1).trans rfl, (blk_cell BK351.out 2).trans rfl, (blk_cell BK352.out 0).trans rfl, (blk_cell BK352.out 1).trans rfl, (blk_cell BK352.out 2).trans rfl⟩ (fun hHeld => ?_)
       clear hK K
       refine norm_ (a' := ?_) ?_ ?_
       rotate_left
       ·show Act.put _ (some 25) _ = _
        simp only [Act.put, List.setIfInBounds_toArray, List.set_cons_zero, List.set_cons_succ, i64_w, i32_w]
        rfl
       refine pus_ 10 (some 26) #[true, true, true, true, true, true, true, true, true, true, true, false, false, false, false, false, false, false, false, false, false, false, false, false, false] rfl rfl HT_.out ?_
       refine pus_ 11 (some 27) #[true, true, true, true, true, true, true, true, true, true, true, true, false, false, false, false, false, false, false, false, false, false, false, false, false] rfl rfl HT_.out ?_
       refine pus_ 12 (some 28) #[true, true, true, true, true, true, true, true, true, true, true, true, true, false, false, false, false, false, false, false, false, false, false, false, false] rfl rfl HT_.out ?_
       refine tas_ 13 (some 29) #[true, true, true, true, true, true, true, true, true, true, true, true, true, true, false, false, false, false, false, false, false, false, false, false, false] rfl rfl HT_.out HW_.out hHeld ?_
       refine tas_ 14 (some 30) #[true, true, true, true, true, true, true, true, true, true, true, true, true, true, true, false, false, false, false, false, false, false, false, false, false] rfl rfl HT_.out HW_.out hHeld ?_
       refine tas_ 16 (some 32) #[true, true, true, true, true, true, true, true, true, true, true, true, true, true, true, false, true, false, false, false, false, false, false, false, false] rfl rfl HT_.out HW_.out hHeld ?_
       refine tas_ 17 (some 33) #[true, true, true, true, true, true, true, true, true, true, true, true, true, true, true, false, true, true, false, false, false, false, false, false, false] rfl rfl HT_.out HW_.out hHeld ?_
       refine one_ (i := 15) (N := some 31) #[true, true, true, true, true, true, true, true, true, true, true, true, true, true, true, true, true, true, false, false, false, false, false, false, false] rfl rfl (one_of HT_.out (by kernel_rfl)) (by decide) (fun K hK => ?_)
       refine goes_ Tryz.func20 (by kernel_rfl) rfl #[.agg #[.int .i64 a0_0, .int .i64 a0_1, .string a0_2], .agg #[.int .i64 a1_0, .int .i64 a1_1, .string a1_2]] (by rfl) rfl rfl goa_ ?_
       with_reducible refine (line_PairText.calls kj2 a0_0 a0_1 a0_2 a1_0 a1_1 a1_2 t358 _ A21.out (Tbl.tab0_stays HTB.out bel_)).mono ?_
       rintro e w38 ⟨rfl, hb⟩
       refine ⟨_, rfl, ?_⟩
       have n0_ := blb_ BK351 hb
       have n1_ := blb_ BK352 hb
       have n2_ := Aside0.mk (below_step bel_ hb)
       clear BK351
       clear BK352
       clear HB
       have BK351 := n0_
       have BK352 := n1_
       have HB := n2_
       clear n0_ n1_ n2_
       (try clear hb)
       (try clear hb2)
       (try clear hk)
       (try clear hi)
       refine hK.out _ _ ⟨(blk_cell BK351.out 0).trans rfl, (blk_cell BK351.out 1).trans rfl, (blk_cell BK351.out 2).trans rfl, (blk_cell BK352.out 0).trans rfl, (blk_cell BK352.out 1).trans rfl, (blk_cell BK352.out 2).trans rfl⟩ (fun hHeld => ?_)
       clear hK K
       refine norm_ (a' := ?_) ?_ ?_
       rotate_left
       ·show Act.put _ (some 31) _ = _
        simp only [Act.put, List.setIfInBounds_toArray, List.set_cons_zero, List.set_cons_succ, i64_w, i32_w]
        rfl
       refine one_ (i := 18) (N := some 34) #[true, true, true, true, true, true, true, true, true, true, true, true, true, true, true, true, true, true, true, false, false, false, false, false, false] rfl rfl (one_of HT_.out (by kernel_rfl)) (by decide) (fun K hK => ?_)
       refine goes_ Tryz.func21 (by kernel_rfl) rfl #[.agg #[.int .i64 a0_0, .int .i64 a0_1, .string a0_2], .agg #[.int .i64 a1_0, .int .i64 a1_1, .string a1_2]] (by rfl) rfl rfl goa_ ?_
       with_reducible refine (parterreref07_PairText.calls kj2 a0_0 a0_1 a0_2 a1_0 a1_1 a1_2 t359 _ A22.out).mono ?_
       rintro e w39 ⟨rfl, hb⟩
       refine ⟨_, rfl, ?_⟩
       have n0_ := blb_ BK351 hb
       have n1_ := blb_ BK352 hb
       have n2_ := Aside0.mk (below_step bel_ hb)
       clear BK351
       clear BK352
       clear HB
       have BK351 := n0_
       have BK352 := n1_
       have HB := n2_
       clear n0_ n1_ n2_
       (try clear hb)
       (try clear hb2)
       (try clear hk)
       (try clear hi)
       refine hK.out _ _ ⟨(blk_cell BK351.out 0).trans rfl, (blk_cell BK351.out 1).trans rfl, (blk_cell BK351.out 2).trans rfl, (blk_cell BK352.out 0).trans rfl, (blk_cell BK352.out 1).trans rfl, (blk_cell BK352.out 2).trans rfl⟩ (fun hHeld => ?_)
       clear hK K
       refine norm_ (a' := ?_) ?_ ?_
       rotate_left
       ·show Act.put _ (some 34) _ = _
        simp only [Act.put, List.setIfInBounds_toArray, List.set_cons_zero, List.set_cons_succ, i64_w, i32_w]
        rfl
       refine pus_ 19 (some 35) #[true, true, true, true, true, true, true, true, true, true, true, true, true, true, true, true, true, true, true, true, false, false, false, false, false] rfl rfl HT_.out ?_
       refine pus_ 20 (some 36) #[true, true, true, true, true, true, true, true, true, true, true, true, true, true, true, true, true, true, true, true, true, false, false, false, false] rfl rfl HT_.out ?_
       refine pus_ 21 (some 37) #[true, true, true, true, true, true, true, true, true, true, true, true, true, true, true, true, true, true, true, true, true, true, false, false, false] rfl rfl HT_.out ?_
       refine puu_ 22 (some 38) #[true, true, true, true, true, true, true, true, true, true, true, true, true, true, true, true, true, true, true, true, true, true, true, false, false] rfl rfl HT_.out ?_
       refine pus_ 23 (some 39) #[true, true, true, true, true, true, true, true, true, true, true, true, true, true, true, true, true, true, true, true, true, true, true, true, false] rfl rfl HT_.out ?_
       refine pus_ 24 (some 4) #[true, true, true, true, true, true, true, true, true, true, true, true, true, true, true, true, true, true, true, true, true, true, true, true, true] rfl rfl HT_.out ?_
       refine done_ (done_of HT_.out (by kernel_rfl)) ?_
       try go_wp2
       go_ret
       exact ⟨rsl_, bel_⟩
     ·rw [if_neg c20] at H
      have c20b0 : (t356.toList == t357.toList) = false := beq_eq_false_iff_ne.mpr c20
      have c20b1 : (t356.toList != t357.toList) = true := bne_iff_ne.mpr c20
      obtain rfl := Option.some.inj H
      try go_wp2
      have n0_ := Aside0.mk (blk_drew BK351.out)
      have n1_ := Aside0.mk (blk_drew BK352.out)
      have n2_ := Aside0.mk (below_drew1 HB.out)
      clear BK351
      clear BK352
      clear HB
      have BK351 := n0_
      have BK352 := n1_
      have HB := n2_
      clear n0_ n1_ n2_
      refine start_ (n := 25) (S := fun w' => w'.cell? ⟨gb351, 0, none⟩ = some (.int .i64 a0_0) ∧ w'.cell? ⟨gb351, 1, none⟩ = some (.int .i64 a0_1) ∧ w'.cell? ⟨gb351, 2, none⟩ = some (.string a0_2)) (ds := []) #[false, false, false, false, false, false, false, false, false, false, false, false, false, false, false, false, false, false, false, false, false, false, false, false, false] (by kernel_rfl) rfl rfl ⟨(blk_cell BK351.out 0).trans rfl, (blk_cell BK351.out 1).trans rfl, (blk_cell BK351.out 2).trans rfl⟩ (fun hHeld => ?_); refine with_tabW parterrelaw07_LineTells.tab3 parterrelaw07_LineTells.bits3 (fun HT_ HW_ => ?_)
      generalize wc.drew = w40 at BK351 BK352 HB hHeld ⊢
      refine tas_ 0 (some 16) #[true, false, false, false, false, false, false, false, false, false, false, false, false, false, false, false, false, false, false, false, false, false, false, false, false] rfl rfl HT_.out HW_.out hHeld ?_
      refine tas_ 2 (some 18) #[true, false, true, false, false, false, false, false, false, false, false, false, false, false, false, false, false, false, false, false, false, false, false, false, false] rfl rfl HT_.out HW_.out hHeld ?_
      refine one_ (i := 1) (N := some 17) #[true, true, true, false, false, false, false, false, false, false, false, false, false, false, false, false, false, false, false, false, false, false, false, false, false] rfl rfl (one_of HT_.out (by kernel_rfl)) (by decide) (fun K hK => ?_)
      refine goes_ Tryz.func16 (by kernel_rfl) rfl #[.agg #[.int .i64 a0_0, .int .i64 a0_1, .string a0_2]] (by rfl) rfl rfl goa_ ?_
      with_reducible refine (line_Good.calls kj2 a0_0 a0_1 a0_2 t354 _ A15.out).mono ?_
      rintro e w41 ⟨rfl, hb⟩
      refine ⟨_, rfl, ?_⟩
      have n0_ := blb_ BK351 hb
      have n1_ := blb_ BK352 hb
      have n2_ := Aside0.mk (below_step bel_ hb)
      clear BK351
      clear BK352
      clear HB
      have BK351 := n0_
      have BK352 := n1_
      have HB := n2_
      clear n0_ n1_ n2_
      (try clear hb)
      (try clear hb2)
      (try clear hk)
      (try clear hi)
      refine hK.out _ _ ⟨(blk_cell BK351.out 0).trans rfl, (blk_cell BK351.out 1).trans rfl, (blk_cell BK351.out 2).trans rfl⟩ (fun hHeld => ?_)
      clear hK K
      refine norm_ (a' := ?_) ?_ ?_
      rotate_left
      ·show Act.put _ (some 17) _ = _
       simp only [Act.put, List.setIfInBounds_toArray, List.set_cons_zero, List.set_cons_succ, i64_w, i32_w]
       rfl
      refine one_ (i := 3) (N := some 19) #[true, true, true, true, false, false, false, false, false, false, false, false, false, false, false, false, false, false, false, false, false, false, false, false, false] rfl rfl (one_of HT_.out (by kernel_rfl)) (by decide) (fun K hK => ?_)
      refine goes_ Tryz.func17 (by kernel_rfl) rfl #[.agg #[.int .i64 a0_0, .int .i64 a0_1, .string a0_2]] (by rfl) rfl rfl goa_ ?_
      with_reducible refine (parterreref07_Good.calls kj2 a0_0 a0_1 a0_2 t355 _ A16.out).mono ?_
      rintro e w42 ⟨rfl, hb⟩
      refine ⟨_, rfl, ?_⟩
      have n0_ := blb_ BK351 hb
      have n1_ := blb_ BK352 hb
      have n2_ := Aside0.mk (below_step bel_ hb)
      clear BK351
      clear BK352
      clear HB
      have BK351 := n0_
      have BK352 := n1_
      have HB := n2_
      clear n0_ n1_ n2_
      (try clear hb)
      (try clear hb2)
      (try clear hk)
      (try clear hi)
      refine hK.out _ _ ⟨(blk_cell BK351.out 0).trans rfl, (blk_cell BK351.out 1).trans rfl, (blk_cell BK351.out 2).trans rfl⟩ (fun hHeld => ?_)
      clear hK K
      refine norm_ (a' := ?_) ?_ ?_
      rotate_left
      ·show Act.put _ (some 19) _ = _
       simp only [Act.put, List.setIfInBounds_toArray, List.set_cons_zero, List.set_cons_succ, i64_w, i32_w]
       rfl
      refine pus_ 4 (some 20) #[true, true, true, true, true, false, false, false, false, false, false, false, false, false, false, false, false, false, false, false, false, false, false, false, false] rfl rfl HT_.out ?_
      refine pus_ 5 (some 21) #[true, true, true, true, true, true, false, false, false, false, false, false, false, false, false, false, false, false, false, false, false, false, false, false, false] rfl rfl HT_.out ?_
      refine tas_ 6 (some 22) #[true, true, true, true, true, true, true, false, false, false, false, false, false, false, false, false, false, false, false, false, false, false, false, false, false] rfl rfl HT_.out HW_.out hHeld ?_
      refine tas_ 8 (some 24) #[true, true, true, true, true, true, true, false, true, false, false, false, false, false, false, false, false, false, false, false, false, false, false, false, false] rfl rfl HT_.out HW_.out hHeld ?_
      refine one_ (i := 7) (N := some 23) #[true, true, true, true, true, true, true, true, true, false, false, false, false, false, false, false, false, false, false, false, false, false, false, false, false] rfl rfl (one_of HT_.out (by kernel_rfl)) (by decide) (fun K hK => ?_)
      refine goes_ Tryz.func18 (by kernel_rfl) rfl #[.agg #[.int .i64 a0_0, .int .i64 a0_1, .string a0_2]] (by rfl) rfl rfl goa_ ?_
      with_reducible refine (line_Text.calls kj2 a0_0 a0_1 a0_2 t356 _ A18.out (Tbl.tab0_stays HTB.out bel_)).mono ?_
      rintro e w43 ⟨rfl, hb⟩
      refine ⟨_, rfl, ?_⟩
      have n0_ := blb_ BK351 hb
      have n1_ := blb_ BK352 hb
      have n2_ := Aside0.mk (below_step bel_ hb)
      clear BK351
      clear BK352
      clear HB
      have BK351 := n0_
      have BK352 := n1_
      have HB := n2_
      clear n0_ n1_ n2_
      (try clear hb)
      (try clear hb2)
      (try clear hk)
      (try clear hi)
      refine hK.out _ _ ⟨(blk_cell BK351.out 0).trans rfl, (blk_cell BK351.out 1).trans rfl, (blk_cell BK351.out 2).trans rfl⟩ (fun hHeld => ?_)
      clear hK K
      refine norm_ (a' := ?_) ?_ ?_
      rotate_left
      ·show Act.put _ (some 23) _ = _
       simp only [Act.put, List.setIfInBounds_toArray, List.set_cons_zero, List.set_cons_succ, i64_w, i32_w]
       rfl
      refine one_ (i := 9) (N := some 25) #[true, true, true, true, true, true, true, true, true, true, false, false, false, false, false, false, false, false, false, false, false, false, false, false, false] rfl rfl (one_of HT_.out (by kernel_rfl)) (by decide) (fun K hK => ?_)
      refine goes_ Tryz.func19 (by kernel_rfl) rfl #[.agg #[.int .i64 a0_0, .int .i64 a0_1, .string a0_2]] (by rfl) rfl rfl goa_ ?_
      with_reducible refine (parterreref07_Text.calls kj2 a0_0 a0_1 a0_2 t357 _ A19.out).mono ?_
      rintro e w44 ⟨rfl, hb⟩
      refine ⟨_, rfl, ?_⟩
      have n0_ := blb_ BK351 hb
      have n1_ := blb_ BK352 hb
      have n2_ := Aside0.mk (below_step bel_ hb)
      clear BK351
      clear BK352
      clear HB
      have BK351 := n0_
      have BK352 := n1_
      have HB := n2_
      clear n0_ n1_ n2_
      (try clear hb)
      (try clear hb2)
      (try clear hk)
      (try clear hi)
      refine hK.out _ _ ⟨(blk_cell BK351.out 0).trans rfl, (blk_cell BK351.out 1).trans rfl, (blk_cell BK351.out 2).trans rfl⟩ (fun hHeld => ?_)
      clear hK K
      refine norm_ (a' := ?_) ?_ ?_
      rotate_left
      ·show Act.put _ (some 25) _ = _
       simp only [Act.put, List.setIfInBounds_toArray, List.set_cons_zero, List.set_cons_succ, i64_w, i32_w]
       rfl
      refine pus_ 10 (some 26) #[true, true, true, true, true, true, true, true, true, true, true, false, false, false, false, false, false, false, false, false, false, false, false, false, false] rfl rfl HT_.out ?_
      refine pus_ 11 (some 27) #[true, true, true, true, true, true, true, true, true, true, true, true, false, false, false, false, false, false, false, false, false, false, false, false, false] rfl rfl HT_.out ?_
      refine pus_ 12 (some 28) #[true, true, true, true, true, true, true, true, true, true, true, true, true, false, false, false, false, false, false, false, false, false, false, false, false] rfl rfl HT_.out ?_
      refine puu_ 13 (some 29) #[true, true, true, true, true, true, true, true, true, true, true, true, true, true, false, false, false, false, false, false, false, false, false, false, false] rfl rfl HT_.out ?_
      refine puu_ 14 (some 30) #[true, true, true, true, true, true, true, true, true, true, true, true, true, true, true, false, false, false, false, false, false, false, false, false, false] rfl rfl HT_.out ?_
      refine puu_ 15 (some 31) #[true, true, true, true, true, true, true, true, true, true, true, true, true, true, true, true, false, false, false, false, false, false, false, false, false] rfl rfl HT_.out ?_
      refine puu_ 16 (some 32) #[true, true, true, true, true, true, true, true, true, true, true, true, true, true, true, true, true, false, false, false, false, false, false, false, false] rfl rfl HT_.out ?_
      refine puu_ 17 (some 33) #[true, true, true, true, true, true, true, true, true, true, true, true, true, true, true, true, true, true, false, false, false, false, false, false, false] rfl rfl HT_.out ?_
      refine puu_ 18 (some 34) #[true, true, true, true, true, true, true, true, true, true, true, true, true, true, true, true, true, true, true, false, false, false, false, false, false] rfl rfl HT_.out ?_
      refine puu_ 19 (some 35) #[true, true, true, true, true, true, true, true, true, true, true, true, true, true, true, true, true, true, true, true, false, false, false, false, false] rfl rfl HT_.out ?_
      refine pus_ 20 (some 36) #[true, true, true, true, true, true, true, true, true, true, true, true, true, true, true, true, true, true, true, true, true, false, false, false, false] rfl rfl HT_.out ?_
      refine pus_ 21 (some 37) #[true, true, true, true, true, true, true, true, true, true, true, true, true, true, true, true, true, true, true, true, true, true, false, false, false] rfl rfl HT_.out ?_
      refine puu_ 22 (some 38) #[true, true, true, true, true, true, true, true, true, true, true, true, true, true, true, true, true, true, true, true, true, true, true, false, false] rfl rfl HT_.out ?_
      refine pus_ 23 (some 39) #[true, true, true, true, true, true, true, true, true, true, true, true, true, true, true, true, true, true, true, true, true, true, true, true, false] rfl rfl HT_.out ?_
      refine pus_ 24 (some 4) #[true, true, true, true, true, true, true, true, true, true, true, true, true, true, true, true, true, true, true, true, true, true, true, true, true] rfl rfl HT_.out ?_
      refine done_ (done_of HT_.out (by kernel_rfl)) ?_
      try go_wp2
      go_ret
      exact ⟨rsl_, bel_⟩
    ·rw [if_neg c17] at H
     have c17b0 : (t354 == t355) = false := by simpa using c17
     (try (have c17b1 : decide (t354 = t355) = false := by simpa using c17))
     (try (have c17b2 : (t354 == t355) = false := by simpa using c17))
     (try (have c17b3 : ¬ (t354 = t355) := by simpa using c17))
     clear c17
     obtain rfl := Option.some.inj H
     try go_wp2
     have n0_ := Aside0.mk (blk_drew BK351.out)
     have n1_ := Aside0.mk (blk_drew BK352.out)
     have n2_ := Aside0.mk (below_drew1 HB.out)
     clear BK351
     clear BK352
     clear HB
     have BK351 := n0_
     have BK352 := n1_
     have HB := n2_
     clear n0_ n1_ n2_
     refine start_ (n := 25) (S := fun w' => w'.cell? ⟨gb351, 0, none⟩ = some (.int .i64 a0_0) ∧ w'.cell? ⟨gb351, 1, none⟩ = some (.int .i64 a0_1) ∧ w'.cell? ⟨gb351, 2, none⟩ = some (.string a0_2)) (ds := []) #[false, false, false, false, false, false, false, false, false, false, false, false, false, false, false, false, false, false, false, false, false, false, false, false, false] (by kernel_rfl) rfl rfl ⟨(blk_cell BK351.out 0).trans rfl, (blk_cell BK351.out 1).trans rfl, (blk_cell BK351.out 2).trans rfl⟩ (fun hHeld => ?_); refine with_tabW parterrelaw07_LineTells.tab3 parterrelaw07_LineTells.bits3 (fun HT_ HW_ => ?_)
     generalize wc.drew = w45 at BK351 BK352 HB hHeld ⊢
     refine tas_ 0 (some 16) #[true, false, false, false, false, false, false, false, false, false, false, false, false, false, false, false, false, false, false, false, false, false, false, false, false] rfl rfl HT_.out HW_.out hHeld ?_
     refine tas_ 2 (some 18) #[true, false, true, false, false, false, false, false, false, false, false, false, false, false, false, false, false, false, false, false, false, false, false, false, false] rfl rfl HT_.out HW_.out hHeld ?_
     refine one_ (i := 1) (N := some 17) #[true, true, true, false, false, false, false, false, false, false, false, false, false, false, false, false, false, false, false, false, false, false, false, false, false] rfl rfl (one_of HT_.out (by kernel_rfl)) (by decide) (fun K hK => ?_)
     refine goes_ Tryz.func16 (by kernel_rfl) rfl #[.agg #[.int .i64 a0_0, .int .i64 a0_1, .string a0_2]] (by rfl) rfl rfl goa_ ?_
     with_reducible refine (line_Good.calls kj2 a0_0 a0_1 a0_2 t354 _ A15.out).mono ?_
     rintro e w46 ⟨rfl, hb⟩
     refine ⟨_, rfl, ?_⟩
     have n0_ := blb_ BK351 hb
     have n1_ := blb_ BK352 hb
     have n2_ := Aside0.mk (below_step bel_ hb)
     clear BK351
     clear BK352
     clear HB
     have BK351 := n0_
     have BK352 := n1_
     have HB := n2_
     clear n0_ n1_ n2_
     (try clear hb)
     (try clear hb2)
     (try clear hk)
     (try clear hi)
     refine hK.out _ _ ⟨(blk_cell BK351.out 0).trans rfl, (blk_cell BK351.out 1).trans rfl, (blk_cell BK351.out 2).trans rfl⟩ (fun hHeld => ?_)
     clear hK K
     refine norm_ (a' := ?_) ?_ ?_
     rotate_left
     ·show Act.put _ (some 17) _ = _
      simp only [Act.put, List.setIfInBounds_toArray, List.set_cons_zero, List.set_cons_succ, i64_w, i32_w]
      rfl
     refine one_ (i := 3) (N := some 19) #[true, true, true, true, false, false, false, false, false, false, false, false, false, false, false, false, false, false, false, false, false, false, false, false, false] rfl rfl (one_of HT_.out (by kernel_rfl)) (by decide) (fun K hK => ?_)
     refine goes_ Tryz.func17 (by kernel_rfl) rfl #[.agg #[.int .i64 a0_0, .int .i64 a0_1, .string a0_2]] (by rfl) rfl rfl goa_ ?_
     with_reducible refine (parterreref07_Good.calls kj2 a0_0 a0_1 a0_2 t355 _ A16.out).mono ?_
     rintro e w47 ⟨rfl, hb⟩
     refine ⟨_, rfl, ?_⟩
     have n0_ := blb_ BK351 hb
     have n1_ := blb_ BK352 hb
     have n2_ := Aside0.mk (below_step bel_ hb)
     clear BK351
     clear BK352
     clear HB
     have BK351 := n0_
     have BK352 := n1_
     have HB := n2_
     clear n0_ n1_ n2_
     (try clear hb)
     (try clear hb2)
     (try clear hk)
     (try clear hi)
     refine hK.out _ _ ⟨(blk_cell BK351.out 0).trans rfl, (blk_cell BK351.out 1).trans rfl, (blk_cell BK351.out 2).trans rfl⟩ (fun hHeld => ?_)
     clear hK K
     refine norm_ (a' := ?_) ?_ ?_
     rotate_left
     ·show Act.put _ (some 19) _ = _
      simp only [Act.put, List.setIfInBounds_toArray, List.set_cons_zero, List.set_cons_succ, i64_w, i32_w]
      rfl
     refine pus_ 4 (some 20) #[true, true, true, true, true, false, false, false, false, false, false, false, false, false, false, false, false, false, false, false, false, false, false, false, false] rfl rfl HT_.out ?_
     refine pus_ 5 (some 21) #[true, true, true, true, true, true, false, false, false, false, false, false, false, false, false, false, false, false, false, false, false, false, false, false, false] rfl rfl HT_.out ?_
     refine puu_ 6 (some 22) #[true, true, true, true, true, true, true, false, false, false, false, false, false, false, false, false, false, false, false, false, false, false, false, false, false] rfl rfl HT_.out ?_
     refine puu_ 7 (some 23) #[true, true, true, true, true, true, true, true, false, false, false, false, false, false, false, false, false, false, false, false, false, false, false, false, false] rfl rfl HT_.out ?_
     refine puu_ 8 (some 24) #[true, true, true, true, true, true, true, true, true, false, false, false, false, false, false, false, false, false, false, false, false, false, false, false, false] rfl rfl HT_.out ?_
     refine puu_ 9 (some 25) #[true, true, true, true, true, true, true, true, true, true, false, false, false, false, false, false, false, false, false, false, false, false, false, false, false] rfl rfl HT_.out ?_
     refine puu_ 10 (some 26) #[true, true, true, true, true, true, true, true, true, true, true, false, false, false, false, false, false, false, false, false, false, false, false, false, false] rfl rfl HT_.out ?_
     refine pus_ 11 (some 27) #[true, true, true, true, true, true, true, true, true, true, true, true, false, false, false, false, false, false, false, false, false, false, false, false, false] rfl rfl HT_.out ?_
     refine pus_ 12 (some 28) #[true, true, true, true, true, true, true, true, true, true, true, true, true, false, false, false, false, false, false, false, false, false, false, false, false] rfl rfl HT_.out ?_
     refine puu_ 13 (some 29) #[true, true, true, true, true, true, true, true, true, true, true, true, true, true, false, false, false, false, false, false, false, false, false, false, false] rfl rfl HT_.out ?_
     refine puu_ 14 (some 30) #[true, true, true, true, true, true, true, true, true, true, true, true, true, true, true, false, false, false, false, false, false, false, false, false, false] rfl rfl HT_.out ?_
     refine puu_ 15 (some 31) #[true, true, true, true, true, true, true, true, true, true, true, true, true, true, true, true, false, false, false, false, false, false, false, false, false] rfl rfl HT_.out ?_
     refine puu_ 16 (some 32) #[true, true, true, true, true, true, true, true, true, true, true, true, true, true, true, true, true, false, false, false, false, false, false, false, false] rfl rfl HT_.out ?_
     refine puu_ 17 (some 33) #[true, true, true, true, true, true, true, true, true, true, true, true, true, true, true, true, true, true, false, false, false, false, false, false, false] rfl rfl HT_.out ?_
     refine puu_ 18 (some 34) #[true, true, true, true, true, true, true, true, true, true, true, true, true, true, true, true, true, true, true, false, false, false, false, false, false] rfl rfl HT_.out ?_
     refine puu_ 19 (some 35) #[true, true, true, true, true, true, true, true, true, true, true, true, true, true, true, true, true, true, true, true, false, false, false, false, false] rfl rfl HT_.out ?_
     refine pus_ 20 (some 36) #[true, true, true, true, true, true, true, true, true, true, true, true, true, true, true, true, true, true, true, true, true, false, false, false, false] rfl rfl HT_.out ?_
     refine pus_ 21 (some 37) #[true, true, true, true, true, true, true, true, true, true, true, true, true, true, true, true, true, true, true, true, true, true, false, false, false] rfl rfl HT_.out ?_
     refine puu_ 22 (some 38) #[true, true, true, true, true, true, true, true, true, true, true, true, true, true, true, true, true, true, true, true, true, true, true, false, false] rfl rfl HT_.out ?_
     refine pus_ 23 (some 39) #[true, true, true, true, true, true, true, true, true, true, true, true, true, true, true, true, true, true, true, true, true, true, true, true, false] rfl rfl HT_.out ?_
     refine pus_ 24 (some 4) #[true, true, true, true, true, true, true, true, true, true, true, true, true, true, true, true, true, true, true, true, true, true, true, true, true] rfl rfl HT_.out ?_
     refine done_ (done_of HT_.out (by kernel_rfl)) ?_
     try go_wp2
     go_ret
     exact ⟨rsl_, bel_⟩

def g32 (x : S32) : Prop := (gInt .i64) x.f0 ∧ (gInt .i64) x.f1 ∧ gStr x.f2
theorem o32 : Opens Tryz.prog 32 k32 g32 := by
 have h := opens_iso (f := fun x : S32 => (x.f0, x.f1, x.f2)) (fun a => ⟨a.1, a.2.1, a.2.2⟩) (fun _ => rfl) (opens_struct Tryz.underlying32 (by kernel_rfl) (opensF_cons rfl (by kernel_rfl) (opens_int Tryz.underlying3) (opensF_cons rfl (by kernel_rfl) (opens_int Tryz.underlying3) (opensF_one rfl (by kernel_rfl) (opens_string Tryz.underlying9)))))
 exact h
/-- THE ONE PURE STATEMENT of parterrelaw07_LineTells. -/
def parterrelaw07_LineTells.Pure : Prop := ∀ (a0_0 : Int) (a0_1 : Int) (a0_2 : ByteArray) (a1_0 : Int) (a1_1 : Int) (a1_2 : ByteArray), g32 (⟨a0_0, a0_1, a0_2⟩ : S32) → g32 (⟨a1_0, a1_1, a1_2⟩ : S32) → ∃ k, parterrelaw07_LineTells.f k a0_0 a0_1 a0_2 a1_0 a1_1 a1_2 = some true

end Go.Proofs.YtofdhdafabmhmaaGreatDoor.PLt
end
section
/- Names and texts as they are written (layer 4): the plain programs and the document's, byte for byte. Conditions: as each statement says. -/
namespace Go.Proofs.YtofdhdafabmhmaaGreatDoor.PureId
open Go.RowKit Go.Proofs.YtofdhdafabmhmaaGreatDoorW.PrintWords Go.Proofs.YtofdhdafabmhmaaGreatDoorW.PrintMore Go.Proofs.YtofdhdafabmhmaaGreatDoor.Evs Go.Proofs.YtofdhdafabmhmaaGreatDoor.Opn Go.Proofs.YtofdhdafabmhmaaGreatDoor.PLt

/-! ### The 256 bytes, each looked at -/
def fine (c : Int) : Bool := (token_Letter.f c).isSome && ((ident_digit.f c).isSome && ((ident_control.f c).isSome && (decide (ident_escaped.f c = parterreref04_number.f c) && ((ident_escaped.f c).map (fun t => decide (t.size ≤ 4)) == some true))))
theorem fine_all : (List.range 256).all (fun n => fine (n : Int)) = true := by decide +kernel
theorem byte_all (c : Int) (h0 : 0 ≤ c) (h1 : c ≤ 255) : ∃ t1 t2 t3 t4, token_Letter.f c = some t1 ∧ ident_digit.f c = some t2 ∧ ident_control.f c = some t3 ∧ ident_escaped.f c = some t4 ∧ parterreref04_number.f c = some t4 ∧ t4.size ≤ 4 := by
  have h := List.all_eq_true.1 fine_all c.toNat (List.mem_range.2 (by omega))
  rw [Int.toNat_of_nonneg h0] at h
  simp only [fine, Bool.and_eq_true, decide_eq_true_eq, beq_iff_eq] at h
  obtain ⟨h1, h2, h3, h4, h5⟩ := h
  obtain ⟨t1, e1⟩ := Option.isSome_iff_exists.1 h1
  obtain ⟨t2, e2⟩ := Option.isSome_iff_exists.1 h2
  obtain ⟨t3, e3⟩ := Option.isSome_iff_exists.1 h3
  obtain ⟨t4, e4, e5⟩ := Option.map_eq_some_iff.1 h5
  exact ⟨t1, t2, t3, t4, e1, e2, e3, e4, h4 ▸ e4, of_decide_eq_true e5⟩

/-! ### A nought -/
theorem bt_get (s : ByteArray) (i : Nat) (h : i < s.size) : bt s (i : Int) = ((s.data.toList[i]'(by rw [data_length]; exact h)).toNat : Int) := by
  rw [← bt_at s (i : Int) (by simpa using h)]
  simp
  rfl
theorem bt_zero (s : ByteArray) (i : Nat) (h : i < s.size) : bt s (i : Int) = 0 ↔ s.data.toList[i]? = some 0 := by
  have h' : i < s.data.toList.length := by rw [data_length]; exact h
  rw [bt_get s i h, List.getElem?_eq_getElem h', Option.some_inj]
  constructor
  · intro e
    apply UInt8.toNat_inj.1
    simpa using e
  · intro e
    rw [e]
    rfl
def has0 (s : ByteArray) : Bool := decide (0 ≤ Lib.indexByte s.data.toList 0)
theorem has0_true {s : ByteArray} {i : Nat} (h : i < s.size) (hb : bt s (i : Int) = 0) : has0 s = true := by
  unfold has0
  apply decide_eq_true
  by_cases h0 : Lib.indexByte s.data.toList 0 = -1
  · exact absurd ((bt_zero s i h).1 hb) (Lib.indexByte_none h0 i)
  · have := Lib.indexByte_ge s.data.toList 0
    omega
theorem has0_false {s : ByteArray} (h : ∀ i, i < s.size → bt s (i : Int) ≠ 0) : has0 s = false := by
  unfold has0
  apply decide_eq_false
  intro h0
  obtain ⟨o, ho⟩ := Int.eq_ofNat_of_zero_le h0
  obtain ⟨h1, _⟩ := Lib.indexByte_some ho
  have h2 := (List.getElem?_eq_some_iff.1 h1).1
  rw [data_length] at h2
  exact h o h2 ((bt_zero s o h2).2 h1)
theorem nought_ev (s : ByteArray) (hs : s.size ≤ 140737488351232) : ∀ d i : Nat, s.size - i = d → i ≤ s.size → (∀ j, j < i → bt s (j : Int) ≠ 0) → Ev (fun k => parterreref04_nought.l0 k s (i : Int)) (has0 s) := by
  intro d
  induction d with
  | zero =>
    intro i hd hi hj
    refine ev_step ?_
    simp only [parterreref04_nought.l0]
    rw [has0_false (fun j h => hj j (by omega))]
    exact ev_neg (by omega) ev_some
  | succ d ih =>
    intro i hd hi hj
    refine ev_step ?_
    simp only [parterreref04_nought.l0]
    refine ev_pos (by omega) (ev_pos (by omega) (ev_ite (fun h => ?_) (fun h => ?_)))
    · rw [has0_true (by omega) h]
      exact ev_some
    · rw [w64 (by omega) (by omega)]
      refine ih (i + 1) (by omega) (by omega) (fun j hj' => ?_)
      rcases Nat.lt_or_ge j i with h1 | h1
      · exact hj j h1
      · obtain rfl : j = i := by omega
        exact h
theorem noughts (s : ByteArray) (hs : s.size ≤ 140737488351232) : Ev (fun k => parterreref04_nought.f k s) (has0 s) := nought_ev s hs _ 0 rfl (Nat.zero_le _) (fun j h => absurd h (Nat.not_lt_zero _))
theorem index0 (s : ByteArray) : strings_IndexByte.f s 0 = some (Lib.indexByte s.data.toList 0) := rfl
theorem has0_lt (s : ByteArray) : decide (Lib.indexByte s.data.toList 0 < 0) = !has0 s := by
  unfold has0
  rw [← decide_not]
  exact decide_eq_decide.2 (by omega)

/-! ### A name -/
def isName (s : ByteArray) : Bool := if s.toList = ([] : List UInt8) then false else if (s.size : Int) ≤ 64 then !has0 s else false
theorem name_f (s : ByteArray) : ident_Name.f s = some (isName s) := by
  unfold ident_Name.f isName
  split
  · rfl
  · split
    · rw [index0]
      show some (decide _) = _
      rw [has0_lt]
    · rfl
theorem name_ev (s : ByteArray) (hs : s.size ≤ 140737488351232) : Ev (fun k => parterreref04_Name.f k s) (isName s) := by
  unfold parterreref04_Name.f isName
  by_cases h : s.toList = ([] : List UInt8)
  · rw [if_pos h]
    exact ev_pos h ev_some
  · rw [if_neg h]
    refine ev_neg h ?_
    by_cases h2 : (s.size : Int) ≤ 64
    · rw [if_pos h2]
      exact ev_pos h2 (ev_bind (noughts s hs) ev_some)
    · rw [if_neg h2]
      exact ev_neg h2 ev_some

/-! ### Written -/
theorem byte_of (s : ByteArray) (i : Int) : ∃ t1 t2 t3 t4, token_Letter.f (bt s i) = some t1 ∧ ident_digit.f (bt s i) = some t2 ∧ ident_control.f (bt s i) = some t3 ∧ ident_escaped.f (bt s i) = some t4 ∧ parterreref04_number.f (bt s i) = some t4 ∧ t4.size ≤ 4 := byte_all (bt s i) (bt_range s i).1 (bt_range s i).2
theorem sub_size (s : ByteArray) (i : Nat) (h : i < s.size) : (s.extract i (i + 1)).size = 1 := by
  rw [ByteArray.size_extract]
  omega
theorem app_mk (c : List UInt8) (r : ByteArray) : (⟨c.toArray⟩ : ByteArray) ++ r = ⟨(c ++ r.data.toList).toArray⟩ := by
  apply ByteArray.ext
  simp
theorem size_mk (c : List UInt8) : (⟨c.toArray⟩ : ByteArray).size = c.length := by
  show c.toArray.size = _
  simp
theorem wr (s : ByteArray) (i : Nat) (hs : s.size ≤ 1000000) (hi : i < s.size) : wrap64 ((i : Int) + 1) = ((i + 1 : Nat) : Int) := by
  rw [w64 (by omega) (by omega)]
  omega
theorem backslash_size : (⟨#[92]⟩ : ByteArray).size = 1 := rfl
/-- What the document's 'Write' does with one byte, once it is known whether the byte stands for itself. -/
theorem j1_ev (s : ByteArray) (i : Nat) (c : List UInt8) (b : Bool) (t2 t3 : Bool) (t4 : ByteArray) (R : ByteArray) (hs : s.size ≤ 1000000) (hi : i < s.size) (hc : c.length ≤ i * 8)
    (h2 : ident_digit.f (bt s i) = some t2) (h3 : ident_control.f (bt s i) = some t3) (h4 : parterreref04_number.f (bt s i) = some t4) (hz : t4.size ≤ 4)
    (k : Ev (fun k => parterreref04_Write.l0 k s ((⟨c.toArray⟩ : ByteArray) ++ (if b = true then s.extract i (i + 1) else if t2 = true then t4 else if t3 = true then t4 else (⟨#[92]⟩ : ByteArray) ++ s.extract i (i + 1))) ((i + 1 : Nat) : Int)) R) :
    Ev (fun k => parterreref04_Write.j1 k s ⟨c.toArray⟩ (i : Int) (bt s i) b) R := by
  have hw := wr s i hs hi
  have hz1 := sub_size s i hi
  have hcz := size_mk c
  refine ev_step ?_
  simp only [parterreref04_Write.j1, hw, Int.toNat_natCast]
  cases b with
  | true =>
    rw [if_pos rfl] at k
    exact ev_pos rfl (ev_pos (by omega) (ev_pos (by omega) (ev_pos (by omega) (ev_pos (by omega) k))))
  | false =>
    rw [if_neg (by decide)] at k
    refine ev_neg (by decide) (ev_bindc h2 ?_)
    cases t2 with
    | true =>
      rw [if_pos rfl] at k
      exact ev_pos rfl (ev_bindc h4 (ev_pos (by omega) k))
    | false =>
      rw [if_neg (by decide)] at k
      refine ev_neg (by decide) (ev_bindc h3 ?_)
      cases t3 with
      | true =>
        rw [if_pos rfl] at k
        exact ev_pos rfl (ev_bindc h4 (ev_pos (by omega) k))
      | false =>
        rw [if_neg (by decide), ← ByteArray.append_assoc] at k
        exact ev_neg (by decide) (ev_pos (by rw [hcz]; omega) (ev_pos (by omega) (ev_pos (by omega) (ev_pos (by omega) (ev_pos (by rw [ByteArray.size_append, backslash_size]; omega) k)))))

theorem one_write (s : ByteArray) (i : Nat) (hs : s.size ≤ 1000000) (hi : i < s.size) : ∃ t1 t2 t3 t4, token_Letter.f (bt s i) = some t1 ∧ ident_digit.f (bt s i) = some t2 ∧ ident_control.f (bt s i) = some t3 ∧ parterreref04_number.f (bt s i) = some t4 ∧ t4.size ≤ 4 ∧
    ident_Write.one s i = some (if (t1 || (decide (bt s i = 45) && decide (1 < (s.size : Int)) || (t2 && !ident_Write.first s i))) = true then s.extract i (i + 1) else if t2 = true then t4 else if t3 = true then t4 else (⟨#[92]⟩ : ByteArray) ++ s.extract i (i + 1)) := by
  obtain ⟨t1, t2, t3, t4, h1, h2, h3, h4, h5, h6⟩ := byte_of s i
  refine ⟨t1, t2, t3, t4, h1, h2, h3, h5, h6, ?_⟩
  unfold ident_Write.one ident_Write.sub
  rw [h1, h2, h3, h4, wr s i hs hi]
  simp only [Option.bind_some, Int.toNat_natCast, Option.some_inj]
  generalize ident_Write.first s i = f
  generalize s.extract i (i + 1) = e
  by_cases c1 : bt s i = 45 <;> by_cases c2 : 1 < (s.size : Int) <;> cases t1 <;> cases t2 <;> cases f <;> simp [c1, c2]

theorem piece_size (s : ByteArray) (i : Nat) (hi : i < s.size) (b t2 t3 : Bool) (t4 : ByteArray) (hz : t4.size ≤ 4) : (if b = true then s.extract i (i + 1) else if t2 = true then t4 else if t3 = true then t4 else (⟨#[92]⟩ : ByteArray) ++ s.extract i (i + 1)).size ≤ 8 := by
  have := sub_size s i hi
  split
  · omega
  · split
    · omega
    · split
      · omega
      · rw [ByteArray.size_append, backslash_size]
        omega
theorem next_write {s r : ByteArray} {n : Nat} {c : List UInt8} (hc : ident_Write.cat s n = some c) (h6 : ident_Write.one s n = some r) (hz : r.size ≤ 8) : ident_Write.cat s (n + 1) = some (c ++ r.data.toList) := by
  show (ident_Write.cat s n).bind _ = _
  rw [hc]
  show (ident_Write.one s n).bind _ = _
  rw [h6]
  exact if_pos hz
theorem cat_write (s : ByteArray) (hs : s.size ≤ 1000000) : ∀ n, n ≤ s.size → ∃ c, ident_Write.cat s n = some c
  | 0, _ => ⟨[], rfl⟩
  | n + 1, h => by
    obtain ⟨c, hc⟩ := cat_write s hs n (by omega)
    obtain ⟨t1, t2, t3, t4, h1, h2, h3, h4, h5, h6⟩ := one_write s n hs (by omega)
    exact ⟨_, next_write hc h6 (piece_size s n (by omega) _ _ _ _ h5)⟩
theorem write_loop (s : ByteArray) (l : List UInt8) (hs : s.size ≤ 1000000) (hl : ident_Write.cat s s.size = some l) : ∀ d i : Nat, s.size - i = d → i ≤ s.size → ∀ c, ident_Write.cat s i = some c → Ev (fun k => parterreref04_Write.l0 k s ⟨c.toArray⟩ (i : Int)) ⟨l.toArray⟩ := by
  intro d
  induction d with
  | zero =>
    intro i hd hi c hc
    obtain rfl : i = s.size := by omega
    obtain rfl := Option.some.inj (hc.symm.trans hl)
    refine ev_step ?_
    simp only [parterreref04_Write.l0]
    exact ev_neg (by omega) ev_some
  | succ d ih =>
    intro i hd hi c hc
    have hlt : i < s.size := by omega
    obtain ⟨c', r, g1, g2, g3, g4⟩ := ident_Write.cat_lt s hl hlt
    obtain rfl := Option.some.inj (hc.symm.trans g1)
    have k0 := ih (i + 1) (by omega) (by omega) _ g4
    rw [← app_mk] at k0
    obtain ⟨t1, t2, t3, t4, h1, h2, h3, h4, h5, h6⟩ := one_write s i hs hlt
    obtain rfl := Option.some.inj (h6.symm.trans g2)
    have hcl := ident_Write.cat_len s i c hc
    have j := fun b e => j1_ev s i c b t2 t3 t4 ⟨l.toArray⟩ hs hlt hcl h2 h3 h4 h5 (e : Ev _ _)
    have hd1 : parterreref04_digit.f (bt s i) = some t2 := h2
    have hl1 : parterreref03_Letter.f (bt s i) = some t1 := h1
    refine ev_step ?_
    simp only [parterreref04_Write.l0]
    refine ev_pos (by omega) (ev_pos (by omega) (ev_bindc hl1 ?_))
    have tail : t1 = false → ¬ (bt s i = 45 ∧ 1 < (s.size : Int)) → Ev (fun k => (parterreref04_digit.f (bt s i)).bind fun t108 => (if t108 = true then (if (i : Int) > 0 then (if (i : Int) = 1 then (if 0 < (s.size : Int) then (parterreref04_Write.j1 k s ⟨c.toArray⟩ (i : Int) (bt s i) (!((bt s 0) == 45))) else (none)) else (parterreref04_Write.j1 k s ⟨c.toArray⟩ (i : Int) (bt s i) (!false))) else (parterreref04_Write.j1 k s ⟨c.toArray⟩ (i : Int) (bt s i) false)) else (parterreref04_Write.j1 k s ⟨c.toArray⟩ (i : Int) (bt s i) false))) ⟨l.toArray⟩ := by
      intro e1 e2
      have e3 : (decide (bt s i = 45) && decide (1 < (s.size : Int))) = false := by
        rw [← Bool.decide_and]
        exact decide_eq_false e2
      rw [e1, e3] at k0
      simp only [Bool.false_or] at k0
      refine ev_bindc hd1 ?_
      cases t2 with
      | false => exact ev_neg (by decide) (j _ k0)
      | true =>
        simp only [Bool.true_and] at k0
        unfold ident_Write.first at k0
        refine ev_pos rfl (ev_ite (fun p0 => ?_) (fun p0 => ?_))
        · have q0 : ¬ ((i : Int) = 0) := by omega
          rw [decide_eq_false q0, Bool.false_or] at k0
          refine ev_ite (fun p1 => ?_) (fun p1 => ?_)
          · rw [decide_eq_true p1, Bool.true_and] at k0
            exact ev_pos (by omega) (j _ k0)
          · rw [decide_eq_false p1, Bool.false_and] at k0
            exact j _ k0
        · have q0 : ((i : Int) = 0) := by omega
          rw [decide_eq_true q0, Bool.true_or] at k0
          exact j _ k0
    cases t1 with
    | true =>
      simp only [Bool.true_or] at k0
      exact ev_pos rfl (j _ k0)
    | false =>
      refine ev_neg (by decide) (ev_ite (fun p1 => ?_) (fun p1 => ?_))
      · refine ev_ite (fun p2 => ?_) (fun p2 => ?_)
        · rw [decide_eq_true p1, decide_eq_true (show 1 < (s.size : Int) by omega)] at k0
          simp only [Bool.false_or, Bool.true_and, Bool.true_or] at k0
          exact j _ k0
        · exact tail rfl (fun h => p2 h.2)
      · exact tail rfl (fun h => p1 h.1)
theorem write_f (s : ByteArray) (hs : s.size ≤ 1000000) : ∃ r, ident_Write.f s = some r ∧ Ev (fun k => parterreref04_Write.f k s) r := by
  unfold ident_Write.f parterreref04_Write.f
  rw [name_f]
  have hn := name_ev s (by omega)
  cases hb : isName s with
  | false =>
    rw [hb] at hn
    exact ⟨_, rfl, ev_bind hn (ev_neg (by decide) ev_some)⟩
  | true =>
    rw [hb] at hn
    obtain ⟨l, hl⟩ := cat_write s hs s.size (Nat.le_refl _)
    refine ⟨⟨l.toArray⟩, ?_, ev_bind hn (ev_pos rfl (write_loop s l hs hl s.size 0 rfl (Nat.zero_le _) [] rfl))⟩
    show (if true = true then (if s.size ≤ 1000000 then (ident_Write.cat s s.size).bind (fun l => some (⟨l.toArray⟩ : ByteArray)) else none) else some (⟨#[]⟩ : ByteArray)) = _
    rw [if_pos rfl, if_pos hs, hl]
    rfl

/-! ### Quoted -/
end Go.Proofs.YtofdhdafabmhmaaGreatDoor.PureId
end
section
/- IdentTells, as a statement on bytes. Conditions: none beyond the arguments' own kinds. -/
namespace Go.Proofs.YtofdhdafabmhmaaGreatDoor.PureIdT
open Go.RowKit Go.Proofs.YtofdhdafabmhmaaGreatDoorW.PrintWords Go.Proofs.YtofdhdafabmhmaaGreatDoorW.PrintMore Go.Proofs.YtofdhdafabmhmaaGreatDoor.Evs Go.Proofs.YtofdhdafabmhmaaGreatDoor.Opn Go.Proofs.YtofdhdafabmhmaaGreatDoor.PLt Go.Proofs.YtofdhdafabmhmaaGreatDoor.PureId
def lowN (s : ByteArray) (n : Nat) : List Int := (List.range n).map fun j => ident_Lower.low (bt s (j : Nat))
def L (s : ByteArray) : ByteArray := strOfNums (lowN s s.size)
theorem lower_f (s : ByteArray) (hs : s.size ≤ 1000000) : ident_Lower.f s = some (L s) := if_pos (by omega)
theorem strOfNums_app (a b : List Int) : strOfNums (a ++ b) = strOfNums a ++ strOfNums b := by
  apply ByteArray.ext
  simp [strOfNums]
theorem strOfNums_size (a : List Int) : (strOfNums a).size = a.length := by
  show (strOfNums a).data.size = _
  simp [strOfNums]
theorem lowN_succ (s : ByteArray) (n : Nat) : lowN s (n + 1) = lowN s n ++ [ident_Lower.low (bt s (n : Nat))] := by
  simp [lowN, List.range_succ]
theorem lowN_size (s : ByteArray) (n : Nat) : (lowN s n).length = n := by simp [lowN]
theorem lower_loop (s : ByteArray) (hs : s.size ≤ 1000000) : ∀ d i : Nat, s.size - i = d → i ≤ s.size → Ev (fun k => parterreref04_Lower.l0 k s (strOfNums (lowN s i)) (i : Int)) (L s) := by
  intro d
  induction d with
  | zero =>
    intro i hd hi
    obtain rfl : i = s.size := by omega
    refine ev_step ?_
    simp only [parterreref04_Lower.l0]
    exact ev_neg (by omega) ev_some
  | succ d ih =>
    intro i hd hi
    have hlt : i < s.size := by omega
    have k0 := ih (i + 1) (by omega) (by omega)
    rw [lowN_succ, strOfNums_app] at k0
    have hz := strOfNums_size (lowN s i)
    rw [lowN_size] at hz
    have hw := wr s i hs hlt
    have one : ∀ c : Int, (strOfNums [c]).size = 1 := fun c => strOfNums_size [c]
    refine ev_step ?_
    simp only [parterreref04_Lower.l0, hw]
    unfold ident_Lower.low at k0
    refine ev_pos (by omega) (ev_pos (by omega) (ev_ite (fun p1 => ?_) (fun p1 => ?_)))
    · rw [if_pos p1] at k0
      refine ev_ite (fun p2 => ?_) (fun p2 => ?_)
      · rw [if_pos p2] at k0
        have e : (bt s (i : Int) - 65) % 256 + 97 = bt s (i : Int) + 32 := by omega
        have e2 : (bt s (i : Int) + 32) % 256 = bt s (i : Int) + 32 := by omega
        refine ev_let (ev_pos ?_ ?_)
        · rw [one]; omega
        · rw [e, e2]; exact k0
      · rw [if_neg p2] at k0
        refine ev_let (ev_pos ?_ k0)
        rw [one]; omega
    · rw [if_neg p1] at k0
      refine ev_let (ev_pos ?_ k0)
      rw [one]; omega
theorem lower_ev (s : ByteArray) (hs : s.size ≤ 1000000) : Ev (fun k => parterreref04_Lower.f k s) (L s) := by
  unfold parterreref04_Lower.f
  exact lower_loop s hs s.size 0 rfl (Nat.zero_le _)
theorem is_ev (a b : ByteArray) (ha : a.size ≤ 1000000) (hb : b.size ≤ 1000000) : Ev (fun k => parterreref04_Is.f k a b) ((L a).toList == (L b).toList) := by
  unfold parterreref04_Is.f
  exact ev_bind (lower_ev a ha) (ev_bind (lower_ev b hb) ev_some)
theorem custom_loop (s : ByteArray) (l : List ByteArray) (hs : s.size ≤ 1000000) (hl : l.length ≤ 100) (hx : ∀ x ∈ l, x.size ≤ 1000000) : ∀ d i : Nat, l.length - i = d → i ≤ l.length →
    Ev (fun k => parterreref04_Custom.l0 k s l (i : Int)) (if (l.drop i).any (fun x => (L s).toList == (L x).toList) = true then false else isName s) := by
  intro d
  induction d with
  | zero =>
    intro i hd hi
    refine ev_step ?_
    simp only [parterreref04_Custom.l0]
    rw [List.drop_eq_nil_of_le (by omega)]
    refine ev_neg (by omega) (ev_cast (ev_bind_some (name_ev s (by omega))) ?_)
    simp
  | succ d ih =>
    intro i hd hi
    have hlt : i < l.length := by omega
    have hr : rdOf ByteArray.empty l (i : Int) = l[i] := by
      simp [rdOf, List.getD_eq_getElem?_getD, List.getElem?_eq_getElem hlt]
    refine ev_step ?_
    simp only [parterreref04_Custom.l0, hr]
    rw [List.drop_eq_getElem_cons hlt, List.any_cons]
    refine ev_pos (by omega) (ev_pos (by omega) (ev_bind (is_ev s l[i] hs (hx _ (List.getElem_mem hlt))) (ev_ite (fun p => ?_) (fun p => ?_))))
    · rw [p, Bool.true_or, if_pos rfl]
      exact ev_some
    · rw [Bool.eq_false_iff.2 p, Bool.false_or, w64 (by omega) (by omega)]
      exact ih (i + 1) (by omega) (by omega)
def kws : List ByteArray := [(⟨#[115, 112, 97, 110]⟩ : ByteArray), (⟨#[97, 117, 116, 111]⟩ : ByteArray), (⟨#[105, 110, 105, 116, 105, 97, 108]⟩ : ByteArray), (⟨#[105, 110, 104, 101, 114, 105, 116]⟩ : ByteArray), (⟨#[117, 110, 115, 101, 116]⟩ : ByteArray), (⟨#[100, 101, 102, 97, 117, 108, 116]⟩ : ByteArray), (⟨#[114, 101, 118, 101, 114, 116]⟩ : ByteArray)]
theorem kws_low : kws.map (fun x => (L x).data.toList) = [[115, 112, 97, 110], [97, 117, 116, 111], [105, 110, 105, 116, 105, 97, 108], [105, 110, 104, 101, 114, 105, 116], [117, 110, 115, 101, 116], [100, 101, 102, 97, 117, 108, 116], [114, 101, 118, 101, 114, 116]] := by decide +kernel
def custom (s : ByteArray) : Bool := if kws.any (fun x => (L s).toList == (L x).toList) = true then false else isName s
theorem custom_ev (s : ByteArray) (hs : s.size ≤ 1000000) : Ev (fun k => parterreref04_Custom.f k s) (custom s) := by
  unfold parterreref04_Custom.f
  exact custom_loop s kws hs (by decide) (by decide) kws.length 0 rfl (Nat.zero_le _)
theorem custom_f (s : ByteArray) (hs : s.size ≤ 1000000) : ident_Custom.f s = some (custom s) := by
  have e : kws.any (fun x => (L s).toList == (L x).toList) = (kws.map (fun x => (L x).data.toList)).any (fun x => (L s).toList == x) := by
    rw [List.any_map]
    congr 1
    funext x
    simp only [Function.comp, ByteArray.toList_eq]
  unfold ident_Custom.f custom
  rw [lower_f s hs, e, kws_low, name_f]
  simp only [Option.bind_some, List.any_cons, List.any_nil]
  generalize (L s).toList = x
  repeat' first
    | rfl
    | (split <;> rename_i h1 <;> first | (subst h1; rfl) | skip)
  simp_all
end Go.Proofs.YtofdhdafabmhmaaGreatDoor.PureIdT
namespace Go.Proofs.YtofdhdafabmhmaaGreatDoor.Pure
open Go.RowKit Go.Proofs.YtofdhdafabmhmaaGreatDoorW.PrintWords Go.Proofs.YtofdhdafabmhmaaGreatDoorW.PrintMore Go.Proofs.YtofdhdafabmhmaaGreatDoor.Evs Go.Proofs.YtofdhdafabmhmaaGreatDoor.Opn Go.Proofs.YtofdhdafabmhmaaGreatDoor.PLt Go.Proofs.YtofdhdafabmhmaaGreatDoor.PureId Go.Proofs.YtofdhdafabmhmaaGreatDoor.PureIdT
end Go.Proofs.YtofdhdafabmhmaaGreatDoor.Pure
end
section
/- Numbers' texts (layer 2): by the program and by the document. Conditions: as each statement says. -/
namespace Go.Proofs.YtofdhdafabmhmaaGreatDoor.PureTx
open Go.RowKit Go.Proofs.YtofdhdafabmhmaaGreatDoorW.PrintWords Go.Proofs.YtofdhdafabmhmaaGreatDoorW.PrintMore Go.Proofs.YtofdhdafabmhmaaGreatDoor.Evs Go.Proofs.YtofdhdafabmhmaaGreatDoor.Opn Go.Proofs.YtofdhdafabmhmaaGreatDoor.PLt Go.Proofs.YtofdhdafabmhmaaGreatDoor.Giv
def dec (n : Int) : ByteArray := ⟨(Lib.decDigits n.toNat).toArray⟩
def fr (sc : Int) : Nat → Int → ByteArray
  | 0, _ => ⟨#[]⟩
  | j + 1, left => if left > 0 then dec (10 * left / sc) ++ fr sc j (10 * left % sc) else ⟨#[]⟩
def gone (sc : Int) : Nat → Int → Bool
  | 0, left => decide (left = 0)
  | j + 1, left => gone sc j (10 * left % sc)
theorem gone_zero (sc : Int) : ∀ j, gone sc j 0 = true
  | 0 => rfl
  | j + 1 => by
    show gone sc j (10 * 0 % sc) = true
    rw [Int.mul_zero, Int.zero_emod]
    exact gone_zero sc j
theorem gone_all64 : (List.range 64).all (fun n => gone 64 6 (n : Int)) = true := by decide +kernel
theorem gone_all1000 : (List.range 1000).all (fun n => gone 1000 6 (n : Int)) = true := by decide +kernel
def IsScale (sc : Int) : Prop := sc = 1 ∨ sc = 64 ∨ sc = 1000
theorem gone_of {sc : Int} (hs : IsScale sc) {left : Int} (h0 : 0 ≤ left) (h1 : left < sc) : gone sc 6 left = true := by
  obtain ⟨n, rfl⟩ := Int.eq_ofNat_of_zero_le h0
  rcases hs with rfl | rfl | rfl
  · obtain rfl : n = 0 := by omega
    exact gone_zero 1 6
  · exact List.all_eq_true.1 gone_all64 n (List.mem_range.2 (by omega))
  · exact List.all_eq_true.1 gone_all1000 n (List.mem_range.2 (by omega))
theorem nd_le : ∀ (k u : Nat), u < 10 ^ (k + 1) → Lib.nDigits u ≤ k + 1
  | 0, u, h => by
    rw [Lib.nDigits_small (by simpa using h)]
    exact Nat.le_refl _
  | k + 1, u, h => by
    by_cases h1 : u < 10
    · rw [Lib.nDigits_small h1]
      omega
    · rw [Lib.nDigits_big h1]
      have := nd_le k (u / 10) (by rw [Nat.pow_succ] at h; omega)
      omega
theorem dec_size (n : Int) (h0 : 0 ≤ n) (h1 : n ≤ 9223372036854775807) : (dec n).size ≤ 20 := by
  show (Lib.decDigits n.toNat).toArray.size ≤ 20
  rw [List.size_toArray, Lib.decDigits_length]
  exact nd_le 19 _ (by omega)
theorem dec_one (n : Int) (h0 : 0 ≤ n) (h1 : n ≤ 9) : dec n = ⟨#[UInt8.ofNat (48 + n.toNat)]⟩ := by
  unfold dec
  rw [Lib.decDigits_one (by omega)]
theorem ap_assoc (a b c : ByteArray) : a ++ b ++ c = a ++ (b ++ c) := ByteArray.append_assoc
theorem ap_nil (a : ByteArray) : a ++ (⟨#[]⟩ : ByteArray) = a := ByteArray.append_empty
theorem nil_ap (a : ByteArray) : (⟨#[]⟩ : ByteArray) ++ a = a := ByteArray.empty_append
theorem str_one (n : Int) (h0 : 0 ≤ n) : strOfNums [(wrap64 (48 + (Int.tmod n 10))) % 256] = ⟨#[UInt8.ofNat (48 + n.toNat % 10)]⟩ := by
  have e : ((wrap64 (48 + (Int.tmod n 10))) % 256).toNat = 48 + n.toNat % 10 := by
    rw [Int.tmod_eq_emod_of_nonneg h0, w64 (by omega) (by omega)]
    omega
  show (⟨#[UInt8.ofNat ((wrap64 (48 + (Int.tmod n 10))) % 256).toNat]⟩ : ByteArray) = _
  rw [e]
theorem whole_l0 : ∀ (m : Nat) (n : Int) (acc : ByteArray), n.toNat = m → 0 ≤ n → n ≤ 1000000000000000 → acc.size + m ≤ 2000000000000000 → Ev (fun k => parterreref02_Whole.l0 k n acc) (dec n ++ acc) := by
  intro m
  induction m using Nat.strongRecOn with
  | _ m ih =>
    intro n acc hm h0 h1 h2
    refine ev_step ?_
    simp only [parterreref02_Whole.l0]
    refine ev_bindc rfl ?_
    rw [str_one n h0, Int.tdiv_eq_ediv_of_nonneg h0, w64 (x := n / 10) (by omega) (by omega)]
    have hz : (⟨#[UInt8.ofNat (48 + n.toNat % 10)]⟩ : ByteArray).size = 1 := rfl
    refine ev_pos (by rw [hz]; omega) (ev_ite (fun h3 => ?_) (fun h3 => ?_))
    · refine ev_eq ?_
      rw [dec_one n h0 (by omega), show 48 + n.toNat % 10 = 48 + n.toNat by omega]
    · have hi := ih (n / 10).toNat (by omega) (n / 10) ((⟨#[UInt8.ofNat (48 + n.toNat % 10)]⟩ : ByteArray) ++ acc) rfl (by omega) (by omega) (by rw [ByteArray.size_append, hz]; omega)
      have e : dec n = dec (n / 10) ++ ⟨#[UInt8.ofNat (48 + n.toNat % 10)]⟩ := by
        unfold dec
        conv => lhs; rw [Lib.decDigits, dif_neg (show ¬ n.toNat < 10 by omega)]
        rw [show (n / 10).toNat = n.toNat / 10 by omega]
        apply ByteArray.ext
        simp
      rw [e, ap_assoc]
      exact hi
theorem whole_ev (n : Int) (h0 : 0 ≤ n) (h1 : n ≤ 1000000000000000) : Ev (fun k => parterreref02_Whole.f k n) (dec n) := by
  have h := whole_l0 n.toNat n ⟨#[]⟩ rfl h0 h1 (by show 0 + n.toNat ≤ _; omega)
  rw [ap_nil] at h
  exact h
theorem left_bd {sc left : Int} (hs : IsScale sc) (h0 : 0 ≤ left) (h1 : left < sc) : 0 ≤ 10 * left / sc ∧ 10 * left / sc ≤ 9 ∧ 0 ≤ 10 * left % sc ∧ 10 * left % sc < sc := by
  rcases hs with rfl | rfl | rfl <;> omega
theorem digit_size {n : Int} (h0 : 0 ≤ n) (h1 : n ≤ 9) : (dec n).size = 1 := by
  rw [dec_one n h0 h1]
  rfl
theorem rleft {sc : Int} (hs : IsScale sc) : ∀ (j : Nat) (left : Int) (acc : ByteArray), 0 ≤ left → left < sc → gone sc j left = true → acc.size + j ≤ 1000000 → Ev (fun k => parterreref02_Text.l0 k sc acc left) (acc ++ fr sc j left)
  | 0, left, acc, h0, h1, hg, hz => by
    have hl : left = 0 := of_decide_eq_true hg
    refine ev_step ?_
    simp only [parterreref02_Text.l0]
    refine ev_neg (by omega) (ev_eq ?_)
    show acc = acc ++ ⟨#[]⟩
    rw [ap_nil]
  | j + 1, left, acc, h0, h1, hg, hz => by
    have hb := left_bd hs h0 h1
    have hsc : 1 ≤ sc ∧ sc ≤ 1000 := by rcases hs with rfl | rfl | rfl <;> decide
    have hd := digit_size hb.1 hb.2.1
    refine ev_step ?_
    simp only [parterreref02_Text.l0]
    refine ev_ite (fun h2 => ev_neg (by omega) ?_) (fun h2 => ?_)
    · rw [w64 (x := 10 * left) (by omega) (by omega), Int.tdiv_eq_ediv_of_nonneg (by omega), Int.tmod_eq_emod_of_nonneg (by omega), w64 (x := 10 * left / sc) (by omega) (by omega)]
      refine ev_bind (whole_ev _ (by omega) (by omega)) (ev_pos (by omega) ?_)
      have hi := rleft hs j (10 * left % sc) (acc ++ dec (10 * left / sc)) hb.2.2.1 hb.2.2.2 hg (by rw [ByteArray.size_append]; omega)
      unfold fr
      rw [if_pos h2, ← ap_assoc]
      exact hi
    · refine ev_eq ?_
      unfold fr
      rw [if_neg h2, ap_nil]
/-- A length's text: its sign, its whole digits, those behind the point. -/
def tail (sc n : Int) : ByteArray := if n % sc > 0 then (⟨#[46]⟩ : ByteArray) ++ fr sc 6 (n % sc) else ⟨#[]⟩
def body (sc n : Int) : ByteArray := dec (n / sc) ++ tail sc n
def txt (sc n : Int) : ByteArray := if n < 0 then (⟨#[45]⟩ : ByteArray) ++ body sc (-n) else body sc n
theorem div_bd {sc n : Int} (hs : IsScale sc) (h0 : 0 ≤ n) (h1 : n ≤ 68719476736) : 0 ≤ n / sc ∧ n / sc ≤ 68719476736 ∧ 0 ≤ n % sc ∧ n % sc < sc := by
  rcases hs with rfl | rfl | rfl <;> omega
theorem rtext_j1 {sc : Int} (hs : IsScale sc) (n : Int) (h0 : 0 ≤ n) (h1 : n ≤ 68719476736) (acc : ByteArray) (hz : acc.size ≤ 1) : Ev (fun k => parterreref02_Text.j1 k n sc acc) (acc ++ body sc n) := by
  have hb := div_bd hs h0 h1
  have hsc : 1 ≤ sc ∧ sc ≤ 1000 := by rcases hs with rfl | rfl | rfl <;> decide
  have hd := dec_size (n / sc) hb.1 (by omega)
  have hg := gone_of hs hb.2.2.1 hb.2.2.2
  refine ev_step ?_
  simp only [parterreref02_Text.j1]
  refine ev_neg (by omega) ?_
  rw [Int.tdiv_eq_ediv_of_nonneg h0, Int.tmod_eq_emod_of_nonneg h0, w64 (x := n / sc) (by omega) (by omega)]
  unfold body tail
  refine ev_bind (whole_ev _ (by omega) (by omega)) (ev_pos (by omega) (ev_ite (fun h2 => ev_pos (by rw [ByteArray.size_append]; omega) ?_) (fun h2 => ?_)))
  · rw [if_pos h2, ← ap_assoc, ← ap_assoc]
    refine ev_step ?_
    simp only [parterreref02_Text.j2]
    exact rleft hs 6 _ _ hb.2.2.1 hb.2.2.2 hg (by rw [ByteArray.size_append, ByteArray.size_append]; show _ + 1 + 6 ≤ _; omega)
  · rw [if_neg h2, ap_nil]
    refine ev_step ?_
    simp only [parterreref02_Text.j2]
    have h := rleft hs 0 (n % sc) (acc ++ dec (n / sc)) hb.2.2.1 hb.2.2.2 (decide_eq_true (by omega)) (by rw [ByteArray.size_append]; omega)
    rw [show fr sc 0 (n % sc) = (⟨#[]⟩ : ByteArray) from rfl, ap_nil] at h
    exact h
def Is (n : Int) : Prop := -68719476736 ≤ n ∧ n ≤ 68719476736
instance (n : Int) : Decidable (Is n) := inferInstanceAs (Decidable (_ ∧ _))
instance (n : Int) : Decidable (IsScale n) := inferInstanceAs (Decidable (_ ∨ _ ∨ _))
theorem ris_f (n : Int) : parterreref01_Is.f n = some (decide (Is n)) := by
  unfold parterreref01_Is.f Is
  by_cases h : n ≥ -68719476736
  · rw [if_pos h]
    congr 1
    exact decide_eq_decide.2 ⟨fun k => ⟨h, k⟩, fun k => k.2⟩
  · rw [if_neg h]
    congr 1
    exact (decide_eq_false (fun k => h k.1)).symm
/-- The text, of any number and by any scale. -/
def Txt (n sc : Int) : ByteArray := if Is n ∧ IsScale sc then txt sc n else ⟨#[]⟩
theorem rtext_j0 {sc n : Int} (hs : IsScale sc) (hn : Is n) : Ev (fun k => parterreref02_Text.j0 k n sc false) (txt sc n) := by
  refine ev_step ?_
  simp only [parterreref02_Text.j0]
  unfold Is at hn
  unfold txt
  refine ev_neg (by decide) (ev_ite (fun h => ?_) (fun h => ?_))
  · rw [if_pos h, w64 (by omega) (by omega)]
    exact rtext_j1 hs (-n) (by omega) (by omega) _ (Nat.le_refl _)
  · rw [if_neg h]
    have := rtext_j1 hs n (by omega) (by omega) ⟨#[]⟩ (by decide)
    rw [nil_ap] at this
    exact this
theorem rtext_no (n sc : Int) : Ev (fun k => parterreref02_Text.j0 k n sc true) ⟨#[]⟩ := by
  refine ev_step ?_
  simp only [parterreref02_Text.j0]
  exact ev_pos trivial (ev_eq rfl)
theorem rText (n sc : Int) : Ev (fun k => parterreref02_Text.f k n sc) (Txt n sc) := by
  unfold parterreref02_Text.f Txt
  refine ev_bindc (ris_f n) (ev_ite (fun h => ?_) (fun h => ?_))
  · have hn := of_decide_eq_true h
    by_cases hs : IsScale sc
    · rw [if_pos ⟨hn, hs⟩]
      refine ev_ite (fun _ => rtext_j0 hs hn) (fun h1 => ev_ite (fun _ => rtext_j0 hs hn) (fun h2 => ?_))
      have : (sc != 1000) = false := by
        rcases hs with k | k | k
        · exact absurd k h1
        · exact absurd k h2
        · rw [k]
          rfl
      rw [this]
      exact rtext_j0 hs hn
    · rw [if_neg (fun k => hs k.2)]
      refine ev_neg (fun k => hs (Or.inl k)) (ev_neg (fun k => hs (Or.inr (Or.inl k))) ?_)
      have : (sc != 1000) = true := by simpa using (fun k => hs (Or.inr (Or.inr k)))
      rw [this]
      exact rtext_no n sc
  · rw [if_neg (fun k => h (decide_eq_true k.1))]
    exact rtext_no n sc
end Go.Proofs.YtofdhdafabmhmaaGreatDoor.PureTx
end
section
/- Lines and their texts (layer 7), by the program and by the document. Conditions: as each statement says. -/
namespace Go.Proofs.YtofdhdafabmhmaaGreatDoor.PureLi
open Go.RowKit Go.Proofs.YtofdhdafabmhmaaGreatDoorW.PrintWords Go.Proofs.YtofdhdafabmhmaaGreatDoorW.PrintMore Go.Proofs.YtofdhdafabmhmaaGreatDoor.Evs Go.Proofs.YtofdhdafabmhmaaGreatDoor.Opn Go.Proofs.YtofdhdafabmhmaaGreatDoor.PLt Go.Proofs.YtofdhdafabmhmaaGreatDoor.Giv Go.Proofs.YtofdhdafabmhmaaGreatDoor.PureId Go.Proofs.YtofdhdafabmhmaaGreatDoor.PureIdT Go.Proofs.YtofdhdafabmhmaaGreatDoor.PureTx

theorem ev_ite2 {α : Type} {c : Prop} [Decidable c] {f g : Nat → Option α} {a b : α} (h : c → Ev f a) (k : ¬ c → Ev g b) : Ev (fun n => if c then f n else g n) (if c then a else b) := by
  by_cases hc : c
  · simp only [if_pos hc]
    exact h hc
  · simp only [if_neg hc]
    exact k hc
theorem empty_of {s : ByteArray} (h : s.toList = ([] : List UInt8)) : s = ⟨#[]⟩ := by
  apply Go.WideShapes.bytes_inj
  rw [ByteArray.toList_eq] at h
  rw [h]
theorem custom_nil {s : ByteArray} (h : s.toList = ([] : List UInt8)) : custom s = false := by
  unfold custom isName
  rw [if_pos h]
  split <;> rfl
theorem custom_size {s : ByteArray} (h : custom s = true) : s.size ≤ 64 := by
  unfold custom isName at h
  split at h
  · cases h
  · split at h
    · cases h
    · split at h
      · rename_i h2
        omega
      · cases h
/-- May a line be? -/
def good (v0 v1 : Int) (nm : ByteArray) : Bool :=
  if v0 = 1 then (if v1 = 0 then (nm.toList == ([] : List UInt8)) else false) else if v0 = 2 then (if v1 = 0 then false else if v1 ≥ (-10000) then (if v1 ≤ 10000 then (if nm.toList = ([] : List UInt8) then true else custom nm) else false) else false)
  else if v0 = 3 then (if v1 = 0 then custom nm else false) else if v0 = 4 then (if v1 ≥ 1 then (if v1 ≤ 10000 then (if nm.toList = ([] : List UInt8) then true else custom nm) else false) else false) else false
theorem rgood (v0 v1 : Int) (nm : ByteArray) (hs : nm.size ≤ 1000000) : Ev (fun k => parterreref07_Good.f k v0 v1 nm) (good v0 v1 nm) := by
  simp only [parterreref07_Good.f, good]
  refine ev_bind (custom_ev nm hs) ?_
  exact ev_ite2 (fun _ => ev_ite2 (fun _ => ev_some) (fun _ => ev_some)) (fun _ => ev_ite2 (fun _ => ev_ite2 (fun _ => ev_some) (fun _ => ev_ite2 (fun _ => ev_ite2 (fun _ => ev_ite2 (fun _ => ev_some) (fun _ => ev_some)) (fun _ => ev_some)) (fun _ => ev_some)))
    (fun _ => ev_ite2 (fun _ => ev_ite2 (fun _ => ev_some) (fun _ => ev_some)) (fun _ => ev_ite2 (fun _ => ev_ite2 (fun _ => ev_ite2 (fun _ => ev_ite2 (fun _ => ev_some) (fun _ => ev_some)) (fun _ => ev_some)) (fun _ => ev_some)) (fun _ => ev_some))))
theorem good_j0 (v0 v1 : Int) (nm : ByteArray) (b : Bool) (hb : b = if nm.toList = ([] : List UInt8) then true else custom nm) : Ev (fun k => line_Good.j0 k b v0 v1 nm) (good v0 v1 nm) := by
  refine ev_step ?_
  simp only [line_Good.j0, good]
  refine ev_ite2 (fun h1 => ?_) (fun _ => ev_ite2 (fun _ => ev_ite2 (fun _ => ev_some) (fun _ => ev_ite2 (fun _ => ev_ite2 (fun _ => ev_eq hb) (fun _ => ev_some)) (fun _ => ev_some)))
    (fun _ => ev_ite2 (fun _ => ev_ite2 (fun _ => ?_) (fun _ => ev_some)) (fun _ => ev_ite2 (fun _ => ev_ite2 (fun _ => ev_ite2 (fun _ => ev_eq hb) (fun _ => ev_some)) (fun _ => ev_some)) (fun _ => ev_some))))
  · refine ev_bindc (rfl : line_auto.f = some (1, 0, (⟨#[]⟩ : ByteArray))) (ev_eq ?_)
    show (v0 == 1 && (v1 == 0 && (nm.toList == (⟨#[]⟩ : ByteArray).toList))) = _
    rw [h1, show (⟨#[]⟩ : ByteArray).toList = ([] : List UInt8) by rw [ByteArray.toList_eq]]
    by_cases h2 : v1 = 0
    · rw [if_pos h2, h2]
      simp
    · rw [if_neg h2, beq_false_of_ne h2]
      simp
  · by_cases h : nm.toList = ([] : List UInt8)
    · rw [custom_nil h]
      exact ev_pos h ev_some
    · refine ev_neg h (ev_eq ?_)
      rw [hb, if_neg h]
theorem lgood (v0 v1 : Int) (nm : ByteArray) (hs : nm.size ≤ 1000000) : Ev (fun k => line_Good.f k v0 v1 nm) (good v0 v1 nm) := by
  simp only [line_Good.f]
  exact ev_ite (fun h => good_j0 _ _ _ _ (by rw [if_pos h])) (fun h => ev_bindc (custom_f nm hs) (good_j0 _ _ _ _ (by rw [if_neg h])))
structure Good (v0 v1 : Int) (nm : ByteArray) : Prop where
  k : v0 = 1 ∨ v0 = 2 ∨ v0 = 3 ∨ v0 = 4
  n : -10000 ≤ v1 ∧ v1 ≤ 10000
  s : v0 = 4 → 1 ≤ v1
  z : nm.size ≤ 64
  c : nm.toList = ([] : List UInt8) ∨ custom nm = true
  a : v0 = 1 → v1 = 0 ∧ nm.toList = ([] : List UInt8)
  b : v0 = 2 → v1 ≠ 0
  d : v0 = 3 → v1 = 0 ∧ custom nm = true
theorem nil_size {s : ByteArray} (h : s.toList = ([] : List UInt8)) : s.size = 0 := by
  rw [empty_of h]
  rfl
theorem good_of {v0 v1 : Int} {nm : ByteArray} (h : good v0 v1 nm = true) : Good v0 v1 nm := by
  have named : ∀ {x : Bool}, (if nm.toList = ([] : List UInt8) then true else custom nm) = true → nm.toList = ([] : List UInt8) ∨ custom nm = true := fun {_} h => by
    by_cases e : nm.toList = ([] : List UInt8)
    · exact Or.inl e
    · rw [if_neg e] at h
      exact Or.inr h
  have sz : nm.toList = ([] : List UInt8) ∨ custom nm = true → nm.size ≤ 64 := fun h => by
    rcases h with h | h
    · rw [nil_size h]
      omega
    · exact custom_size h
  unfold good at h
  by_cases h1 : v0 = 1
  · rw [if_pos h1] at h
    by_cases h2 : v1 = 0
    · rw [if_pos h2] at h
      have e : nm.toList = ([] : List UInt8) := by simpa using h
      exact ⟨Or.inl h1, by omega, fun k => by omega, sz (Or.inl e), Or.inl e, fun _ => ⟨h2, e⟩, fun k => by omega, fun k => by omega⟩
    · rw [if_neg h2] at h
      cases h
  · rw [if_neg h1] at h
    by_cases h2 : v0 = 2
    · rw [if_pos h2] at h
      by_cases h3 : v1 = 0
      · rw [if_pos h3] at h
        cases h
      · rw [if_neg h3] at h
        by_cases h4 : v1 ≥ (-10000)
        · rw [if_pos h4] at h
          by_cases h5 : v1 ≤ 10000
          · rw [if_pos h5] at h
            have e := named (x := true) h
            exact ⟨Or.inr (Or.inl h2), by omega, fun k => by omega, sz e, e, fun k => by omega, fun _ => h3, fun k => by omega⟩
          · rw [if_neg h5] at h
            cases h
        · rw [if_neg h4] at h
          cases h
    · rw [if_neg h2] at h
      by_cases h3 : v0 = 3
      · rw [if_pos h3] at h
        by_cases h4 : v1 = 0
        · rw [if_pos h4] at h
          exact ⟨Or.inr (Or.inr (Or.inl h3)), by omega, fun k => by omega, sz (Or.inr h), Or.inr h, fun k => by omega, fun k => by omega, fun _ => ⟨h4, h⟩⟩
        · rw [if_neg h4] at h
          cases h
      · rw [if_neg h3] at h
        by_cases h4 : v0 = 4
        · rw [if_pos h4] at h
          by_cases h5 : v1 ≥ 1
          · rw [if_pos h5] at h
            by_cases h6 : v1 ≤ 10000
            · rw [if_pos h6] at h
              have e := named (x := true) h
              exact ⟨Or.inr (Or.inr (Or.inr h4)), by omega, fun _ => h5, sz e, e, fun k => by omega, fun k => by omega, fun k => by omega⟩
            · rw [if_neg h6] at h
              cases h
          · rw [if_neg h5] at h
            cases h
        · rw [if_neg h4] at h
          cases h

/-! ### Texts -/
theorem write_size {s r : ByteArray} (h : ident_Write.f s = some r) : r.size ≤ s.size * 8 := by
  unfold ident_Write.f at h
  obtain ⟨t, ht, h⟩ := Option.bind_eq_some_iff.1 h
  by_cases h1 : t = true
  · rw [if_pos h1] at h
    by_cases h2 : s.size ≤ 1000000
    · rw [if_pos h2] at h
      obtain ⟨l, hl, h⟩ := Option.bind_eq_some_iff.1 h
      have := ident_Write.cat_len s _ _ hl
      rw [← Option.some.inj h, size_mk]
      exact this
    · rw [if_neg h2] at h
      cases h
  · rw [if_neg h1] at h
    rw [← Option.some.inj h]
    exact Nat.zero_le _
def ito (n : Int) : ByteArray := ⟨(Lib.itoa n).toArray⟩
theorem ito_f {n : Int} (h : -10000 ≤ n ∧ n ≤ 10000) : strconv_Itoa.f n = some (ito n) := by
  unfold strconv_Itoa.f
  rw [if_pos (by omega), if_pos (by omega)]
  rfl
theorem body_one {n : Int} : body 1 n = dec n := by
  unfold body tail
  rw [Int.emod_one, if_neg (by decide), Int.ediv_one, ap_nil]
theorem ito_txt {n : Int} (h : -10000 ≤ n ∧ n ≤ 10000) : Txt n 1 = ito n := by
  unfold Txt
  rw [if_pos ⟨⟨by omega, by omega⟩, Or.inl rfl⟩]
  unfold txt
  rw [body_one, body_one]
  unfold ito Lib.itoa
  by_cases h0 : n < 0
  · rw [if_pos h0, if_pos h0]
    unfold dec
    rw [show n.natAbs = (-n).toNat by omega]
    apply Go.WideShapes.bytes_inj
    simp
  · rw [if_neg h0, if_neg h0]
    rfl
theorem ito_size {n : Int} (h : -10000 ≤ n ∧ n ≤ 10000) : (ito n).size ≤ 21 := by
  have e : ito n = if n < 0 then (⟨#[45]⟩ : ByteArray) ++ dec (-n) else dec n := by
    rw [← ito_txt h]
    unfold Txt
    rw [if_pos ⟨⟨by omega, by omega⟩, Or.inl rfl⟩]
    unfold txt
    rw [body_one, body_one]
  rw [e]
  by_cases h0 : n < 0
  · rw [if_pos h0, ByteArray.size_append]
    have := dec_size (-n) (by omega) (by omega)
    have : (⟨#[45]⟩ : ByteArray).size = 1 := rfl
    omega
  · rw [if_neg h0]
    have := dec_size n (by omega) (by omega)
    omega
/-- A line's text: its number, behind it its name. -/
def numd (v1 : Int) (w : ByteArray) : ByteArray := if w.toList = ([] : List UInt8) then ito v1 else ito v1 ++ ((⟨#[32]⟩ : ByteArray) ++ w)
def span (s : ByteArray) : ByteArray := (⟨#[115, 112, 97, 110, 32]⟩ : ByteArray) ++ s
def text (v0 v1 : Int) (w : ByteArray) : ByteArray :=
  if v0 = 1 then ⟨#[97, 117, 116, 111]⟩ else if v0 = 3 then w else if v0 = 2 then numd v1 w else (if w.toList = ([] : List UInt8) then span (ito v1) else if v1 = 1 then span w else span (numd v1 w))
theorem text_j1 {v0 v1 : Int} {nm x r : ByteArray} (hx : x.size ≤ 10000) (h1 : v0 = 1 → r = ⟨#[97, 117, 116, 111]⟩) (h4 : v0 = 4 → r = span x) (h5 : v0 ≠ 1 → v0 ≠ 4 → r = x) : Ev (fun k => line_Text.j1 k x v0 v1 nm) r := by
  refine ev_step ?_
  simp only [line_Text.j1]
  refine ev_ite (fun h => ev_eq (h1 h).symm) (fun h => ev_ite (fun k => ev_pos (by omega) (ev_eq (h4 k).symm)) (fun k => ev_eq (h5 h k).symm))
theorem ltext {v0 v1 : Int} {nm w : ByteArray} (hg : good v0 v1 nm = true) (hw : ident_Write.f nm = some w) : Ev (fun k => line_Text.f k v0 v1 nm) (text v0 v1 w) := by
  have G := good_of hg
  have z := G.z
  have hz := write_size hw
  have hi := ito_size G.n
  have e32 : (⟨#[32]⟩ : ByteArray).size = 1 := rfl
  have nz : (numd v1 w).size ≤ 10000 := by
    unfold numd
    split
    · omega
    · rw [ByteArray.size_append, ByteArray.size_append]
      omega
  have j0t : (v0 = 2 ∨ (v0 = 4 ∧ (v1 > 1 ∨ w.toList = ([] : List UInt8)))) → Ev (fun k => line_Text.j0 k w true v0 v1 nm) (text v0 v1 w) := fun hc => by
    have fin : Ev (fun k => line_Text.j1 k (numd v1 w) v0 v1 nm) (text v0 v1 w) := by
      refine text_j1 nz (fun h => by omega) (fun h => ?_) (fun h1 h2 => ?_)
      · unfold text
        rw [if_neg (by omega), if_neg (by omega), if_neg (by omega)]
        rcases hc with hc | ⟨_, hc | hc⟩
        · omega
        · by_cases e : w.toList = ([] : List UInt8)
          · rw [if_pos e]
            unfold numd
            rw [if_pos e]
          · rw [if_neg e, if_neg (by omega)]
        · rw [if_pos hc]
          unfold numd
          rw [if_pos hc]
      · unfold text
        rw [if_neg h1, if_neg (by omega), if_pos (by omega)]
    refine ev_step ?_
    simp only [line_Text.j0]
    refine ev_pos (by trivial) (ev_ite (fun e => ?_) (fun e => ?_))
    · refine ev_bindc (ito_f G.n) (ev_pos (by omega) ?_)
      have : ito v1 ++ w = numd v1 w := by
        unfold numd
        rw [if_pos e, empty_of e, ap_nil]
      rw [this]
      exact fin
    · refine ev_pos (by omega) (ev_bindc (ito_f G.n) (ev_pos (by rw [ByteArray.size_append]; omega) ?_))
      have : ito v1 ++ ((⟨#[32]⟩ : ByteArray) ++ w) = numd v1 w := by
        unfold numd
        rw [if_neg e]
      rw [this]
      exact fin
  have j0f : ¬ (v0 = 2 ∨ (v0 = 4 ∧ (v1 > 1 ∨ w.toList = ([] : List UInt8)))) → Ev (fun k => line_Text.j0 k w false v0 v1 nm) (text v0 v1 w) := fun hc => by
    refine ev_step ?_
    simp only [line_Text.j0]
    refine ev_neg (by decide) (text_j1 (by omega) (fun h => ?_) (fun h => ?_) (fun h1 h2 => ?_))
    · unfold text
      rw [if_pos h]
    · have h1 : ¬ v1 > 1 := fun k => hc (Or.inr ⟨h, Or.inl k⟩)
      have h2 : ¬ w.toList = ([] : List UInt8) := fun k => hc (Or.inr ⟨h, Or.inr k⟩)
      have := G.s h
      unfold text
      rw [if_neg (by omega), if_neg (by omega), if_neg (by omega), if_neg h2, if_pos (by omega)]
    · have := G.k
      unfold text
      rw [if_neg h1, if_pos (by omega)]
  simp only [line_Text.f]
  refine ev_bind (lgood _ _ _ (by omega)) (ev_pos hg (ev_bindc hw ?_))
  refine ev_ite (fun h => j0t (Or.inl h)) (fun h2 => ev_ite (fun h4 => ev_ite (fun h => j0t (Or.inr ⟨h4, Or.inl h⟩)) (fun h => ?_)) (fun h4 => j0f (fun k => ?_)))
  · by_cases e : w.toList = ([] : List UInt8)
    · rw [show (w.toList == ([] : List UInt8)) = true by rw [e]; rfl]
      exact j0t (Or.inr ⟨h4, Or.inr e⟩)
    · rw [beq_false_of_ne e]
      exact j0f (fun k => by rcases k with k | ⟨_, k | k⟩; exact h2 k; exact h k; exact e k)
  · rcases k with k | ⟨k, _⟩
    · exact h2 k
    · exact h4 k
theorem rtext {v0 v1 : Int} {nm w : ByteArray} (hg : good v0 v1 nm = true) (hw : ident_Write.f nm = some w) (hr : Ev (fun k => parterreref04_Write.f k nm) w) : Ev (fun k => parterreref07_Text.f k v0 v1 nm) (text v0 v1 w) := by
  have G := good_of hg
  have z := G.z
  have hz := write_size hw
  have hi := ito_size G.n
  have e32 : (⟨#[32]⟩ : ByteArray).size = 1 := rfl
  have e5 : (⟨#[115, 112, 97, 110, 32]⟩ : ByteArray).size = 5 := rfl
  have ht := rText v1 1
  rw [ito_txt G.n] at ht
  simp only [parterreref07_Text.f]
  refine ev_bind (rgood _ _ _ (by omega)) (ev_pos hg (ev_bind ht (ev_bind hr ?_)))
  unfold text
  refine ev_ite2 (fun _ => ev_some) (fun h1 => ev_ite2 (fun _ => ev_some) (fun h3 => ev_ite2 (fun h2 => ?_) (fun h2 => ev_ite2 (fun e => ?_) (fun e => ev_ite2 (fun h => ?_) (fun h => ?_)))))
  · unfold numd
    refine ev_ite2 (fun _ => ev_some) (fun _ => ev_pos (by omega) (ev_pos (by rw [ByteArray.size_append]; omega) (ev_eq (ap_assoc _ _ _))))
  · exact ev_pos (by omega) ev_some
  · exact ev_pos (by omega) ev_some
  · refine ev_pos (by omega) (ev_pos (by rw [ByteArray.size_append]; omega) (ev_pos (by rw [ByteArray.size_append, ByteArray.size_append]; omega) (ev_eq ?_)))
    unfold span numd
    rw [if_neg e, ap_assoc, ap_assoc]
theorem text_size {v0 v1 : Int} {nm w : ByteArray} (hg : good v0 v1 nm = true) (hw : ident_Write.f nm = some w) : (text v0 v1 w).size ≤ 1000 := by
  have G := good_of hg
  have z := G.z
  have hz := write_size hw
  have hi := ito_size G.n
  have e4 : (⟨#[97, 117, 116, 111]⟩ : ByteArray).size = 4 := rfl
  have e5 : (⟨#[115, 112, 97, 110, 32]⟩ : ByteArray).size = 5 := rfl
  have e32 : (⟨#[32]⟩ : ByteArray).size = 1 := rfl
  unfold text span numd
  repeat' split
  all_goals
    (try simp only [ByteArray.size_append])
    omega
theorem ltext_no {v0 v1 : Int} {nm : ByteArray} (hs : nm.size ≤ 1000000) (hg : good v0 v1 nm = false) : Ev (fun k => line_Text.f k v0 v1 nm) ⟨#[]⟩ := by
  simp only [line_Text.f]
  exact ev_bind (lgood _ _ _ hs) (ev_neg (by rw [hg]; decide) ev_some)
theorem rtext_no' {v0 v1 : Int} {nm : ByteArray} (hs : nm.size ≤ 1000000) (hg : good v0 v1 nm = false) : Ev (fun k => parterreref07_Text.f k v0 v1 nm) ⟨#[]⟩ := by
  simp only [parterreref07_Text.f]
  exact ev_bind (rgood _ _ _ hs) (ev_neg (by rw [hg]; decide) ev_some)
/-- Both texts of a line. -/
theorem texts (v0 v1 : Int) (nm : ByteArray) (hs : nm.size ≤ 1000) : ∃ r, Ev (fun k => line_Text.f k v0 v1 nm) r ∧ Ev (fun k => parterreref07_Text.f k v0 v1 nm) r ∧ r.size ≤ 1000 := by
  cases hg : good v0 v1 nm with
  | false => exact ⟨_, ltext_no (by omega) hg, rtext_no' (by omega) hg, Nat.zero_le _⟩
  | true =>
    obtain ⟨w, hw, hr⟩ := write_f nm (by omega)
    exact ⟨_, ltext hg hw, rtext hg hw hr, text_size hg hw⟩
def other (v0 v1 : Int) (nm : ByteArray) : Int × Int × ByteArray := if v0 = 3 then (v0, v1, nm) else (1, 0, ⟨#[]⟩)
theorem lother (v0 v1 : Int) (nm : ByteArray) : line_other.f v0 v1 nm = some (other v0 v1 nm) := by
  unfold line_other.f other
  split <;> rfl
theorem rother (v0 v1 : Int) (nm : ByteArray) : parterreref07_Other.f v0 v1 nm = some (other v0 v1 nm) := by
  unfold parterreref07_Other.f other
  split <;> rfl
theorem pairs (v0 v1 : Int) (nm : ByteArray) (u0 u1 : Int) (um : ByteArray) (hs : nm.size ≤ 1000) (hu : um.size ≤ 1000) :
    ∃ r, Ev (fun k => line_PairText.f k v0 v1 nm u0 u1 um) r ∧ Ev (fun k => parterreref07_PairText.f k v0 v1 nm u0 u1 um) r := by
  obtain ⟨a, ha, ha', az⟩ := texts v0 v1 nm hs
  obtain ⟨b, hb, hb', bz⟩ := texts u0 u1 um hu
  have e3 : (⟨#[32, 47, 32]⟩ : ByteArray).size = 3 := rfl
  have lno : Ev (fun k => line_PairText.j0 k true v0 v1 nm u0 u1 um) ⟨#[]⟩ := ev_step (by simp only [line_PairText.j0]; exact ev_pos (by trivial) ev_some)
  have rno : Ev (fun k => parterreref07_PairText.j0 k true v0 v1 nm u0 u1 um) ⟨#[]⟩ := ev_step (by simp only [parterreref07_PairText.j0]; exact ev_pos (by trivial) ev_some)
  simp only [line_PairText.f, parterreref07_PairText.f]
  cases hg : good v0 v1 nm with
  | false => exact ⟨_, ev_bind (lgood _ _ _ (by omega)) (ev_neg (by rw [hg]; decide) lno), ev_bind (rgood _ _ _ (by omega)) (ev_neg (by rw [hg]; decide) rno)⟩
  | true =>
    cases hh : good u0 u1 um with
    | false =>
      refine ⟨(⟨#[]⟩ : ByteArray), ev_bind (lgood _ _ _ (by omega)) (ev_pos hg (ev_bind (lgood _ _ _ (by omega)) ?_)), ev_bind (rgood _ _ _ (by omega)) (ev_pos hg (ev_bind (rgood _ _ _ (by omega)) ?_))⟩
      · rw [hh]
        exact lno
      · rw [hh]
        exact rno
    | true =>
      have key : ∃ r, Ev (fun k => line_PairText.j0 k false v0 v1 nm u0 u1 um) r ∧ Ev (fun k => parterreref07_PairText.j0 k false v0 v1 nm u0 u1 um) r := by
        by_cases e : (u0 == (other v0 v1 nm).1 && (u1 == (other v0 v1 nm).2.1 && (um.toList == (other v0 v1 nm).2.2.toList))) = true
        · refine ⟨a, ev_step ?_, ev_step ?_⟩
          · simp only [line_PairText.j0]
            exact ev_neg (by decide) (ev_bindc (lother _ _ _) (ev_pos e (ev_bind ha ev_some)))
          · simp only [parterreref07_PairText.j0]
            exact ev_neg (by decide) (ev_bindc (rother _ _ _) (ev_pos e (ev_bind ha' ev_some)))
        · refine ⟨(a ++ (⟨#[32, 47, 32]⟩ : ByteArray)) ++ b, ev_step ?_, ev_step ?_⟩
          · simp only [line_PairText.j0]
            exact ev_neg (by decide) (ev_bindc (lother _ _ _) (ev_neg e (ev_bind ha (ev_pos (by omega) (ev_bind hb (ev_pos (by rw [ByteArray.size_append]; omega) ev_some))))))
          · simp only [parterreref07_PairText.j0]
            exact ev_neg (by decide) (ev_bindc (rother _ _ _) (ev_neg e (ev_bind ha' (ev_pos (by omega) (ev_bind hb' (ev_pos (by rw [ByteArray.size_append]; omega) ev_some))))))
      obtain ⟨r, h1, h2⟩ := key
      refine ⟨r, ev_bind (lgood _ _ _ (by omega)) (ev_pos hg (ev_bind (lgood _ _ _ (by omega)) ?_)), ev_bind (rgood _ _ _ (by omega)) (ev_pos hg (ev_bind (rgood _ _ _ (by omega)) ?_))⟩
      · rw [hh]
        exact h1
      · rw [hh]
        exact h2
end Go.Proofs.YtofdhdafabmhmaaGreatDoor.PureLi
end
section
/- LineTells, as a statement on numbers and bytes. Conditions: none beyond the arguments' own kinds. -/
namespace Go.Proofs.YtofdhdafabmhmaaGreatDoor.Pure
open Go.RowKit Go.Proofs.YtofdhdafabmhmaaGreatDoorW.PrintWords Go.Proofs.YtofdhdafabmhmaaGreatDoorW.PrintMore Go.Proofs.YtofdhdafabmhmaaGreatDoor.Evs Go.Proofs.YtofdhdafabmhmaaGreatDoor.Opn Go.Proofs.YtofdhdafabmhmaaGreatDoor.PLt Go.Proofs.YtofdhdafabmhmaaGreatDoor.Giv Go.Proofs.YtofdhdafabmhmaaGreatDoor.PureLi
theorem line_lives : Ev (fun k => parterrelaw07_lives.f k) true := Ev.of (fun k => parterrelaw07_lives.mono k) (k := 100) (by decide +kernel)
theorem LineTells : parterrelaw07_LineTells.Pure := by
  intro v0 v1 nm u0 u1 um g1 g2
  refine Ev.rounds ?_
  have jT : Ev (fun k => parterrelaw07_LineTells.j0 k true v0 v1 nm u0 u1 um) true := ev_step (by simp only [parterrelaw07_LineTells.j0]; exact ev_pos (by trivial) (ev_bind_some line_lives))
  simp only [parterrelaw07_LineTells.f]
  refine ev_ite (fun _ => jT) (fun h1 => ?_)
  by_cases h2 : (um.size : Int) > 300
  · rw [decide_eq_true h2]
    exact jT
  · rw [decide_eq_false h2]
    obtain ⟨a, ha, ha', _⟩ := texts v0 v1 nm (by omega)
    obtain ⟨b, hb, hb'⟩ := pairs v0 v1 nm u0 u1 um (by omega) (by omega)
    refine ev_step ?_
    simp only [parterrelaw07_LineTells.j0]
    exact ev_neg (by decide) (ev_bind (lgood _ _ _ (by omega)) (ev_bind (rgood _ _ _ (by omega)) (ev_pos (by simp) (ev_bind ha (ev_bind ha' (ev_pos rfl (ev_bind hb (ev_bind hb' (ev_pos rfl (ev_bind_some line_lives))))))))))
end Go.Proofs.YtofdhdafabmhmaaGreatDoor.Pure
end
section
/- The statement LineTells: whatever the arguments are, the law answers true, and they read behind the call as they read before. Conditions: none. -/
namespace Go.Proofs.YtofdhdafabmhmaaGreatDoor.lineTells
open Go.ChangeShapes Go.WideShapes Go.ChangeAt Go.RowKit
open Go.ChangeMaps (open_string shut_string)
open Go.Proofs.YtofdhdafabmhmaaGreatDoor.Opn Go.Proofs.YtofdhdafabmhmaaGreatDoor.PLt
open Go.Proofs.YtofdhdafabmhmaaGreatDoorW.PrintWords
theorem own : ownKnob Tryz.prog.godebug = none := by kernel_rfl
theorem laidOut : laidOutB Tryz.prog = true := by kernel_rfl
set_option maxRecDepth 100000 in
theorem lifted (os : Os) (started : os.Started) (H : Type) (enc : TypeId × Value → H) :
    ReturnsInHanded {} Tryz.checked os 4 .any (fun w args => (Rows.lineTellsSpec.pre enc Tryz.prog Tryz.f4 [] false w args ∧ laidMetH Tryz.prog Dor.laid w) ∧ sizedMet enc Tryz.prog Tryz.f4 (OpenSpec.ofChange Rows.lineTellsSpec) false w args) (Rows.lineTellsSpec.post enc Tryz.prog Tryz.f4 false true false false) := by
  refine returnsInHanded_of_change_and (C := Tryz.checked) (X := fun w _ => laidMetH Tryz.prog Dor.laid w) (fun _ _ _ hh h => h.of_heap hh) own started (by kernel_rfl) Tryz.func4
    (ChangeSpec.witness_shaped (enc := enc) (C := Tryz.checked) (os := os) (X := fun w _ => laidMetH Tryz.prog Dor.laid w) false (World.doorLaid Tryz.prog 1000 os) #[.agg #[.int .i64 0, .int .i64 0, .string ByteArray.empty], .agg #[.int .i64 0, .int .i64 0, .string ByteArray.empty]] 8 rfl (World.shaped_of_RefB (by kernel_rfl) (by kernel_rfl)) (by kernel_rfl) (by kernel_rfl) (by kernel_rfl) (Dor.met os _)) ?_
  intro W base args ds gs before hval0 hW hcnd hsz0 hL _
  have hsz : (DataW.weightsEach Tryz.prog (Tryz.f4.params.toList ++ Rows.lineTellsSpec.plain.varTypes Tryz.prog) (ds ++ gs)).all (· ≤ reachBytes) = true := hsz0
  have hval : ∀ (j : Nat) t v, Tryz.f4.params[j]? = some t → args[j]? = some v → Value.okWide Tryz.prog W .any base t v := hval0
  have hW' := hW
  obtain ⟨p, q, hA0, hV, rfl, hfz, hnd⟩ := hW
  have hA : DataW.TrodAll enc Tryz.prog W 0 (fun _ => true) true Tryz.f4.params.toList args.toList ds p := hA0
  rw [Tryz.params4] at hA hval hsz
  obtain ⟨v0, vs0, d0, ds0, p0, q0, hargs, rfl, rfl, h0, r0⟩ := trodAll_cons hA
  obtain ⟨v1, vs1, d1, ds1, p1, q1, rfl, rfl, rfl, h1, r1⟩ := trodAll_cons r0
  obtain ⟨rfl, rfl, rfl⟩ := trodAll_nil r1
  obtain rfl : args = #[v0, v1] := by cases args; simp_all
  obtain ⟨rfl, rfl⟩ := trodVars_none hV
  obtain ⟨cs0, rfl, _⟩ := okWide_struct Tryz.underlying32 (hval 0 32 v0 rfl rfl)
  have k0 := h0
  have lt0 : ∀ x ∈ p0, x.block < W.heap.size := by obtain ⟨m, hm⟩ := k0; exact DataW.trod_lt m _ _ _ hm
  obtain ⟨x0, hK0, hg0⟩ := arg_agg o32 h0 (weighs hsz (j := 0) (t := 32) rfl rfl)
  obtain rfl := array_of (k32_open hK0)
  obtain ⟨cs1, rfl, _⟩ := okWide_struct Tryz.underlying32 (hval 1 32 v1 rfl rfl)
  have k1 := h1
  have lt1 : ∀ x ∈ p1, x.block < W.heap.size := by obtain ⟨m, hm⟩ := k1; exact DataW.trod_lt m _ _ _ hm
  obtain ⟨x1, hK1, hg1⟩ := arg_agg o32 h1 (weighs hsz (j := 1) (t := 32) rfl rfl)
  obtain rfl := array_of (k32_open hK1)
  clear hA0 hval0 hsz0 hsz
  obtain ⟨k, hk⟩ := Pure.LineTells x0.f0 x0.f1 x0.f2 x1.f0 x1.f1 x1.f2 hg0 hg1
  refine (PLt.parterrelaw07_LineTells.calls k x0.f0 x0.f1 x0.f2 x1.f0 x1.f1 x1.f2 true W  hk (Dor.tab_of hL)).mono fun e W' ⟨he, bel0⟩ => ?_
  have bel : Below W.heap.size W W' := bel0
  subst he
  exact ⟨_, rfl, _, _, _, [], _, [], hW', trodAll_mk1 (shut_bool Tryz.underlying4 _), (trodAll_cons_mk (Below.trod laidOut (by kernel_rfl) (of_decide_eq_true (by kernel_rfl)) k0 bel lt0) (trodAll_cons_mk (Below.trod laidOut (by kernel_rfl) (of_decide_eq_true (by kernel_rfl)) k1 bel lt1) trodAll_mk0)), rfl, bel.frame _, fun h => by cases h⟩
theorem over : Rows.lineTellsRow.holds Tryz.pinned (OpenSpec.ofChange Rows.lineTellsSpec) :=
  OpenClaim.holds_of_wide 4 Tryz.f4 rfl rfl rfl rfl rfl rfl rfl ⟨rfl, rfl, rfl, rfl, rfl⟩ rfl rfl rfl rfl rfl (by kernel_rfl) Tryz.func4 (by kernel_rfl)
    (of_decide_eq_true (by kernel_rfl)) (by unfold Func.isWrapper; first | (rw [if_pos (by decide +kernel)]; kernel_rfl) | (rw [if_neg (by decide +kernel)]; exact ⟨rfl, rfl⟩))
    (fun os started H enc _ => lifted os started H enc)
theorem card_holds : Rows.LineTellsCardSaid :=
  Claim7.holds_tied_plain_at .later [] [.data, .data, .data] true (true, "ed6c712cf89fe9831285ffcf1b18c30bce0a72f15a9951867df5d8622f83f5d9") true
    over (fun _ h => by cases h) (by kernel_rfl) (fun _ h => by cases h) lineTells_row_tie rfl ⟨rfl, rfl⟩ (by kernel_rfl) rfl
    (fun f fn hf hfn => by
      obtain rfl : f = 4 := Option.some.inj ((show Tryz.prog.funcNamed "parterre/parterrelaw07.LineTells" = some 4 by kernel_rfl).symm.trans hf) |>.symm
      obtain rfl : fn = Tryz.f4 := (Option.some.inj (Tryz.func4.symm.trans hfn)).symm
      exact ⟨by kernel_rfl, fun j t ht => by
        rw [Tryz.params4] at ht
        have hm : t ∈ [32, 32] := by simpa using Array.mem_of_getElem? ht
        have hall : ([32, 32].all fun u => !Tryz.prog.wantsStandIn u) = true := by kernel_rfl
        exact (show Tryz.prog.wantsStandIn t = false by simpa using List.all_eq_true.1 hall t hm)⟩)
    (by kernel_rfl)
#print axioms card_holds
end Go.Proofs.YtofdhdafabmhmaaGreatDoor.lineTells
namespace Go.Proofs.YtofdhdafabmhmaaGreatDoor
/-- The card, under a short name, for the claim. -/
theorem lineTells_card : Rows.LineTellsCardSaid := lineTells.card_holds
end Go.Proofs.YtofdhdafabmhmaaGreatDoor
end
