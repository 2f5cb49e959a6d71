/- AreaTellsCardSaid, part 9 of 15: contracts of the program's functions, the words that they use, and the plain laws on what they compute. Conditions: none beyond what the statements say. -/
import Derived.Test.YtofdhdafabmhmaaGreatDoorKAt1
import Derived.Test.YtofdhdafabmhmaaGreatDoorKAt2
import Derived.Test.YtofdhdafabmhmaaGreatDoorKAt3
import Derived.Test.YtofdhdafabmhmaaGreatDoorKAt7
set_option linter.unusedVariables false
set_option linter.unusedSimpArgs false
section
namespace Go.Proofs.YtofdhdafabmhmaaGreatDoor.PAr
open Go.RowKit Go.Proofs.YtofdhdafabmhmaaGreatDoorW.PrintWords Go.Proofs.YtofdhdafabmhmaaGreatDoorW.PrintLast Go.Proofs.YtofdhdafabmhmaaGreatDoorW.PrintMore
attribute [local go_sem] max2_int min2_int max_two min_two max_three min_three max_four min_four
open Go.Proofs.YtofdhdafabmhmaaGreatDoor.Opn Go.Proofs.YtofdhdafabmhmaaGreatDoor.Giv

attribute [local go_sem high] eqA28
/-! ### parterrelaw08_words: function 23 -/
def parterrelaw08_words.f (k : Nat) (a0 : ByteArray) : Option ((List (S62))) := if (a0.size : Int) ≤ 140737488355328 then ((token_Tokens.f k ((bytesOf a0 : List Int))).bind fun bt227 => (some bt227.1)) else (none)
theorem parterrelaw08_words.mono : ∀ a0 k, LeO (parterrelaw08_words.f k a0) (parterrelaw08_words.f (k + 1) a0) := by
 intro a0 k
 unfold parterrelaw08_words.f
 repeat' first
   | (with_reducible exact token_Tokens.mono _ _)
   | (with_reducible exact LeO.refl _)
   | (with_reducible exact LeO.none _)
   | (with_reducible refine LeO.ite ?_ ?_)
   | (with_reducible refine LeO.bind ?_ (fun _ => ?_))
set_option maxHeartbeats 8000000 in
set_option maxRecDepth 100000 in
theorem parterrelaw08_words.calls (k : Nat) (a0 : ByteArray) (r : List (S62)) (w : World) (h : parterrelaw08_words.f k a0 = some r) :
  Calls Tryz.prog 23 #[.string a0] w fun e w' => ∃ v0_ : Value, e = .returned (v0_) ∧ Kd.R k62 62 w' w.heap.size (fun _ => True) v0_ r ∧ Below w.heap.size w w' := by
 have HB := Aside0.mk (Below.refl w.heap.size w)
 have H : (if (a0.size : Int) ≤ 140737488355328 then ((token_Tokens.f k ((bytesOf a0 : List Int))).bind fun bt227 => (some bt227.1)) else (none)) = some r := h
 clear h
 by_cases c2 : (a0.size : Int) ≤ 140737488355328
 ·rw [if_pos c2] at H
  have c2b0 := eq_true c2
  have c2b1 : decide ((a0.size : Int) ≤ 140737488355328) = true := decide_eq_true c2
  clear c2
  obtain ⟨y224, hy224⟩ : ∃ y_ : List Int, y_ = ((bytesOf a0 : List Int)) := ⟨_, rfl⟩
  replace H : ((token_Tokens.f k y224).bind fun bt227 => (some bt227.1)) = some r := by first | (rw [hy224]; with_reducible exact H) | (have H2_ := (Option.bind_some _ _).symm.trans H; rw [hy224]; with_reducible exact H2_) | (have H2_ := (Option.bind_some _ _).symm.trans H; with_reducible exact H2_) | with_reducible exact H | (rw [hy224]; exact H) | exact H
  have Ny224 := Aside0.mk hy224
  clear hy224
  replace H := Option.bind_eq_some_iff.mp H
  obtain ⟨⟨t227, t228, t229⟩, A30, H⟩ := H
  try dsimp only at H
  have A3 := Aside0.mk A30
  clear A30
  obtain rfl := Option.some.inj H
  go_enter Tryz.func23, Tryz.ntmps23
  go_wp2_with (first | ((with_reducible refine gate_dst (N := 8) rfl ?_); refine Kd.Z_bytes _ 5 9 67 ?hg (N := 8) ?hd (x := .tmp 7) a0 ?ho ?hx Tryz.underlying9 Tryz.underlying67 Tryz.underlying5 ?hm (Below.refl _ _) (Nat.le_refl _) ?_; (case hd => rfl); (case hg => rfl); (case ho => rfl); (case hx => first | rfl | (go_simp; done)); (case hm => have h_ : (a0.size : Int) ≤ 140737488355328 := of_decide_eq_true (by first | (with_reducible assumption) | assumption); omega); intro v225 w4 ho5 hb hg_ hnew_; clear hg_ hnew_; (first | rw [← Ny224.out] at ho5 | (simp only [Int.reduceToNat] at ho5; rw [← Ny224.out] at ho5)); have n0_ := Aside0.mk (Kd.Z_lower ho5 (below_size bel_)); have n1_ := Aside0.mk (below_step bel_ hb); clear HB; have HO226 := n0_; have HB := n1_; clear n0_ n1_; clear hb ho5; obtain ⟨Ao6, co6, eo6⟩ := Kd.Z_slice HO226.out; subst eo6) | ((with_reducible refine gate_callee (f := 48) rfl ?_); refine goesL_ (some 9) rfl rfl Tryz.func48 (by kernel_rfl) rfl #[.slice Ao6 y224.length co6] rfl goa_ ?_; (with_reducible refine (token_Tokens.calls k _ _ y224 t227 t228 t229 _ ?side1 ?side2 A3.out).mono ?_); (case side1 => repeat (first | exact (Kd.Z_reads' HO226.out).2.2 | (with_reducible refine Kd.C_alloc ?_ _) | (with_reducible refine Kd.C_drewN ?_ _) | (with_reducible refine Kd.C_drew ?_))); (case side2 => exact (Kd.Z_reads' HO226.out).2.1); rintro e w7 ⟨v230, rfl, ho0, hb⟩; refine ⟨_, rfl, ?_⟩; have n0_ := Aside0.mk (Kd.Z_below (by (with_reducible repeat (first | apply Kd.Z_alloc | apply Kd.Z_drewN | apply Kd.Z_drew)); exact HO226.out) hb); have n1_ := Aside0.mk (Kd.R_lower ho0 (below_size bel_)); have n2_ := Aside0.mk (below_step bel_ hb); clear HO226; clear HB; have HO226 := n0_; have HO231 := n1_; have HB := n2_; clear n0_ n1_ n2_; (try clear hb); (try clear hb2); (try clear hk); (try clear hi); (try clear ho0)))
  go_ret
  exact ⟨_, rsl_, by (with_reducible repeat (first | apply Kd.R_alloc | apply Kd.R_drewN | apply Kd.R_drew)); exact HO231.out, bel_⟩
 ·rw [if_neg c2] at H
  exact absurd H (by simp)

/-! ### parterrelaw08_lives: function 6 -/
def parterrelaw08_lives.f (k : Nat)  : Option (Bool) := (parterrelaw08_words.f k (⟨#[34, 97, 32, 97, 32, 46, 34, 32, 34, 98, 32, 46, 32, 46, 46, 34]⟩ : ByteArray)).bind fun t232 => ((area_Read.f k t232 0).bind fun bt235 => ((parterrelaw08_words.f k (⟨#[34, 97, 32, 98, 34, 32, 34, 98, 32, 97, 34]⟩ : ByteArray)).bind fun t240 => ((area_Read.f k t240 0).bind fun bt243 => ((area_Rects.f k bt235.1).bind fun t248 => (if bt235.2.2 = 0 then (if bt235.2.1 = 2 then (if (t248.length : Int) = 2 then (if 0 < (t248.length : Int) then (if ((((rd_T28 t248 0).f0).toList) == ([97] : List UInt8) && (((rd_T28 t248 0).f1) == 0 && (((rd_T28 t248 0).f2) == 0 && (((rd_T28 t248 0).f3) == 1 && (((rd_T28 t248 0).f4) == 2))))) = true then (if 1 < (t248.length : Int) then (if ((((rd_T28 t248 1).f0).toList) == ([98] : List UInt8) && (((rd_T28 t248 1).f1) == 1 && (((rd_T28 t248 1).f2) == 0 && (((rd_T28 t248 1).f3) == 1 && (((rd_T28 t248 1).f4) == 1))))) = true then (some (bt243.2.2 == 50)) else (none)) else (none)) else (none)) else (none)) else (none)) else (none)) else (none))))))
theorem parterrelaw08_lives.mono : ∀ k, LeO (parterrelaw08_lives.f k ) (parterrelaw08_lives.f (k + 1) ) := by
 intro  k
 unfold parterrelaw08_lives.f
 repeat' first
   | (with_reducible exact area_Read.mono _ _ _)
   | (with_reducible exact area_Rects.mono _ _)
   | (with_reducible exact parterrelaw08_words.mono _ _)
   | (with_reducible exact LeO.refl _)
   | (with_reducible exact LeO.none _)
   | (with_reducible refine LeO.ite ?_ ?_)
   | (with_reducible refine LeO.bind ?_ (fun _ => ?_))
set_option maxHeartbeats 8000000 in
set_option maxRecDepth 100000 in
theorem parterrelaw08_lives.calls (k : Nat)  (r : Bool) (w : World) (h : parterrelaw08_lives.f k  = some r) :
  Calls Tryz.prog 6 #[] w fun e w' => e = .returned (.bool r) ∧ Below w.heap.size w w' := by
 have hu28 := Tryz.underlying28
 have HB := Aside0.mk (Below.refl w.heap.size w)
 have H : ((parterrelaw08_words.f k (⟨#[34, 97, 32, 97, 32, 46, 34, 32, 34, 98, 32, 46, 32, 46, 46, 34]⟩ : ByteArray)).bind fun t232 => ((area_Read.f k t232 0).bind fun bt235 => ((parterrelaw08_words.f k (⟨#[34, 97, 32, 98, 34, 32, 34, 98, 32, 97, 34]⟩ : ByteArray)).bind fun t240 => ((area_Read.f k t240 0).bind fun bt243 => ((area_Rects.f k bt235.1).bind fun t248 => (if bt235.2.2 = 0 then (if bt235.2.1 = 2 then (if (t248.length : Int) = 2 then (if 0 < (t248.length : Int) then (if ((((rd_T28 t248 0).f0).toList) == ([97] : List UInt8) && (((rd_T28 t248 0).f1) == 0 && (((rd_T28 t248 0).f2) == 0 && (((rd_T28 t248 0).f3) == 1 && (((rd_T28 t248 0).f4) == 2))))) = true then (if 1 < (t248.length : Int) then (if ((((rd_T28 t248 1).f0).toList) == ([98] : List UInt8) && (((rd_T28 t248 1).f1) == 1 && (((rd_T28 t248 1).f2) == 0 && (((rd_T28 t248 1).f3) == 1 && (((rd_T28 t248 1).f4) == 1))))) = true then (some (bt243.2.2 == 50)) else (none)) else (none)) else (none)) else (none)) else (none)) else (none)) else (none))))))) = some r := h
 clear h
 replace H := Option.bind_eq_some_iff.mp H
 obtain ⟨t232, A10, H⟩ := H
 try dsimp only at H
 have A1 := Aside0.mk A10
 clear A10
 replace H := Option.bind_eq_some_iff.mp H
 obtain ⟨⟨t235, t236, t237⟩, A20, H⟩ := H
 try dsimp only at H
 have A2 := Aside0.mk A20
 clear A20
 replace H := Option.bind_eq_some_iff.mp H
 obtain ⟨t240, A30, H⟩ := H
 try dsimp only at H
 have A3 := Aside0.mk A30
 clear A30
 replace H := Option.bind_eq_some_iff.mp H
 obtain ⟨⟨t243, t244, t245⟩, A40, H⟩ := H
 try dsimp only at H
 have A4 := Aside0.mk A40
 clear A40
 replace H := Option.bind_eq_some_iff.mp H
 obtain ⟨t248, A50, H⟩ := H
 try dsimp only at H
 have A5 := Aside0.mk A50
 clear A50
 by_cases c6 : t237 = 0
 ·rw [if_pos c6] at H
  have c6b0 : (t237 == 0) = true := beq_iff_eq.mpr c6
  have c6b1 : (t237 != 0) = false := bne_eq_false_iff_eq.mpr c6
  clear c6
  by_cases c7 : t236 = 2
  ·rw [if_pos c7] at H
   have c7b0 : (t236 == 2) = true := beq_iff_eq.mpr c7
   have c7b1 : (t236 != 2) = false := bne_eq_false_iff_eq.mpr c7
   clear c7
   by_cases c8 : (t248.length : Int) = 2
   ·rw [if_pos c8] at H
    have c8b0 : ((t248.length : Int) == 2) = true := beq_iff_eq.mpr c8
    have c8b1 : ((t248.length : Int) != 2) = false := bne_eq_false_iff_eq.mpr c8
    clear c8
    by_cases c9 : 0 < (t248.length : Int)
    ·rw [if_pos c9] at H
     have c9b0 : decide (0 < (t248.length : Int)) = true := decide_eq_true c9
     have c9b1 : decide (0 < t248.length) = true := decide_eq_true (by omega)
     clear c9
     by_cases c10 : ((((rd_T28 t248 0).f0).toList) == ([97] : List UInt8) && (((rd_T28 t248 0).f1) == 0 && (((rd_T28 t248 0).f2) == 0 && (((rd_T28 t248 0).f3) == 1 && (((rd_T28 t248 0).f4) == 2))))) = true
     ·rw [if_pos c10] at H
      have c10b0 : ((((rd_T28 t248 0).f0).toList) == ([97] : List UInt8) && (((rd_T28 t248 0).f1) == 0 && (((rd_T28 t248 0).f2) == 0 && (((rd_T28 t248 0).f3) == 1 && (((rd_T28 t248 0).f4) == 2))))) = true := c10
      (try (have c10b1 : decide ((((rd_T28 t248 0).f0).toList) = ([97] : List UInt8) && (((rd_T28 t248 0).f1) == 0 && (((rd_T28 t248 0).f2) == 0 && (((rd_T28 t248 0).f3) == 1 && (((rd_T28 t248 0).f4) == 2))))) = true := by simpa using c10))
      (try (have c10b2 : ((((rd_T28 t248 0).f0).toList) == ([97] : List UInt8) && (((rd_T28 t248 0).f1) == 0 && (((rd_T28 t248 0).f2) == 0 && (((rd_T28 t248 0).f3) == 1 && (((rd_T28 t248 0).f4) == 2))))) = true := by simpa using c10))
      clear c10
      by_cases c11 : 1 < (t248.length : Int)
      ·rw [if_pos c11] at H
       have c11b0 : decide (1 < (t248.length : Int)) = true := decide_eq_true c11
       have c11b1 : decide (1 < t248.length) = true := decide_eq_true (by omega)
       clear c11
       by_cases c12 : ((((rd_T28 t248 1).f0).toList) == ([98] : List UInt8) && (((rd_T28 t248 1).f1) == 1 && (((rd_T28 t248 1).f2) == 0 && (((rd_T28 t248 1).f3) == 1 && (((rd_T28 t248 1).f4) == 1))))) = true
       ·rw [if_pos c12] at H
        have c12b0 : ((((rd_T28 t248 1).f0).toList) == ([98] : List UInt8) && (((rd_T28 t248 1).f1) == 1 && (((rd_T28 t248 1).f2) == 0 && (((rd_T28 t248 1).f3) == 1 && (((rd_T28 t248 1).f4) == 1))))) = true := c12
        (try (have c12b1 : decide ((((rd_T28 t248 1).f0).toList) = ([98] : List UInt8) && (((rd_T28 t248 1).f1) == 1 && (((rd_T28 t248 1).f2) == 0 && (((rd_T28 t248 1).f3) == 1 && (((rd_T28 t248 1).f4) == 1))))) = true := by simpa using c12))
        (try (have c12b2 : ((((rd_T28 t248 1).f0).toList) == ([98] : List UInt8) && (((rd_T28 t248 1).f1) == 1 && (((rd_T28 t248 1).f2) == 0 && (((rd_T28 t248 1).f3) == 1 && (((rd_T28 t248 1).f4) == 1))))) = true := by simpa using c12))
        clear c12
        obtain rfl := Option.some.inj H
        go_enter Tryz.func6, Tryz.ntmps6
        go_wp2_with (first | ((with_reducible refine gate_callee (f := 23) rfl ?_); refine goesL_ (some 9) rfl rfl Tryz.func23 (by kernel_rfl) rfl #[.string (⟨#[34, 97, 32, 97, 32, 46, 34, 32, 34, 98, 32, 46, 32, 46, 46, 34]⟩ : ByteArray)] rfl goa_ ?_; (with_reducible refine (parterrelaw08_words.calls k (⟨#[34, 97, 32, 97, 32, 46, 34, 32, 34, 98, 32, 46, 32, 46, 46, 34]⟩ : ByteArray) t232 _ A1.out).mono ?_); rintro e w13 ⟨v233, rfl, ho0, hb⟩; refine ⟨_, rfl, ?_⟩; have n0_ := Aside0.mk (Kd.R_lower ho0 (below_size bel_)); have n1_ := Aside0.mk (below_step bel_ hb); clear HB; have HO234 := n0_; have HB := n1_; clear n0_ n1_; (try clear hb); (try clear hb2); (try clear hk); (try clear hi); (try clear ho0); obtain ⟨Ao14, co14, eo14⟩ := Kd.R_slice HO234.out; subst eo14) | ((with_reducible refine gate_callee (f := 22) rfl ?_); refine goesL_ (some 10) rfl rfl Tryz.func22 (by kernel_rfl) rfl #[.slice Ao14 t232.length co14, .int .i64 0] rfl goa_ ?_; (with_reducible refine (area_Read.calls k _ _ t232 0 t235 t236 t237 _ ?side1 ?side2 A2.out).mono ?_); (case side1 => repeat (first | exact (Kd.R_reads' HO234.out).2.2 | (with_reducible refine Kd.C_alloc ?_ _) | (with_reducible refine Kd.C_drewN ?_ _) | (with_reducible refine Kd.C_drew ?_))); (case side2 => exact (Kd.R_reads' HO234.out).2.1); rintro e w15 ⟨v238, rfl, ho0, hb⟩; refine ⟨_, rfl, ?_⟩; have n0_ := Aside0.mk (Kd.R_below (by (with_reducible repeat (first | apply Kd.R_alloc | apply Kd.R_drewN | apply Kd.R_drew)); exact HO234.out) hb); have n1_ := Aside0.mk (Kd.S_lower ho0 (below_size bel_)); have n2_ := Aside0.mk (below_step bel_ hb); clear HO234; clear HB; have HO234 := n0_; have HO239 := n1_; have HB := n2_; clear n0_ n1_ n2_; (try clear hb); (try clear hb2); (try clear hk); (try clear hi); (try clear ho0)) | ((with_reducible refine gate_callee (f := 23) rfl ?_); refine goesL_ (some 15) rfl rfl Tryz.func23 (by kernel_rfl) rfl #[.string (⟨#[34, 97, 32, 98, 34, 32, 34, 98, 32, 97, 34]⟩ : ByteArray)] rfl goa_ ?_; (with_reducible refine (parterrelaw08_words.calls k (⟨#[34, 97, 32, 98, 34, 32, 34, 98, 32, 97, 34]⟩ : ByteArray) t240 _ A3.out).mono ?_); rintro e w16 ⟨v241, rfl, ho0, hb⟩; refine ⟨_, rfl, ?_⟩; have n0_ := Aside0.mk (Kd.R_elder' (by (with_reducible repeat (first | apply Kd.R_alloc | apply Kd.R_drewN | apply Kd.R_drew)); exact HO234.out) (Kd.R_base ho0) hb); have n1_ := Aside0.mk (Kd.S_below (by (with_reducible repeat (first | apply Kd.S_alloc | apply Kd.S_drewN | apply Kd.S_drew)); exact HO239.out) hb); have n2_ := Aside0.mk (Kd.R_lower (Kd.R_new' ho0 (Kd.R_lt (by (with_reducible repeat (first | apply Kd.R_alloc | apply Kd.R_drewN | apply Kd.R_drew)); exact HO234.out))) (below_size bel_)); have n3_ := Aside0.mk (below_step bel_ hb); clear HO234; clear HO239; clear HB; have HO234 := n0_; have HO239 := n1_; have HO242 := n2_; have HB := n3_; clear n0_ n1_ n2_ n3_; (try clear hb); (try clear hb2); (try clear hk); (try clear hi); (try clear ho0); obtain ⟨Ao17, co17, eo17⟩ := Kd.R_slice HO242.out; subst eo17) | ((with_reducible refine gate_callee (f := 22) rfl ?_); refine goesL_ (some 16) rfl rfl Tryz.func22 (by kernel_rfl) rfl #[.slice Ao17 t240.length co17, .int .i64 0] rfl goa_ ?_; (with_reducible refine (area_Read.calls k _ _ t240 0 t243 t244 t245 _ ?side1 ?side2 A4.out).mono ?_); (case side1 => repeat (first | exact (Kd.R_reads' HO242.out).2.2 | (with_reducible refine Kd.C_alloc ?_ _) | (with_reducible refine Kd.C_drewN ?_ _) | (with_reducible refine Kd.C_drew ?_))); (case side2 => exact (Kd.R_reads' HO242.out).2.1); rintro e w18 ⟨v246, rfl, ho0, hb⟩; refine ⟨_, rfl, ?_⟩; have n0_ := Aside0.mk (Kd.R_below (by (with_reducible repeat (first | apply Kd.R_alloc | apply Kd.R_drewN | apply Kd.R_drew)); exact HO234.out) hb); have n1_ := Aside0.mk (Kd.S_elder' (by (with_reducible repeat (first | apply Kd.S_alloc | apply Kd.S_drewN | apply Kd.S_drew)); exact HO239.out) (Kd.S_base ho0) hb); have n2_ := Aside0.mk (Kd.R_below (by (with_reducible repeat (first | apply Kd.R_alloc | apply Kd.R_drewN | apply Kd.R_drew)); exact HO242.out) hb); have n3_ := Aside0.mk (Kd.S_lower (Kd.S_new' ho0 (Kd.S_lt (by (with_reducible repeat (first | apply Kd.S_alloc | apply Kd.S_drewN | apply Kd.S_drew)); exact HO239.out))) (below_size bel_)); have n4_ := Aside0.mk (below_step bel_ hb); clear HO234; clear HO239; clear HO242; clear HB; have HO234 := n0_; have HO239 := n1_; have HO242 := n2_; have HO247 := n3_; have HB := n4_; clear n0_ n1_ n2_ n3_ n4_; (try clear hb); (try clear hb2); (try clear hk); (try clear hi); (try clear ho0); obtain ⟨Ao19, co19, eo19⟩ := Kd.S_slice HO239.out; subst eo19) | ((with_reducible refine gate_callee (f := 7) rfl ?_); refine goesL_ (some 21) rfl rfl Tryz.func7 (by kernel_rfl) rfl #[.slice Ao19 t235.length co19] rfl goa_ ?_; (with_reducible refine (area_Rects.calls k _ _ t235 t248 _ ?side1 ?side2 A5.out).mono ?_); (case side1 => repeat (first | exact (Kd.S_reads' HO239.out).2.2 | (with_reducible refine Kd.C_alloc ?_ _) | (with_reducible refine Kd.C_drewN ?_ _) | (with_reducible refine Kd.C_drew ?_))); (case side2 => exact (Kd.S_reads' HO239.out).2.1); rintro e w20 ⟨v249, rfl, ho0, hb⟩; refine ⟨_, rfl, ?_⟩; have n0_ := Aside0.mk (Kd.R_below (by (with_reducible repeat (first | apply Kd.R_alloc | apply Kd.R_drewN | apply Kd.R_drew)); exact HO234.out) hb); have n1_ := Aside0.mk (Kd.S_below (by (with_reducible repeat (first | apply Kd.S_alloc | apply Kd.S_drewN | apply Kd.S_drew)); exact HO239.out) hb); have n2_ := Aside0.mk (Kd.R_below (by (with_reducible repeat (first | apply Kd.R_alloc | apply Kd.R_drewN | apply Kd.R_drew)); exact HO242.out) hb); have n3_ := Aside0.mk (Kd.S_below (by (with_reducible repeat (first | apply Kd.S_alloc | apply Kd.S_drewN | apply Kd.S_drew)); exact HO247.out) hb); have n4_ := Aside0.mk (Kd.R_lower ho0 (below_size bel_)); have n5_ := Aside0.mk (below_step bel_ hb); clear HO234; clear HO239; clear HO242; clear HO247; clear HB; have HO234 := n0_; have HO239 := n1_; have HO242 := n2_; have HO247 := n3_; have HO250 := n4_; have HB := n5_; clear n0_ n1_ n2_ n3_ n4_ n5_; (try clear hb); (try clear hb2); (try clear hk); (try clear hi); (try clear ho0); obtain ⟨Ao21, co21, eo21⟩ := Kd.R_slice HO250.out; subst eo21; have p251 : 0 ≤ (0 : Int) := (by omega); have q251 : 0 < (t248.length : Int) := of_decide_eq_true (by first | (with_reducible assumption) | assumption); obtain ⟨ad251, e251, hx251_0, hx251_1, hx251_2, hx251_3, hx251_4⟩ := at_T28 (Kd.R_reads' HO250.out).2.2 0 p251 q251; cases e251; have qi251 : (0 < t248.length) = True := eq_true (by omega); (try rw [show ((0 : Int)).toNat = 0 from rfl] at hx251_0); (try rw [show 0 * 5 = 0 from rfl] at hx251_0); (try rw [Addr.add_zero'] at hx251_0); (try rw [show ((0 : Int)).toNat = 0 from rfl] at hx251_1); (try rw [show 0 * 5 = 0 from rfl] at hx251_1); (try rw [Addr.add_zero'] at hx251_1); (try rw [show ((0 : Int)).toNat = 0 from rfl] at hx251_2); (try rw [show 0 * 5 = 0 from rfl] at hx251_2); (try rw [Addr.add_zero'] at hx251_2); (try rw [show ((0 : Int)).toNat = 0 from rfl] at hx251_3); (try rw [show 0 * 5 = 0 from rfl] at hx251_3); (try rw [Addr.add_zero'] at hx251_3); (try rw [show ((0 : Int)).toNat = 0 from rfl] at hx251_4); (try rw [show 0 * 5 = 0 from rfl] at hx251_4); (try rw [Addr.add_zero'] at hx251_4); replace p251 := eq_true p251; replace q251 := eq_true q251; have p252 : 0 ≤ (1 : Int) := (by omega); have q252 : 1 < (t248.length : Int) := of_decide_eq_true (by first | (with_reducible assumption) | assumption); obtain ⟨ad252, e252, hx252_0, hx252_1, hx252_2, hx252_3, hx252_4⟩ := at_T28 (Kd.R_reads' HO250.out).2.2 1 p252 q252; obtain rfl : ad251 = ad252 := (by injection e252); (try simp only [show (1 : Int).toNat = 1 from rfl, Nat.reduceMul, Nat.reduceEqDiff, Go.Addr.add, ↓reduceIte] at hx252_0); (try simp only [show (1 : Int).toNat = 1 from rfl, Nat.reduceMul, Nat.reduceEqDiff, Go.Addr.add, ↓reduceIte] at hx252_1); (try simp only [show (1 : Int).toNat = 1 from rfl, Nat.reduceMul, Nat.reduceEqDiff, Go.Addr.add, ↓reduceIte] at hx252_2); (try simp only [show (1 : Int).toNat = 1 from rfl, Nat.reduceMul, Nat.reduceEqDiff, Go.Addr.add, ↓reduceIte] at hx252_3); (try simp only [show (1 : Int).toNat = 1 from rfl, Nat.reduceMul, Nat.reduceEqDiff, Go.Addr.add, ↓reduceIte] at hx252_4); have qi252 : (1 < t248.length) = True := eq_true (by omega); (try rw [show ((1 : Int)).toNat = 1 from rfl] at hx252_0); (try rw [show 1 * 5 = 5 from rfl] at hx252_0); (try rw [show ((1 : Int)).toNat = 1 from rfl] at hx252_1); (try rw [show 1 * 5 = 5 from rfl] at hx252_1); (try rw [show ((1 : Int)).toNat = 1 from rfl] at hx252_2); (try rw [show 1 * 5 = 5 from rfl] at hx252_2); (try rw [show ((1 : Int)).toNat = 1 from rfl] at hx252_3); (try rw [show 1 * 5 = 5 from rfl] at hx252_3); (try rw [show ((1 : Int)).toNat = 1 from rfl] at hx252_4); (try rw [show 1 * 5 = 5 from rfl] at hx252_4); replace p252 := eq_true p252; replace q252 := eq_true q252))
        go_ret
        exact ⟨rsl_, bel_⟩
       ·rw [if_neg c12] at H
        exact absurd H (by simp)
      ·rw [if_neg c11] at H
       exact absurd H (by simp)
     ·rw [if_neg c10] at H
      exact absurd H (by simp)
    ·rw [if_neg c9] at H
     exact absurd H (by simp)
   ·rw [if_neg c8] at H
    exact absurd H (by simp)
  ·rw [if_neg c7] at H
   exact absurd H (by simp)
 ·rw [if_neg c6] at H
  exact absurd H (by simp)

/-! ### parterreref03_Letter: function 78 -/
def parterreref03_Letter.f (a0 : Int) : Option (Bool) := if a0 ≥ 97 then (if a0 ≤ 122 then (some true) else (if a0 ≥ 65 then (if a0 ≤ 90 then (some true) else (if a0 = 95 then (some true) else (some (decide (a0 ≥ 128))))) else (if a0 = 95 then (some true) else (some (decide (a0 ≥ 128)))))) else (if a0 ≥ 65 then (if a0 ≤ 90 then (some true) else (if a0 = 95 then (some true) else (some (decide (a0 ≥ 128))))) else (if a0 = 95 then (some true) else (some (decide (a0 ≥ 128)))))
set_option maxHeartbeats 8000000 in
set_option maxRecDepth 100000 in
theorem parterreref03_Letter.calls (a0 : Int) (r : Bool) (w : World) (h : parterreref03_Letter.f a0 = some r) :
  Calls Tryz.prog 78 #[.int .u8 a0] w fun e w' => e = .returned (.bool r) ∧ Drawn0 w w' := by
 have H : (if a0 ≥ 97 then (if a0 ≤ 122 then (some true) else (if a0 ≥ 65 then (if a0 ≤ 90 then (some true) else (if a0 = 95 then (some true) else (some (decide (a0 ≥ 128))))) else (if a0 = 95 then (some true) else (some (decide (a0 ≥ 128)))))) else (if a0 ≥ 65 then (if a0 ≤ 90 then (some true) else (if a0 = 95 then (some true) else (some (decide (a0 ≥ 128))))) else (if a0 = 95 then (some true) else (some (decide (a0 ≥ 128)))))) = some r := h
 clear h
 by_cases c2 : a0 ≥ 97
 ·rw [if_pos c2] at H
  have c2b0 : decide (97 ≤ a0) = true := decide_eq_true c2
  clear c2
  by_cases c3 : a0 ≤ 122
  ·rw [if_pos c3] at H
   have c3b0 : decide (a0 ≤ 122) = true := decide_eq_true c3
   clear c3
   obtain rfl := Option.some.inj H
   go_enter Tryz.func78, Tryz.ntmps78
   go_wp2
   go_ret
   exact ⟨by first | rfl | (simp; done) | (simp [*]; done), drs_⟩
  ·rw [if_neg c3] at H
   have c3b0 : decide (a0 ≤ 122) = false := decide_eq_false c3
   clear c3
   by_cases c4 : a0 ≥ 65
   ·rw [if_pos c4] at H
    have c4b0 : decide (65 ≤ a0) = true := decide_eq_true c4
    clear c4
    by_cases c5 : a0 ≤ 90
    ·rw [if_pos c5] at H
     have c5b0 : decide (a0 ≤ 90) = true := decide_eq_true c5
     clear c5
     obtain rfl := Option.some.inj H
     go_enter Tryz.func78, Tryz.ntmps78
     go_wp2
     go_ret
     exact ⟨by first | rfl | (simp; done) | (simp [*]; done), drs_⟩
    ·rw [if_neg c5] at H
     have c5b0 : decide (a0 ≤ 90) = false := decide_eq_false c5
     clear c5
     by_cases c6 : a0 = 95
     ·rw [if_pos c6] at H
      have c6b0 : (a0 == 95) = true := beq_iff_eq.mpr c6
      have c6b1 : (a0 != 95) = false := bne_eq_false_iff_eq.mpr c6
      clear c6
      obtain rfl := Option.some.inj H
      go_enter Tryz.func78, Tryz.ntmps78
      go_wp2
      go_ret
      exact ⟨by first | rfl | (simp; done) | (simp [*]; done), drs_⟩
     ·rw [if_neg c6] at H
      have c6b0 : (a0 == 95) = false := beq_eq_false_iff_ne.mpr c6
      have c6b1 : (a0 != 95) = true := bne_iff_ne.mpr c6
      obtain rfl := Option.some.inj H
      go_enter Tryz.func78, Tryz.ntmps78
      go_wp2
      go_ret
      exact ⟨by first | rfl | (simp; done) | (simp [*]; done), drs_⟩
   ·rw [if_neg c4] at H
    have c4b0 : decide (65 ≤ a0) = false := decide_eq_false c4
    clear c4
    by_cases c7 : a0 = 95
    ·rw [if_pos c7] at H
     have c7b0 : (a0 == 95) = true := beq_iff_eq.mpr c7
     have c7b1 : (a0 != 95) = false := bne_eq_false_iff_eq.mpr c7
     clear c7
     obtain rfl := Option.some.inj H
     go_enter Tryz.func78, Tryz.ntmps78
     go_wp2
     go_ret
     exact ⟨by first | rfl | (simp; done) | (simp [*]; done), drs_⟩
    ·rw [if_neg c7] at H
     have c7b0 : (a0 == 95) = false := beq_eq_false_iff_ne.mpr c7
     have c7b1 : (a0 != 95) = true := bne_iff_ne.mpr c7
     obtain rfl := Option.some.inj H
     go_enter Tryz.func78, Tryz.ntmps78
     go_wp2
     go_ret
     exact ⟨by first | rfl | (simp; done) | (simp [*]; done), drs_⟩
 ·rw [if_neg c2] at H
  have c2b0 : decide (97 ≤ a0) = false := decide_eq_false c2
  clear c2
  by_cases c8 : a0 ≥ 65
  ·rw [if_pos c8] at H
   have c8b0 : decide (65 ≤ a0) = true := decide_eq_true c8
   clear c8
   by_cases c9 : a0 ≤ 90
   ·rw [if_pos c9] at H
    have c9b0 : decide (a0 ≤ 90) = true := decide_eq_true c9
    clear c9
    obtain rfl := Option.some.inj H
    go_enter Tryz.func78, Tryz.ntmps78
    go_wp2
    go_ret
    exact ⟨by first | rfl | (simp; done) | (simp [*]; done), drs_⟩
   ·rw [if_neg c9] at H
    have c9b0 : decide (a0 ≤ 90) = false := decide_eq_false c9
    clear c9
    by_cases c10 : a0 = 95
    ·rw [if_pos c10] at H
     have c10b0 : (a0 == 95) = true := beq_iff_eq.mpr c10
     have c10b1 : (a0 != 95) = false := bne_eq_false_iff_eq.mpr c10
     clear c10
     obtain rfl := Option.some.inj H
     go_enter Tryz.func78, Tryz.ntmps78
     go_wp2
     go_ret
     exact ⟨by first | rfl | (simp; done) | (simp [*]; done), drs_⟩
    ·rw [if_neg c10] at H
     have c10b0 : (a0 == 95) = false := beq_eq_false_iff_ne.mpr c10
     have c10b1 : (a0 != 95) = true := bne_iff_ne.mpr c10
     obtain rfl := Option.some.inj H
     go_enter Tryz.func78, Tryz.ntmps78
     go_wp2
     go_ret
     exact ⟨by first | rfl | (simp; done) | (simp [*]; done), drs_⟩
  ·rw [if_neg c8] at H
   have c8b0 : decide (65 ≤ a0) = false := decide_eq_false c8
   clear c8
   by_cases c11 : a0 = 95
   ·rw [if_pos c11] at H
    have c11b0 : (a0 == 95) = true := beq_iff_eq.mpr c11
    have c11b1 : (a0 != 95) = false := bne_eq_false_iff_eq.mpr c11
    clear c11
    obtain rfl := Option.some.inj H
    go_enter Tryz.func78, Tryz.ntmps78
    go_wp2
    go_ret
    exact ⟨by first | rfl | (simp; done) | (simp [*]; done), drs_⟩
   ·rw [if_neg c11] at H
    have c11b0 : (a0 == 95) = false := beq_eq_false_iff_ne.mpr c11
    have c11b1 : (a0 != 95) = true := bne_iff_ne.mpr c11
    obtain rfl := Option.some.inj H
    go_enter Tryz.func78, Tryz.ntmps78
    go_wp2
    go_ret
    exact ⟨by first | rfl | (simp; done) | (simp [*]; done), drs_⟩

/-! ### parterreref08_inner: function 51 -/
def parterreref08_inner.f (a0 : Int) : Option (Bool) := (parterreref03_Letter.f a0).bind fun t253 => (if t253 = true then (some true) else (if a0 ≥ 48 then (if a0 ≤ 57 then (some true) else (some (a0 == 45))) else (some (a0 == 45))))
set_option maxHeartbeats 8000000 in
set_option maxRecDepth 100000 in
theorem parterreref08_inner.calls (a0 : Int) (r : Bool) (w : World) (h : parterreref08_inner.f a0 = some r) :
  Calls Tryz.prog 51 #[.int .u8 a0] w fun e w' => e = .returned (.bool r) ∧ Drawn0 w w' := by
 have H : ((parterreref03_Letter.f a0).bind fun t253 => (if t253 = true then (some true) else (if a0 ≥ 48 then (if a0 ≤ 57 then (some true) else (some (a0 == 45))) else (some (a0 == 45))))) = some r := h
 clear h
 replace H := Option.bind_eq_some_iff.mp H
 obtain ⟨t253, A20, H⟩ := H
 try dsimp only at H
 have A2 := Aside0.mk A20
 clear A20
 by_cases c3 : t253 = true
 ·subst c3
  rw [if_pos rfl] at H
  obtain rfl := Option.some.inj H
  go_enter Tryz.func51, Tryz.ntmps51
  go_wp2_with (first | ((with_reducible refine gate_callee (f := 78) rfl ?_); refine goesL_ (some 4) rfl rfl Tryz.func78 (by kernel_rfl) rfl #[.int .u8 a0] rfl goa_ ?_; (with_reducible refine (parterreref03_Letter.calls a0 true _ A2.out).mono ?_); rintro e w' ⟨rfl, ⟨nd, rfl⟩⟩; refine ⟨_, rfl, ?_⟩))
  go_ret
  exact ⟨by first | rfl | (simp; done) | (simp [*]; done), drs_⟩
 ·replace c3 := Bool.eq_false_iff.mpr c3
  subst c3
  rw [if_neg (show ¬ (false = true) by decide)] at H
  by_cases c4 : a0 ≥ 48
  ·rw [if_pos c4] at H
   have c4b0 : decide (48 ≤ a0) = true := decide_eq_true c4
   clear c4
   by_cases c5 : a0 ≤ 57
   ·rw [if_pos c5] at H
    have c5b0 : decide (a0 ≤ 57) = true := decide_eq_true c5
    clear c5
    obtain rfl := Option.some.inj H
    go_enter Tryz.func51, Tryz.ntmps51
    go_wp2_with (first | ((with_reducible refine gate_callee (f := 78) rfl ?_); refine goesL_ (some 4) rfl rfl Tryz.func78 (by kernel_rfl) rfl #[.int .u8 a0] rfl goa_ ?_; (with_reducible refine (parterreref03_Letter.calls a0 false _ A2.out).mono ?_); rintro e w' ⟨rfl, ⟨nd, rfl⟩⟩; refine ⟨_, rfl, ?_⟩))
    go_ret
    exact ⟨by first | rfl | (simp; done) | (simp [*]; done), drs_⟩
   ·rw [if_neg c5] at H
    have c5b0 : decide (a0 ≤ 57) = false := decide_eq_false c5
    clear c5
    obtain rfl := Option.some.inj H
    go_enter Tryz.func51, Tryz.ntmps51
    go_wp2_with (first | ((with_reducible refine gate_callee (f := 78) rfl ?_); refine goesL_ (some 4) rfl rfl Tryz.func78 (by kernel_rfl) rfl #[.int .u8 a0] rfl goa_ ?_; (with_reducible refine (parterreref03_Letter.calls a0 false _ A2.out).mono ?_); rintro e w' ⟨rfl, ⟨nd, rfl⟩⟩; refine ⟨_, rfl, ?_⟩))
    go_ret
    exact ⟨by first | rfl | (simp; done) | (simp [*]; done), drs_⟩
  ·rw [if_neg c4] at H
   have c4b0 : decide (48 ≤ a0) = false := decide_eq_false c4
   clear c4
   obtain rfl := Option.some.inj H
   go_enter Tryz.func51, Tryz.ntmps51
   go_wp2_with (first | ((with_reducible refine gate_callee (f := 78) rfl ?_); refine goesL_ (some 4) rfl rfl Tryz.func78 (by kernel_rfl) rfl #[.int .u8 a0] rfl goa_ ?_; (with_reducible refine (parterreref03_Letter.calls a0 false _ A2.out).mono ?_); rintro e w' ⟨rfl, ⟨nd, rfl⟩⟩; refine ⟨_, rfl, ?_⟩))
   go_ret
   exact ⟨by first | rfl | (simp; done) | (simp [*]; done), drs_⟩

/-! ### parterreref08_name: function 28 -/
def parterreref08_name.l0 : Nat → ByteArray → Int → Option (Bool)
 | 0, _, _ => none
 | k + 1, x0, x3 => if x3 < (x0.size : Int) then (if 0 ≤ x3 then ((parterreref08_inner.f (bt x0 x3)).bind fun t254 => (if t254 = true then (parterreref08_name.l0 k x0 (wrap64 (x3 + 1))) else (some false))) else (none)) else (some true)
def parterreref08_name.f (k : Nat) (a0 : ByteArray) : Option (Bool) := if (a0.size : Int) > 64 then (some false) else (parterreref08_name.l0 k a0 0)
theorem parterreref08_name.mono_l : ∀ k, (∀ y0 y1, LeO (parterreref08_name.l0 k y0 y1) (parterreref08_name.l0 (k + 1) y0 y1))
 | 0 => fun _ _ r h => by simp [parterreref08_name.l0] at h
 | k + 1 => by
  have ih0 := parterreref08_name.mono_l k
  ·intro y0 y1
   unfold parterreref08_name.l0
   repeat' first
   | (with_reducible exact ih0 _ _)
   | (with_reducible exact LeO.refl _)
   | (with_reducible exact LeO.none _)
   | (with_reducible refine LeO.ite ?_ ?_)
   | (with_reducible refine LeO.bind ?_ (fun _ => ?_))
theorem parterreref08_name.mono : ∀ a0 k, LeO (parterreref08_name.f k a0) (parterreref08_name.f (k + 1) a0) := by
 intro a0 k
 have ih0 := parterreref08_name.mono_l k
 unfold parterreref08_name.f
 repeat' first
   | (with_reducible exact ih0 _ _)
   | (with_reducible exact LeO.refl _)
   | (with_reducible exact LeO.none _)
   | (with_reducible refine LeO.ite ?_ ?_)
   | (with_reducible refine LeO.bind ?_ (fun _ => ?_))
set_option maxHeartbeats 8000000 in
set_option maxRecDepth 100000 in
theorem parterreref08_name.calls (k : Nat) (a0 : ByteArray) (r : Bool) (w : World) (h : parterreref08_name.f k a0 = some r) :
  Calls Tryz.prog 28 #[.string a0] w fun e w' => e = .returned (.bool r) ∧ Drawn0 w w' := by
 have H : (if (a0.size : Int) > 64 then (some false) else (parterreref08_name.l0 k a0 0)) = some r := h
 clear h
 by_cases c2 : (a0.size : Int) > 64
 ·rw [if_pos c2] at H
  have c2b0 : decide (64 < (a0.size : Int)) = true := decide_eq_true c2
  have c2b1 : decide (64 < a0.size) = true := decide_eq_true (by omega)
  clear c2
  obtain rfl := Option.some.inj H
  go_enter Tryz.func28, Tryz.ntmps28
  go_wp2
  go_ret
  exact ⟨by first | rfl | (simp; done) | (simp [*]; done), drs_⟩
 ·rw [if_neg c2] at H
  have c2b0 : decide (64 < (a0.size : Int)) = false := decide_eq_false c2
  have c2b1 : decide (64 < a0.size) = false := decide_eq_false (by omega)
  clear c2
  have H' := Aside0.mk H
  clear H
  go_enter Tryz.func28, Tryz.ntmps28
  go_wp2
  go_loopg [3] k (fun kq v3 w' => ∃ (x3_1 : Int), v3 = .int .i64 x3_1 ∧ Aside0 (parterreref08_name.l0 kq a0 x3_1 = some r) ∧ Aside0 (kq ≤ k) ∧ Drawn0 w w')
  case atStart => exact ⟨(0), rfs_, H', ⟨Nat.le_refl _⟩, drs_⟩
  case round =>
   clear H'
   try clear c2b0
   try clear c2b1
   obtain ⟨x3_1, rfl, HA, HK1, ⟨m1, rfl⟩⟩ := hrel
   cases gk with
   | zero => exact absurd HA.out (by simp [parterreref08_name.l0])
   | succ k1 =>
    have H := HA.out
    clear HA
    simp only [parterreref08_name.l0] at H
    by_cases c3 : x3_1 < (a0.size : Int)
    ·rw [if_pos c3] at H
     have c3b0 : decide (x3_1 < (a0.size : Int)) = true := decide_eq_true c3
     clear c3
     by_cases c4 : 0 ≤ x3_1
     ·rw [if_pos c4] at H
      have c4b0 : decide (0 ≤ x3_1) = true := decide_eq_true c4
      clear c4
      replace H := Option.bind_eq_some_iff.mp H
      obtain ⟨t254, A60, H⟩ := H
      try dsimp only at H
      have A6 := Aside0.mk A60
      clear A60
      by_cases c7 : t254 = true
      ·subst c7
       rw [if_pos rfl] at H
       have H' := Aside0.mk H
       clear H
       have p5 : 0 ≤ (x3_1 : Int) := of_decide_eq_true (by first | (with_reducible assumption) | assumption)
       have q5 : x3_1 < (a0.size : Int) := of_decide_eq_true (by first | (with_reducible assumption) | assumption)
       have hx5 := bt_at a0 x3_1
       replace p5 := eq_true p5
       replace q5 := eq_true q5
       go_wp2_with (first | ((with_reducible refine gate_callee (f := 51) rfl ?_); refine goesL_ (some 16) rfl rfl Tryz.func51 (by kernel_rfl) rfl #[.int .u8 (bt a0 x3_1)] rfl goa_ ?_; (with_reducible refine (parterreref08_inner.calls (bt a0 x3_1) true _ A6.out).mono ?_); rintro e w' ⟨rfl, ⟨nd, rfl⟩⟩; refine ⟨_, rfl, ?_⟩))
       go_roundg k1
       case measure => have := HK1.out; omega
       case rel => exact ⟨(wrap64 (x3_1 + 1)), rfs_, H', ⟨by have := HK1.out; omega⟩, drs_⟩
      ·replace c7 := Bool.eq_false_iff.mpr c7
       subst c7
       rw [if_neg (show ¬ (false = true) by decide)] at H
       obtain rfl := Option.some.inj H
       have p5 : 0 ≤ (x3_1 : Int) := of_decide_eq_true (by first | (with_reducible assumption) | assumption)
       have q5 : x3_1 < (a0.size : Int) := of_decide_eq_true (by first | (with_reducible assumption) | assumption)
       have hx5 := bt_at a0 x3_1
       replace p5 := eq_true p5
       replace q5 := eq_true q5
       go_wp2_with (first | ((with_reducible refine gate_callee (f := 51) rfl ?_); refine goesL_ (some 16) rfl rfl Tryz.func51 (by kernel_rfl) rfl #[.int .u8 (bt a0 x3_1)] rfl goa_ ?_; (with_reducible refine (parterreref08_inner.calls (bt a0 x3_1) false _ A6.out).mono ?_); rintro e w' ⟨rfl, ⟨nd, rfl⟩⟩; refine ⟨_, rfl, ?_⟩))
       go_ret
       exact ⟨by first | rfl | (simp; done) | (simp [*]; done), drs_⟩
     ·rw [if_neg c4] at H
      exact absurd H (by simp)
    ·rw [if_neg c3] at H
     have c3b0 : decide (x3_1 < (a0.size : Int)) = false := decide_eq_false c3
     clear c3
     obtain rfl := Option.some.inj H
     go_wp2
     go_ret
     exact ⟨by first | rfl | (simp; done) | (simp [*]; done), drs_⟩

/-! ### parterreref08_first: function 25 -/
mutual
def parterreref08_first.l0 : Nat → List (List ByteArray) → Int → Int → Int → Option (Bool)
 | 0, _, _, _, _ => none
 | k + 1, x0, x1, x2, x7 => if x7 ≤ x1 then (parterreref08_first.l1 k x0 x1 x2 x7 0) else (some true)
def parterreref08_first.l1 : Nat → List (List ByteArray) → Int → Int → Int → Int → Option (Bool)
 | 0, _, _, _, _, _ => none
 | k + 1, x0, x1, x2, x7, x8 => if 0 ≤ x7 then (if x7 < (x0.length : Int) then (if x8 < ((rd_L1 x0 x7).length : Int) then (if x7 = x1 then (parterreref08_first.j2 k x0 x1 x2 x7 x8 (decide (x8 ≥ x2))) else (parterreref08_first.j2 k x0 x1 x2 x7 x8 false)) else (parterreref08_first.l0 k x0 x1 x2 (wrap64 (x7 + 1)))) else (none)) else (none)
def parterreref08_first.j2 : Nat → List (List ByteArray) → Int → Int → Int → Int → Bool → Option (Bool)
 | 0, _, _, _, _, _, _ => none
 | k + 1, x0, x1, x2, x7, x8, x30 => if x30 = true then (some true) else (if 0 ≤ x7 then (if x7 < (x0.length : Int) then (if 0 ≤ x8 then (if x8 < ((rd_L1 x0 x7).length : Int) then (if 0 ≤ x1 then (if x1 < (x0.length : Int) then (if 0 ≤ x2 then (if x2 < ((rd_L1 x0 x1).length : Int) then (if (rdOf ByteArray.empty (rd_L1 x0 x7) x8).toList = (rdOf ByteArray.empty (rd_L1 x0 x1) x2).toList then (some false) else (parterreref08_first.l1 k x0 x1 x2 x7 (wrap64 (x8 + 1)))) else (none)) else (none)) else (none)) else (none)) else (none)) else (none)) else (none)) else (none))
end
def parterreref08_first.f (k : Nat) (l0 : List (List ByteArray)) (a1 : Int) (a2 : Int) : Option (Bool) := parterreref08_first.l0 k l0 a1 a2 0
theorem parterreref08_first.mono_l : ∀ k, (∀ y0 y1 y2 y3, LeO (parterreref08_first.l0 k y0 y1 y2 y3) (parterreref08_first.l0 (k + 1) y0 y1 y2 y3)) ∧ (∀ y0 y1 y2 y3 y4, LeO (parterreref08_first.l1 k y0 y1 y2 y3 y4) (parterreref08_first.l1 (k + 1) y0 y1 y2 y3 y4)) ∧ (∀ y0 y1 y2 y3 y4 y5, LeO (parterreref08_first.j2 k y0 y1 y2 y3 y4 y5) (parterreref08_first.j2 (k + 1) y0 y1 y2 y3 y4 y5))
 | 0 => ⟨fun _ _ _ _ r h => by simp [parterreref08_first.l0] at h, fun _ _ _ _ _ r h => by simp [parterreref08_first.l1] at h, fun _ _ _ _ _ _ r h => by simp [parterreref08_first.j2] at h⟩
 | k + 1 => by
  obtain ⟨ih0, ih1, ih2⟩ := parterreref08_first.mono_l k
  refine ⟨?_, ?_, ?_⟩
  ·intro y0 y1 y2 y3
   unfold parterreref08_first.l0
   repeat' first
   | (with_reducible exact ih0 _ _ _ _)
   | (with_reducible exact ih1 _ _ _ _ _)
   | (with_reducible exact ih2 _ _ _ _ _ _)
   | (with_reducible exact LeO.refl _)
   | (with_reducible exact LeO.none _)
   | (with_reducible refine LeO.ite ?_ ?_)
   | (with_reducible refine LeO.bind ?_ (fun _ => ?_))
  ·intro y0 y1 y2 y3 y4
   unfold parterreref08_first.l1
   repeat' first
   | (with_reducible exact ih0 _ _ _ _)
   | (with_reducible exact ih1 _ _ _ _ _)
   | (with_reducible exact ih2 _ _ _ _ _ _)
   | (with_reducible exact LeO.refl _)
   | (with_reducible exact LeO.none _)
   | (with_reducible refine LeO.ite ?_ ?_)
   | (with_reducible refine LeO.bind ?_ (fun _ => ?_))
  ·intro y0 y1 y2 y3 y4 y5
   unfold parterreref08_first.j2
   repeat' first
   | (with_reducible exact ih0 _ _ _ _)
   | (with_reducible exact ih1 _ _ _ _ _)
   | (with_reducible exact ih2 _ _ _ _ _ _)
   | (with_reducible exact LeO.refl _)
   | (with_reducible exact LeO.none _)
   | (with_reducible refine LeO.ite ?_ ?_)
   | (with_reducible refine LeO.bind ?_ (fun _ => ?_))
theorem parterreref08_first.mono : ∀ a0 a1 a2 k, LeO (parterreref08_first.f k a0 a1 a2) (parterreref08_first.f (k + 1) a0 a1 a2) := by
 intro a0 a1 a2 k
 obtain ⟨ih0, ih1, ih2⟩ := parterreref08_first.mono_l k
 unfold parterreref08_first.f
 repeat' first
   | (with_reducible exact ih0 _ _ _ _)
   | (with_reducible exact ih1 _ _ _ _ _)
   | (with_reducible exact ih2 _ _ _ _ _ _)
   | (with_reducible exact LeO.refl _)
   | (with_reducible exact LeO.none _)
   | (with_reducible refine LeO.ite ?_ ?_)
   | (with_reducible refine LeO.bind ?_ (fun _ => ?_))
set_option maxHeartbeats 8000000 in
set_option maxRecDepth 100000 in
theorem parterreref08_first.calls (k : Nat) (A0 : Option Addr) (c0 : Nat) (l0 : List (List ByteArray)) (a1 : Int) (a2 : Int) (r : Bool) (w : World) (hr0 : Kd.C (Kd.slice 9 Kd.string) w A0 l0.length l0) (hc0 : l0.length ≤ c0) (h : parterreref08_first.f k l0 a1 a2 = some r) :
  Calls Tryz.prog 25 #[.slice A0 l0.length c0, .int .i64 a1, .int .i64 a2] w fun e w' => e = .returned (.bool r) ∧ Drawn0 w w' := by
 have HR0 := Aside0.mk hr0
 have HC0 := Aside0.mk hc0
 clear hr0 hc0
 have H : (parterreref08_first.l0 k l0 a1 a2 0) = some r := h
 clear h
 have H' := Aside0.mk H
 clear H
 go_enter Tryz.func25, Tryz.ntmps25
 go_wp2
 repeat (go_quiet (fail); try go_wp2)
 go_loopg [7] k (fun kq v7 w' => ∃ (x7_1 : Int), v7 = .int .i64 x7_1 ∧ Aside0 (parterreref08_first.l0 kq l0 a1 a2 x7_1 = some r) ∧ Aside0 (kq ≤ k) ∧ Drawn0 w w')
 case atStart => exact ⟨(0), rfs_, H', ⟨Nat.le_refl _⟩, drs_⟩
 case round =>
  clear H'
  obtain ⟨x7_1, rfl, HA, HK1, ⟨m1, rfl⟩⟩ := hrel
  cases gk with
  | zero => exact absurd HA.out (by simp [parterreref08_first.l0])
  | succ k1 =>
   have H := HA.out
   clear HA
   simp only [parterreref08_first.l0] at H
   by_cases c4 : x7_1 ≤ a1
   ·rw [if_pos c4] at H
    have c4b0 : decide (x7_1 ≤ a1) = true := decide_eq_true c4
    clear c4
    have H' := Aside0.mk H
    clear H
    go_wp2
    repeat (go_quiet (fail); try go_wp2)
    go_loopg [8] k1 (fun kq v8 w' => ∃ (x8_2 : Int), v8 = .int .i64 x8_2 ∧ Aside0 (parterreref08_first.l1 kq l0 a1 a2 x7_1 x8_2 = some r) ∧ Aside0 (kq ≤ k1) ∧ Drawn0 w w')
    case atStart => exact ⟨(0), rfs_, H', ⟨Nat.le_refl _⟩, drs_⟩
    case round =>
     clear H'
     try clear c4b0
     obtain ⟨x8_2, rfl, HA, HK2, ⟨m2, rfl⟩⟩ := hrel
     cases gk with
     | zero => exact absurd HA.out (by simp [parterreref08_first.l1])
     | succ k2 =>
      have H := HA.out
      clear HA
      simp only [parterreref08_first.l1] at H
      by_cases c5 : 0 ≤ x7_1
      ·rw [if_pos c5] at H
       have c5b0 : decide (0 ≤ x7_1) = true := decide_eq_true c5
       clear c5
       by_cases c6 : x7_1 < (l0.length : Int)
       ·rw [if_pos c6] at H
        have c6b0 : decide (x7_1 < (l0.length : Int)) = true := decide_eq_true c6
        clear c6
        by_cases c7 : x8_2 < ((rd_L1 l0 x7_1).length : Int)
        ·rw [if_pos c7] at H
         have c7b0 : decide (x8_2 < ((rd_L1 l0 x7_1).length : Int)) = true := decide_eq_true c7
         clear c7
         have HC8 := Aside0.mk H
         clear H
         have p255 : 0 ≤ (x7_1 : Int) := of_decide_eq_true (by first | (with_reducible assumption) | assumption)
         have q255 : x7_1 < (l0.length : Int) := of_decide_eq_true (by first | (with_reducible assumption) | assumption)
         obtain ⟨ad255, A255_0, c255_0, e255, hx255_0, hl255_0, hi255_0⟩ := at_L1 HR0.out x7_1 p255 q255
         cases e255
         have HR255_0 := Aside0.mk hi255_0
         have HC255_0 := Aside0.mk hl255_0
         clear hi255_0 hl255_0
         replace p255 := eq_true p255
         replace q255 := eq_true q255
         go_upto_region 7 with (fail)
         repeat (go_quiet (fail); go_upto_region 7 with (fail))
         go_cut [30] (fun v30 wc => ∃ (kq : Nat) (x30_7 : Bool), v30 = .bool x30_7 ∧ Aside0 (parterreref08_first.j2 kq l0 a1 a2 x7_1 x8_2 x30_7 = some r) ∧ Aside0 (kq ≤ k2) ∧ Drawn0 w wc)
         case first =>
          have H := HC8.out
          clear HC8
          by_cases c9 : x7_1 = a1
          ·rw [if_pos c9] at H
           have c9b0 : (x7_1 == a1) = true := beq_iff_eq.mpr c9
           have c9b1 : (x7_1 != a1) = false := bne_eq_false_iff_eq.mpr c9
           clear c9
           (first | rw [c9b0] | (simp only [i64_w, i32_w]; rw [c9b0]) | skip)
           have H' := Aside0.mk H
           clear H
           go_wp2
           repeat (go_quiet (fail); try go_wp2)
           go_meet
           case rel => exact ⟨_, (decide (x8_2 ≥ a2)), rfs_, H', ⟨by have := HK1.out; have := HK2.out; first | omega | exact Nat.le_refl _⟩, drs_⟩
          ·rw [if_neg c9] at H
           have c9b0 : (x7_1 == a1) = false := beq_eq_false_iff_ne.mpr c9
           have c9b1 : (x7_1 != a1) = true := bne_iff_ne.mpr c9
           (first | rw [c9b0] | (simp only [i64_w, i32_w]; rw [c9b0]) | skip)
           have H' := Aside0.mk H
           clear H
           go_wp2
           repeat (go_quiet (fail); try go_wp2)
           go_meet
           case rel => exact ⟨_, (false), rfs_, H', ⟨by have := HK1.out; have := HK2.out; first | omega | exact Nat.le_refl _⟩, drs_⟩
         case rest =>
          clear HC8
          try clear c5b0
          try clear c6b0
          try clear c7b0
          try clear hx255_0
          try clear p255
          try clear q255
          obtain ⟨kq, x30_7, rfl, HA, HJ7, ⟨mc7, rfl⟩⟩ := hcut
          cases kq with
          | zero => exact absurd HA.out (by simp [parterreref08_first.j2])
          | succ kj7 =>
           have H := HA.out
           clear HA
           simp only [parterreref08_first.j2] at H
           by_cases c10 : x30_7 = true
           ·subst c10
            rw [if_pos rfl] at H
            obtain rfl := Option.some.inj H
            go_wp2
            repeat (go_quiet (fail); try go_wp2)
            go_ret
            exact ⟨by first | rfl | (simp; done) | (simp [*]; done), drs_⟩
           ·replace c10 := Bool.eq_false_iff.mpr c10
            subst c10
            rw [if_neg (show ¬ (false = true) by decide)] at H
            by_cases c11 : 0 ≤ x7_1
            ·rw [if_pos c11] at H
             have c11b0 : decide (0 ≤ x7_1) = true := decide_eq_true c11
             clear c11
             by_cases c12 : x7_1 < (l0.length : Int)
             ·rw [if_pos c12] at H
              have c12b0 : decide (x7_1 < (l0.length : Int)) = true := decide_eq_true c12
              clear c12
              by_cases c13 : 0 ≤ x8_2
              ·rw [if_pos c13] at H
               have c13b0 : decide (0 ≤ x8_2) = true := decide_eq_true c13
               clear c13
               by_cases c14 : x8_2 < ((rd_L1 l0 x7_1).length : Int)
               ·rw [if_pos c14] at H
                have c14b0 : decide (x8_2 < ((rd_L1 l0 x7_1).length : Int)) = true := decide_eq_true c14
                clear c14
                by_cases c15 : 0 ≤ a1
                ·rw [if_pos c15] at H
                 have c15b0 : decide (0 ≤ a1) = true := decide_eq_true c15
                 clear c15
                 by_cases c16 : a1 < (l0.length : Int)
                 ·rw [if_pos c16] at H
                  have c16b0 : decide (a1 < (l0.length : Int)) = true := decide_eq_true c16
                  clear c16
                  by_cases c17 : 0 ≤ a2
                  ·rw [if_pos c17] at H
                   have c17b0 : decide (0 ≤ a2) = true := decide_eq_true c17
                   clear c17
                   by_cases c18 : a2 < ((rd_L1 l0 a1).length : Int)
                   ·rw [if_pos c18] at H
                    have c18b0 : decide (a2 < ((rd_L1 l0 a1).length : Int)) = true := decide_eq_true c18
                    clear c18
                    by_cases c19 : (rdOf ByteArray.empty (rd_L1 l0 x7_1) x8_2).toList = (rdOf ByteArray.empty (rd_L1 l0 a1) a2).toList
                    ·rw [if_pos c19] at H
                     have c19b0 : ((rdOf ByteArray.empty (rd_L1 l0 x7_1) x8_2).toList == (rdOf ByteArray.empty (rd_L1 l0 a1) a2).toList) = true := beq_iff_eq.mpr c19
                     have c19b1 : ((rdOf ByteArray.empty (rd_L1 l0 x7_1) x8_2).toList != (rdOf ByteArray.empty (rd_L1 l0 a1) a2).toList) = false := bne_eq_false_iff_eq.mpr c19
                     clear c19
                     obtain rfl := Option.some.inj H
                     have p256 : 0 ≤ (x7_1 : Int) := of_decide_eq_true (by first | (with_reducible assumption) | assumption)
                     have q256 : x7_1 < (l0.length : Int) := of_decide_eq_true (by first | (with_reducible assumption) | assumption)
                     obtain ⟨ad256, A256_0, c256_0, e256, hx256_0, hl256_0, hi256_0⟩ := at_L1 HR0.out x7_1 p256 q256
                     obtain rfl : ad255 = ad256 := (by injection e256)
                     have HR256_0 := Aside0.mk hi256_0
                     have HC256_0 := Aside0.mk hl256_0
                     clear hi256_0 hl256_0
                     replace p256 := eq_true p256
                     replace q256 := eq_true q256
                     have p257 : 0 ≤ (x8_2 : Int) := of_decide_eq_true (by first | (with_reducible assumption) | assumption)
                     have q257 : x8_2 < ((rd_L1 l0 x7_1).length : Int) := of_decide_eq_true (by first | (with_reducible assumption) | assumption)
                     obtain ⟨ad257, e257, hx257_0⟩ := Kd.at_string HR256_0.out x8_2 p257 q257
                     cases e257
                     replace p257 := eq_true p257
                     replace q257 := eq_true q257
                     have p258 : 0 ≤ (a1 : Int) := of_decide_eq_true (by first | (with_reducible assumption) | assumption)
                     have q258 : a1 < (l0.length : Int) := of_decide_eq_true (by first | (with_reducible assumption) | assumption)
                     obtain ⟨ad258, A258_0, c258_0, e258, hx258_0, hl258_0, hi258_0⟩ := at_L1 HR0.out a1 p258 q258
                     obtain rfl : ad255 = ad258 := (by injection e258)
                     have HR258_0 := Aside0.mk hi258_0
                     have HC258_0 := Aside0.mk hl258_0
                     clear hi258_0 hl258_0
                     replace p258 := eq_true p258
                     replace q258 := eq_true q258
                     have p259 : 0 ≤ (a2 : Int) := of_decide_eq_true (by first | (with_reducible assumption) | assumption)
                     have q259 : a2 < ((rd_L1 l0 a1).length : Int) := of_decide_eq_true (by first | (with_reducible assumption) | assumption)
                     obtain ⟨ad259, e259, hx259_0⟩ := Kd.at_string HR258_0.out a2 p259 q259
                     cases e259
                     replace p259 := eq_true p259
                     replace q259 := eq_true q259
                     go_wp2
                     repeat (go_quiet (fail); try go_wp2)
                     go_ret
                     exact ⟨by first | rfl | (simp; done) | (simp [*]; done), drs_⟩
                    ·rw [if_neg c19] at H
                     have c19b0 : ((rdOf ByteArray.empty (rd_L1 l0 x7_1) x8_2).toList == (rdOf ByteArray.empty (rd_L1 l0 a1) a2).toList) = false := beq_eq_false_iff_ne.mpr c19
                     have c19b1 : ((rdOf ByteArray.empty (rd_L1 l0 x7_1) x8_2).toList != (rdOf ByteArray.empty (rd_L1 l0 a1) a2).toList) = true := bne_iff_ne.mpr c19
                     have H' := Aside0.mk H
                     clear H
                     have p256 : 0 ≤ (x7_1 : Int) := of_decide_eq_true (by first | (with_reducible assumption) | assumption)
                     have q256 : x7_1 < (l0.length : Int) := of_decide_eq_true (by first | (with_reducible assumption) | assumption)
                     obtain ⟨ad256, A256_0, c256_0, e256, hx256_0, hl256_0, hi256_0⟩ := at_L1 HR0.out x7_1 p256 q256
                     obtain rfl : ad255 = ad256 := (by injection e256)
                     have HR256_0 := Aside0.mk hi256_0
                     have HC256_0 := Aside0.mk hl256_0
                     clear hi256_0 hl256_0
                     replace p256 := eq_true p256
                     replace q256 := eq_true q256
                     have p257 : 0 ≤ (x8_2 : Int) := of_decide_eq_true (by first | (with_reducible assumption) | assumption)
                     have q257 : x8_2 < ((rd_L1 l0 x7_1).length : Int) := of_decide_eq_true (by first | (with_reducible assumption) | assumption)
                     obtain ⟨ad257, e257, hx257_0⟩ := Kd.at_string HR256_0.out x8_2 p257 q257
                     cases e257
                     replace p257 := eq_true p257
                     replace q257 := eq_true q257
                     have p258 : 0 ≤ (a1 : Int) := of_decide_eq_true (by first | (with_reducible assumption) | assumption)
                     have q258 : a1 < (l0.length : Int) := of_decide_eq_true (by first | (with_reducible assumption) | assumption)
                     obtain ⟨ad258, A258_0, c258_0, e258, hx258_0, hl258_0, hi258_0⟩ := at_L1 HR0.out a1 p258 q258
                     obtain rfl : ad255 = ad258 := (by injection e258)
                     have HR258_0 := Aside0.mk hi258_0
                     have HC258_0 := Aside0.mk hl258_0
                     clear hi258_0 hl258_0
                     replace p258 := eq_true p258
                     replace q258 := eq_true q258
                     have p259 : 0 ≤ (a2 : Int) := of_decide_eq_true (by first | (with_reducible assumption) | assumption)
                     have q259 : a2 < ((rd_L1 l0 a1).length : Int) := of_decide_eq_true (by first | (with_reducible assumption) | assumption)
                     obtain ⟨ad259, e259, hx259_0⟩ := Kd.at_string HR258_0.out a2 p259 q259
                     cases e259
                     replace p259 := eq_true p259
                     replace q259 := eq_true q259
                     go_wp2
                     repeat (go_quiet (fail); try go_wp2)
                     go_roundg kj7
                     case measure => have := HK1.out; have := HK2.out; have := HJ7.out; omega
                     case rel => exact ⟨(wrap64 (x8_2 + 1)), rfs_, H', ⟨by have := HK1.out; have := HK2.out; have := HJ7.out; omega⟩, drs_⟩
                   ·rw [if_neg c18] at H
                    exact absurd H (by simp)
                  ·rw [if_neg c17] at H
                   exact absurd H (by simp)
                 ·rw [if_neg c16] at H
                  exact absurd H (by simp)
                ·rw [if_neg c15] at H
                 exact absurd H (by simp)
               ·rw [if_neg c14] at H
                exact absurd H (by simp)
              ·rw [if_neg c13] at H
               exact absurd H (by simp)
             ·rw [if_neg c12] at H
              exact absurd H (by simp)
            ·rw [if_neg c11] at H
             exact absurd H (by simp)
        ·rw [if_neg c7] at H
         have c7b0 : decide (x8_2 < ((rd_L1 l0 x7_1).length : Int)) = false := decide_eq_false c7
         clear c7
         have H' := Aside0.mk H
         clear H
         have p255 : 0 ≤ (x7_1 : Int) := of_decide_eq_true (by first | (with_reducible assumption) | assumption)
         have q255 : x7_1 < (l0.length : Int) := of_decide_eq_true (by first | (with_reducible assumption) | assumption)
         obtain ⟨ad255, A255_0, c255_0, e255, hx255_0, hl255_0, hi255_0⟩ := at_L1 HR0.out x7_1 p255 q255
         cases e255
         have HR255_0 := Aside0.mk hi255_0
         have HC255_0 := Aside0.mk hl255_0
         clear hi255_0 hl255_0
         replace p255 := eq_true p255
         replace q255 := eq_true q255
         go_wp2
         repeat (go_quiet (fail); try go_wp2)
         go_roundg k2
         case measure => have := HK1.out; have := HK2.out; omega
         case rel => exact ⟨(wrap64 (x7_1 + 1)), rfs_, H', ⟨by have := HK1.out; have := HK2.out; omega⟩, drs_⟩
       ·rw [if_neg c6] at H
        exact absurd H (by simp)
      ·rw [if_neg c5] at H
       exact absurd H (by simp)
   ·rw [if_neg c4] at H
    have c4b0 : decide (x7_1 ≤ a1) = false := decide_eq_false c4
    clear c4
    obtain rfl := Option.some.inj H
    go_wp2
    repeat (go_quiet (fail); try go_wp2)
    go_ret
    exact ⟨by first | rfl | (simp; done) | (simp [*]; done), drs_⟩

end Go.Proofs.YtofdhdafabmhmaaGreatDoor.PAr
end
section
namespace Go.Proofs.YtofdhdafabmhmaaGreatDoor.PAr
open Go.RowKit Go.Proofs.YtofdhdafabmhmaaGreatDoorW.PrintWords Go.Proofs.YtofdhdafabmhmaaGreatDoorW.PrintLast Go.Proofs.YtofdhdafabmhmaaGreatDoorW.PrintMore
attribute [local go_sem] max2_int min2_int max_two min_two max_three min_three max_four min_four
open Go.Proofs.YtofdhdafabmhmaaGreatDoor.Opn Go.Proofs.YtofdhdafabmhmaaGreatDoor.Giv

/-! ### parterreref08_fills: function 52 -/
mutual
def parterreref08_fills.j1 : Nat → List (List ByteArray) → Int → Int → ByteArray → Int → Option (Bool)
 | 0, _, _, _, _, _ => none
 | k + 1, x0, x1, x2, x7, x8 => parterreref08_fills.l1 k x0 x1 x2 x7 x8 0
def parterreref08_fills.j3 : Nat → List (List ByteArray) → Int → Int → ByteArray → Int → Int → Option (Bool)
 | 0, _, _, _, _, _, _ => none
 | k + 1, x0, x1, x2, x7, x8, x9 => parterreref08_fills.l2 k x0 x1 x2 x7 x8 x9 0 0
def parterreref08_fills.l2 : Nat → List (List ByteArray) → Int → Int → ByteArray → Int → Int → Int → Int → Option (Bool)
 | 0, _, _, _, _, _, _, _, _ => none
 | k + 1, x0, x1, x2, x7, x8, x9, x10, x11 => if x11 < (x0.length : Int) then (parterreref08_fills.l3 k x0 x1 x2 x7 x8 x9 x10 x11 0) else (some (x10 == (wrap64 (x8 * x9))))
def parterreref08_fills.l3 : Nat → List (List ByteArray) → Int → Int → ByteArray → Int → Int → Int → Int → Int → Option (Bool)
 | 0, _, _, _, _, _, _, _, _, _ => none
 | k + 1, x0, x1, x2, x7, x8, x9, x10, x11, x12 => if 0 ≤ x11 then (if x11 < (x0.length : Int) then (if x12 < ((rd_L1 x0 x11).length : Int) then (if 0 ≤ x12 then (if (rdOf ByteArray.empty (rd_L1 x0 x11) x12).toList = x7.toList then (if x11 < x1 then (some false) else (if x11 ≥ (wrap64 (x1 + x9)) then (some false) else (if x12 < x2 then (some false) else (if x12 ≥ (wrap64 (x2 + x8)) then (some false) else (parterreref08_fills.l3 k x0 x1 x2 x7 x8 x9 (wrap64 (x10 + 1)) x11 (wrap64 (x12 + 1))))))) else (parterreref08_fills.l3 k x0 x1 x2 x7 x8 x9 x10 x11 (wrap64 (x12 + 1)))) else (none)) else (parterreref08_fills.l2 k x0 x1 x2 x7 x8 x9 x10 (wrap64 (x11 + 1)))) else (none)) else (none)
def parterreref08_fills.l1 : Nat → List (List ByteArray) → Int → Int → ByteArray → Int → Int → Option (Bool)
 | 0, _, _, _, _, _, _ => none
 | k + 1, x0, x1, x2, x7, x8, x9 => if (wrap64 (x1 + x9)) < (x0.length : Int) then (if 0 ≤ (wrap64 (x1 + x9)) then (if 0 ≤ x2 then (if x2 < ((rd_L1 x0 (wrap64 (x1 + x9))).length : Int) then (if (rdOf ByteArray.empty (rd_L1 x0 (wrap64 (x1 + x9))) x2).toList = x7.toList then (parterreref08_fills.l1 k x0 x1 x2 x7 x8 (wrap64 (x9 + 1))) else (parterreref08_fills.j3 k x0 x1 x2 x7 x8 x9)) else (none)) else (none)) else (none)) else (parterreref08_fills.j3 k x0 x1 x2 x7 x8 x9)
def parterreref08_fills.l0 : Nat → List (List ByteArray) → Int → Int → ByteArray → Int → Option (Bool)
 | 0, _, _, _, _, _ => none
 | k + 1, x0, x1, x2, x7, x8 => if 0 ≤ x1 then (if x1 < (x0.length : Int) then (if (wrap64 (x2 + x8)) < ((rd_L1 x0 x1).length : Int) then (if 0 ≤ (wrap64 (x2 + x8)) then (if (rdOf ByteArray.empty (rd_L1 x0 x1) (wrap64 (x2 + x8))).toList = x7.toList then (parterreref08_fills.l0 k x0 x1 x2 x7 (wrap64 (x8 + 1))) else (parterreref08_fills.j1 k x0 x1 x2 x7 x8)) else (none)) else (parterreref08_fills.j1 k x0 x1 x2 x7 x8)) else (none)) else (none)
end
def parterreref08_fills.f (k : Nat) (l0 : List (List ByteArray)) (a1 : Int) (a2 : Int) : Option (Bool) := if 0 ≤ a1 then (if a1 < (l0.length : Int) then (if 0 ≤ a2 then (if a2 < ((rd_L1 l0 a1).length : Int) then (parterreref08_fills.l0 k l0 a1 a2 (rdOf ByteArray.empty (rd_L1 l0 a1) a2) 0) else (none)) else (none)) else (none)) else (none)
theorem parterreref08_fills.mono_l : ∀ k, (∀ y0 y1 y2 y3 y4, LeO (parterreref08_fills.j1 k y0 y1 y2 y3 y4) (parterreref08_fills.j1 (k + 1) y0 y1 y2 y3 y4)) ∧ (∀ y0 y1 y2 y3 y4 y5, LeO (parterreref08_fills.j3 k y0 y1 y2 y3 y4 y5) (parterreref08_fills.j3 (k + 1) y0 y1 y2 y3 y4 y5)) ∧ (∀ y0 y1 y2 y3 y4 y5 y6 y7, LeO (parterreref08_fills.l2 k y0 y1 y2 y3 y4 y5 y6 y7) (parterreref08_fills.l2 (k + 1) y0 y1 y2 y3 y4 y5 y6 y7)) ∧ (∀ y0 y1 y2 y3 y4 y5 y6 y7 y8, LeO (parterreref08_fills.l3 k y0 y1 y2 y3 y4 y5 y6 y7 y8) (parterreref08_fills.l3 (k + 1) y0 y1 y2 y3 y4 y5 y6 y7 y8)) ∧ (∀ y0 y1 y2 y3 y4 y5, LeO (parterreref08_fills.l1 k y0 y1 y2 y3 y4 y5) (parterreref08_fills.l1 (k + 1) y0 y1 y2 y3 y4 y5)) ∧ (∀ y0 y1 y2 y3 y4, LeO (parterreref08_fills.l0 k y0 y1 y2 y3 y4) (parterreref08_fills.l0 (k + 1) y0 y1 y2 y3 y4))
 | 0 => ⟨fun _ _ _ _ _ r h => by simp [parterreref08_fills.j1] at h, fun _ _ _ _ _ _ r h => by simp [parterreref08_fills.j3] at h, fun _ _ _ _ _ _ _ _ r h => by simp [parterreref08_fills.l2] at h, fun _ _ _ _ _ _ _ _ _ r h => by simp [parterreref08_fills.l3] at h, fun _ _ _ _ _ _ r h => by simp [parterreref08_fills.l1] at h, fun _ _ _ _ _ r h => by simp [parterreref08_fills.l0] at h⟩
 | k + 1 => by
  obtain ⟨ih0, ih1, ih2, ih3, ih4, ih5⟩ := parterreref08_fills.mono_l k
  refine ⟨?_, ?_, ?_, ?_, ?_, ?_⟩
  ·intro y0 y1 y2 y3 y4
   unfold parterreref08_fills.j1
   repeat' first
   | (with_reducible exact ih0 _ _ _ _ _)
   | (with_reducible exact ih1 _ _ _ _ _ _)
   | (with_reducible exact ih2 _ _ _ _ _ _ _ _)
   | (with_reducible exact ih3 _ _ _ _ _ _ _ _ _)
   | (with_reducible exact ih4 _ _ _ _ _ _)
   | (with_reducible exact ih5 _ _ _ _ _)
   | (with_reducible exact LeO.refl _)
   | (with_reducible exact LeO.none _)
   | (with_reducible refine LeO.ite ?_ ?_)
   | (with_reducible refine LeO.bind ?_ (fun _ => ?_))
  ·intro y0 y1 y2 y3 y4 y5
   unfold parterreref08_fills.j3
   repeat' first
   | (with_reducible exact ih0 _ _ _ _ _)
   | (with_reducible exact ih1 _ _ _ _ _ _)
   | (with_reducible exact ih2 _ _ _ _ _ _ _ _)
   | (with_reducible exact ih3 _ _ _ _ _ _ _ _ _)
   | (with_reducible exact ih4 _ _ _ _ _ _)
   | (with_reducible exact ih5 _ _ _ _ _)
   | (with_reducible exact LeO.refl _)
   | (with_reducible exact LeO.none _)
   | (with_reducible refine LeO.ite ?_ ?_)
   | (with_reducible refine LeO.bind ?_ (fun _ => ?_))
  ·intro y0 y1 y2 y3 y4 y5 y6 y7
   unfold parterreref08_fills.l2
   repeat' first
   | (with_reducible exact ih0 _ _ _ _ _)
   | (with_reducible exact ih1 _ _ _ _ _ _)
   | (with_reducible exact ih2 _ _ _ _ _ _ _ _)
   | (with_reducible exact ih3 _ _ _ _ _ _ _ _ _)
   | (with_reducible exact ih4 _ _ _ _ _ _)
   | (with_reducible exact ih5 _ _ _ _ _)
   | (with_reducible exact LeO.refl _)
   | (with_reducible exact LeO.none _)
   | (with_reducible refine LeO.ite ?_ ?_)
   | (with_reducible refine LeO.bind ?_ (fun _ => ?_))
  ·intro y0 y1 y2 y3 y4 y5 y6 y7 y8
   unfold parterreref08_fills.l3
   repeat' first
   | (with_reducible exact ih0 _ _ _ _ _)
   | (with_reducible exact ih1 _ _ _ _ _ _)
   | (with_reducible exact ih2 _ _ _ _ _ _ _ _)
   | (with_reducible exact ih3 _ _ _ _ _ _ _ _ _)
   | (with_reducible exact ih4 _ _ _ _ _ _)
   | (with_reducible exact ih5 _ _ _ _ _)
   | (with_reducible exact LeO.refl _)
   | (with_reducible exact LeO.none _)
   | (with_reducible refine LeO.ite ?_ ?_)
   | (with_reducible refine LeO.bind ?_ (fun _ => ?_))
  ·intro y0 y1 y2 y3 y4 y5
   unfold parterreref08_fills.l1
   repeat' first
   | (with_reducible exact ih0 _ _ _ _ _)
   | (with_reducible exact ih1 _ _ _ _ _ _)
   | (with_reducible exact ih2 _ _ _ _ _ _ _ _)
   | (with_reducible exact ih3 _ _ _ _ _ _ _ _ _)
   | (with_reducible exact ih4 _ _ _ _ _ _)
   | (with_reducible exact ih5 _ _ _ _ _)
   | (with_reducible exact LeO.refl _)
   | (with_reducible exact LeO.none _)
   | (with_reducible refine LeO.ite ?_ ?_)
   | (with_reducible refine LeO.bind ?_ (fun _ => ?_))
  ·intro y0 y1 y2 y3 y4
   unfold parterreref08_fills.l0
   repeat' first
   | (with_reducible exact ih0 _ _ _ _ _)
   | (with_reducible exact ih1 _ _ _ _ _ _)
   | (with_reducible exact ih2 _ _ _ _ _ _ _ _)
   | (with_reducible exact ih3 _ _ _ _ _ _ _ _ _)
   | (with_reducible exact ih4 _ _ _ _ _ _)
   | (with_reducible exact ih5 _ _ _ _ _)
   | (with_reducible exact LeO.refl _)
   | (with_reducible exact LeO.none _)
   | (with_reducible refine LeO.ite ?_ ?_)
   | (with_reducible refine LeO.bind ?_ (fun _ => ?_))
theorem parterreref08_fills.mono : ∀ a0 a1 a2 k, LeO (parterreref08_fills.f k a0 a1 a2) (parterreref08_fills.f (k + 1) a0 a1 a2) := by
 intro a0 a1 a2 k
 obtain ⟨ih0, ih1, ih2, ih3, ih4, ih5⟩ := parterreref08_fills.mono_l k
 unfold parterreref08_fills.f
 repeat' first
   | (with_reducible exact ih0 _ _ _ _ _)
   | (with_reducible exact ih1 _ _ _ _ _ _)
   | (with_reducible exact ih2 _ _ _ _ _ _ _ _)
   | (with_reducible exact ih3 _ _ _ _ _ _ _ _ _)
   | (with_reducible exact ih4 _ _ _ _ _ _)
   | (with_reducible exact ih5 _ _ _ _ _)
   | (with_reducible exact LeO.refl _)
   | (with_reducible exact LeO.none _)
   | (with_reducible refine LeO.ite ?_ ?_)
   | (with_reducible refine LeO.bind ?_ (fun _ => ?_))
set_option maxHeartbeats 8000000 in
set_option maxRecDepth 100000 in
theorem parterreref08_fills.calls (k : Nat) (A0 : Option Addr) (c0 : Nat) (l0 : List (List ByteArray)) (a1 : Int) (a2 : Int) (r : Bool) (w : World) (hr0 : Kd.C (Kd.slice 9 Kd.string) w A0 l0.length l0) (hc0 : l0.length ≤ c0) (h : parterreref08_fills.f k l0 a1 a2 = some r) :
  Calls Tryz.prog 52 #[.slice A0 l0.length c0, .int .i64 a1, .int .i64 a2] w fun e w' => e = .returned (.bool r) ∧ Drawn0 w w' := by
 have HR0 := Aside0.mk hr0
 have HC0 := Aside0.mk hc0
 clear hr0 hc0
 have H : (if 0 ≤ a1 then (if a1 < (l0.length : Int) then (if 0 ≤ a2 then (if a2 < ((rd_L1 l0 a1).length : Int) then (parterreref08_fills.l0 k l0 a1 a2 (rdOf ByteArray.empty (rd_L1 l0 a1) a2) 0) else (none)) else (none)) else (none)) else (none)) = some r := h
 clear h
 by_cases c4 : 0 ≤ a1
 ·rw [if_pos c4] at H
  have c4b0 : decide (0 ≤ a1) = true := decide_eq_true c4
  clear c4
  by_cases c5 : a1 < (l0.length : Int)
  ·rw [if_pos c5] at H
   have c5b0 : decide (a1 < (l0.length : Int)) = true := decide_eq_true c5
   clear c5
   by_cases c6 : 0 ≤ a2
   ·rw [if_pos c6] at H
    have c6b0 : decide (0 ≤ a2) = true := decide_eq_true c6
    clear c6
    by_cases c7 : a2 < ((rd_L1 l0 a1).length : Int)
    ·rw [if_pos c7] at H
     have c7b0 : decide (a2 < ((rd_L1 l0 a1).length : Int)) = true := decide_eq_true c7
     clear c7
     have HC8 := Aside0.mk H
     clear H
     have p260 : 0 ≤ (a1 : Int) := of_decide_eq_true (by first | (with_reducible assumption) | assumption)
     have q260 : a1 < (l0.length : Int) := of_decide_eq_true (by first | (with_reducible assumption) | assumption)
     obtain ⟨ad260, A260_0, c260_0, e260, hx260_0, hl260_0, hi260_0⟩ := at_L1 HR0.out a1 p260 q260
     cases e260
     have HR260_0 := Aside0.mk hi260_0
     have HC260_0 := Aside0.mk hl260_0
     clear hi260_0 hl260_0
     replace p260 := eq_true p260
     replace q260 := eq_true q260
     have p261 : 0 ≤ (a2 : Int) := of_decide_eq_true (by first | (with_reducible assumption) | assumption)
     have q261 : a2 < ((rd_L1 l0 a1).length : Int) := of_decide_eq_true (by first | (with_reducible assumption) | assumption)
     obtain ⟨ad261, e261, hx261_0⟩ := Kd.at_string HR260_0.out a2 p261 q261
     cases e261
     replace p261 := eq_true p261
     replace q261 := eq_true q261
     go_enter Tryz.func52, Tryz.ntmps52
     go_upto_block 0 with (fail)
     go_cut [8] (fun v8 wc => ∃ (kq : Nat) (x8_7 : Int), v8 = .int .i64 x8_7 ∧ Aside0 (parterreref08_fills.j1 kq l0 a1 a2 (rdOf ByteArray.empty (rd_L1 l0 a1) a2) x8_7 = some r) ∧ Aside0 (kq ≤ k) ∧ Drawn0 w wc)
     case first =>
      have H := HC8.out
      clear HC8
      have H' := Aside0.mk H
      clear H
      go_wp2
      go_loopg [8] k (fun kq v8 w' => ∃ (x8_1 : Int), v8 = .int .i64 x8_1 ∧ Aside0 (parterreref08_fills.l0 kq l0 a1 a2 (rdOf ByteArray.empty (rd_L1 l0 a1) a2) x8_1 = some r) ∧ Aside0 (kq ≤ k) ∧ Drawn0 w w')
      case atStart => exact ⟨(0), rfs_, H', ⟨Nat.le_refl _⟩, drs_⟩
      case round =>
       clear H'
       try clear c4b0
       try clear c5b0
       try clear c6b0
       try clear c7b0
       try clear hx260_0
       try clear hx261_0
       try clear p260
       try clear p261
       try clear q260
       try clear q261
       obtain ⟨x8_1, rfl, HA, HK1, ⟨m1, rfl⟩⟩ := hrel
       cases gk with
       | zero => exact absurd HA.out (by simp [parterreref08_fills.l0])
       | succ k1 =>
        have H := HA.out
        clear HA
        simp only [parterreref08_fills.l0] at H
        by_cases c9 : 0 ≤ a1
        ·rw [if_pos c9] at H
         have c9b0 : decide (0 ≤ a1) = true := decide_eq_true c9
         clear c9
         (first | rw [c9b0] | (simp only [i64_w, i32_w]; rw [c9b0]) | skip)
         by_cases c10 : a1 < (l0.length : Int)
         ·rw [if_pos c10] at H
          have c10b0 : decide (a1 < (l0.length : Int)) = true := decide_eq_true c10
          clear c10
          by_cases c11 : (wrap64 (a2 + x8_1)) < ((rd_L1 l0 a1).length : Int)
          ·rw [if_pos c11] at H
           have c11b0 : decide ((wrap64 (a2 + x8_1)) < ((rd_L1 l0 a1).length : Int)) = true := decide_eq_true c11
           clear c11
           obtain ⟨ji12, hji12⟩ : ∃ j_ : Int, (wrap64 (a2 + x8_1)) = j_ := ⟨_, rfl⟩
           replace H : (if 0 ≤ (ji12) then (if (rdOf ByteArray.empty (rd_L1 l0 a1) (ji12)).toList = (rdOf ByteArray.empty (rd_L1 l0 a1) a2).toList then (parterreref08_fills.l0 k1 l0 a1 a2 (rdOf ByteArray.empty (rd_L1 l0 a1) a2) (wrap64 (x8_1 + 1))) else (parterreref08_fills.j1 k1 l0 a1 a2 (rdOf ByteArray.empty (rd_L1 l0 a1) a2) x8_1)) else (none)) = some r := by first | (rw [hji12] at H; exact H) | (simp only [hji12] at H ⊢; exact H)
           (try rw [hji12] at c11b0)
           have hji12w : (IntKind.i64.wrap (a2 + x8_1)) = ji12 := (i64_w _).trans hji12
           by_cases c13 : 0 ≤ (ji12)
           ·rw [if_pos c13] at H
            have c13b0 : decide (0 ≤ (ji12)) = true := decide_eq_true c13
            clear c13
            by_cases c14 : (rdOf ByteArray.empty (rd_L1 l0 a1) (ji12)).toList = (rdOf ByteArray.empty (rd_L1 l0 a1) a2).toList
            ·rw [if_pos c14] at H
             have c14b0 : ((rdOf ByteArray.empty (rd_L1 l0 a1) (ji12)).toList == (rdOf ByteArray.empty (rd_L1 l0 a1) a2).toList) = true := beq_iff_eq.mpr c14
             have c14b1 : ((rdOf ByteArray.empty (rd_L1 l0 a1) (ji12)).toList != (rdOf ByteArray.empty (rd_L1 l0 a1) a2).toList) = false := bne_eq_false_iff_eq.mpr c14
             clear c14
             have H' := Aside0.mk H
             clear H
             have p262 : 0 ≤ (a1 : Int) := of_decide_eq_true (by first | (with_reducible assumption) | assumption)
             have q262 : a1 < (l0.length : Int) := of_decide_eq_true (by first | (with_reducible assumption) | assumption)
             obtain ⟨ad262, A262_0, c262_0, e262, hx262_0, hl262_0, hi262_0⟩ := at_L1 HR0.out a1 p262 q262
             obtain rfl : ad260 = ad262 := (by injection e262)
             have HR262_0 := Aside0.mk hi262_0
             have HC262_0 := Aside0.mk hl262_0
             clear hi262_0 hl262_0
             replace p262 := eq_true p262
             replace q262 := eq_true q262
             have p263 : 0 ≤ (a1 : Int) := of_decide_eq_true (by first | (with_reducible assumption) | assumption)
             have q263 : a1 < (l0.length : Int) := of_decide_eq_true (by first | (with_reducible assumption) | assumption)
             obtain ⟨ad263, A263_0, c263_0, e263, hx263_0, hl263_0, hi263_0⟩ := at_L1 HR0.out a1 p263 q263
             obtain rfl : ad260 = ad263 := (by injection e263)
             have HR263_0 := Aside0.mk hi263_0
             have HC263_0 := Aside0.mk hl263_0
             clear hi263_0 hl263_0
             replace p263 := eq_true p263
             replace q263 := eq_true q263
             have ea_ := Option.some.inj (hx262_0.symm.trans hx263_0)
             injection ea_ with ea_ en_ ec_
             subst ea_
             subst ec_
             clear en_
             have p264 : 0 ≤ ((ji12) : Int) := of_decide_eq_true (by first | (with_reducible assumption) | assumption)
             have q264 : (ji12) < ((rd_L1 l0 a1).length : Int) := of_decide_eq_true (by first | (with_reducible assumption) | assumption)
             obtain ⟨ad264, e264, hx264_0⟩ := Kd.at_string HR263_0.out (ji12) p264 q264
             cases e264
             replace p264 := eq_true p264
             replace q264 := eq_true q264
             go_wp2
             go_roundg k1
             case measure => have := HK1.out; omega
             case rel => exact ⟨(wrap64 (x8_1 + 1)), rfs_, H', ⟨by have := HK1.out; omega⟩, drs_⟩
            ·rw [if_neg c14] at H
             have c14b0 : ((rdOf ByteArray.empty (rd_L1 l0 a1) (ji12)).toList == (rdOf ByteArray.empty (rd_L1 l0 a1) a2).toList) = false := beq_eq_false_iff_ne.mpr c14
             have c14b1 : ((rdOf ByteArray.empty (rd_L1 l0 a1) (ji12)).toList != (rdOf ByteArray.empty (rd_L1 l0 a1) a2).toList) = true := bne_iff_ne.mpr c14
             have H' := Aside0.mk H
             clear H
             have p262 : 0 ≤ (a1 : Int) := of_decide_eq_true (by first | (with_reducible assumption) | assumption)
             have q262 : a1 < (l0.length : Int) := of_decide_eq_true (by first | (with_reducible assumption) | assumption)
             obtain ⟨ad262, A262_0, c262_0, e262, hx262_0, hl262_0, hi262_0⟩ := at_L1 HR0.out a1 p262 q262
             obtain rfl : ad260 = ad262 := (by injection e262)
             have HR262_0 := Aside0.mk hi262_0
             have HC262_0 := Aside0.mk hl262_0
             clear hi262_0 hl262_0
             replace p262 := eq_true p262
             replace q262 := eq_true q262
             have p263 : 0 ≤ (a1 : Int) := of_decide_eq_true (by first | (with_reducible assumption) | assumption)
             have q263 : a1 < (l0.length : Int) := of_decide_eq_true (by first | (with_reducible assumption) | assumption)
             obtain ⟨ad263, A263_0, c263_0, e263, hx263_0, hl263_0, hi263_0⟩ := at_L1 HR0.out a1 p263 q263
             obtain rfl : ad260 = ad263 := (by injection e263)
             have HR263_0 := Aside0.mk hi263_0
             have HC263_0 := Aside0.mk hl263_0
             clear hi263_0 hl263_0
             replace p263 := eq_true p263
             replace q263 := eq_true q263
             have ea_ := Option.some.inj (hx262_0.symm.trans hx263_0)
             injection ea_ with ea_ en_ ec_
             subst ea_
             subst ec_
             clear en_
             have p264 : 0 ≤ ((ji12) : Int) := of_decide_eq_true (by first | (with_reducible assumption) | assumption)
             have q264 : (ji12) < ((rd_L1 l0 a1).length : Int) := of_decide_eq_true (by first | (with_reducible assumption) | assumption)
             obtain ⟨ad264, e264, hx264_0⟩ := Kd.at_string HR263_0.out (ji12) p264 q264
             cases e264
             replace p264 := eq_true p264
             replace q264 := eq_true q264
             go_wp2
             go_meet
             case rel => exact ⟨_, (x8_1), rfs_, H', ⟨by have := HK1.out; first | omega | exact Nat.le_refl _⟩, drs_⟩
           ·rw [if_neg c13] at H
            exact absurd H (by simp)
          ·rw [if_neg c11] at H
           have c11b0 : decide ((wrap64 (a2 + x8_1)) < ((rd_L1 l0 a1).length : Int)) = false := decide_eq_false c11
           clear c11
           have H' := Aside0.mk H
           clear H
           have p262 : 0 ≤ (a1 : Int) := of_decide_eq_true (by first | (with_reducible assumption) | assumption)
           have q262 : a1 < (l0.length : Int) := of_decide_eq_true (by first | (with_reducible assumption) | assumption)
           obtain ⟨ad262, A262_0, c262_0, e262, hx262_0, hl262_0, hi262_0⟩ := at_L1 HR0.out a1 p262 q262
           obtain rfl : ad260 = ad262 := (by injection e262)
           have HR262_0 := Aside0.mk hi262_0
           have HC262_0 := Aside0.mk hl262_0
           clear hi262_0 hl262_0
           replace p262 := eq_true p262
           replace q262 := eq_true q262
           go_wp2
           go_meet
           case rel => exact ⟨_, (x8_1), rfs_, H', ⟨by have := HK1.out; first | omega | exact Nat.le_refl _⟩, drs_⟩
         ·rw [if_neg c10] at H
          exact absurd H (by simp)
        ·rw [if_neg c9] at H
         exact absurd H (by simp)
     case rest =>
      clear HC8
      try clear c4b0
      try clear c5b0
      try clear c6b0
      try clear c7b0
      try clear hx260_0
      try clear hx261_0
      try clear p260
      try clear p261
      try clear q260
      try clear q261
      obtain ⟨kq, x8_7, rfl, HA, HJ7, ⟨mc7, rfl⟩⟩ := hcut
      cases kq with
      | zero => exact absurd HA.out (by simp [parterreref08_fills.j1])
      | succ kj7 =>
       have H := HA.out
       clear HA
       simp only [parterreref08_fills.j1] at H
       have HC15 := Aside0.mk H
       clear H
       go_upto_block 2 with (fail)
       go_cut [9] (fun v9 wc => ∃ (kq : Nat) (x9_14 : Int), v9 = .int .i64 x9_14 ∧ Aside0 (parterreref08_fills.j3 kq l0 a1 a2 (rdOf ByteArray.empty (rd_L1 l0 a1) a2) x8_7 x9_14 = some r) ∧ Aside0 (kq ≤ kj7) ∧ Drawn0 w wc)
       case first =>
        have H := HC15.out
        clear HC15
        have H' := Aside0.mk H
        clear H
        go_wp2
        go_loopg [9] kj7 (fun kq v9 w' => ∃ (x9_2 : Int), v9 = .int .i64 x9_2 ∧ Aside0 (parterreref08_fills.l1 kq l0 a1 a2 (rdOf ByteArray.empty (rd_L1 l0 a1) a2) x8_7 x9_2 = some r) ∧ Aside0 (kq ≤ kj7) ∧ Drawn0 w w')
        case atStart => exact ⟨(0), rfs_, H', ⟨Nat.le_refl _⟩, drs_⟩
        case round =>
         clear H'
         obtain ⟨x9_2, rfl, HA, HK2, ⟨m2, rfl⟩⟩ := hrel
         cases gk with
         | zero => exact absurd HA.out (by simp [parterreref08_fills.l1])
         | succ k2 =>
          have H := HA.out
          clear HA
          simp only [parterreref08_fills.l1] at H
          by_cases c16 : (wrap64 (a1 + x9_2)) < (l0.length : Int)
          ·rw [if_pos c16] at H
           have c16b0 : decide ((wrap64 (a1 + x9_2)) < (l0.length : Int)) = true := decide_eq_true c16
           clear c16
           (first | rw [c16b0] | (simp only [i64_w, i32_w]; rw [c16b0]) | skip)
           obtain ⟨ji17, hji17⟩ : ∃ j_ : Int, (wrap64 (a1 + x9_2)) = j_ := ⟨_, rfl⟩
           replace H : (if 0 ≤ (ji17) then (if 0 ≤ a2 then (if a2 < ((rd_L1 l0 (ji17)).length : Int) then (if (rdOf ByteArray.empty (rd_L1 l0 (ji17)) a2).toList = (rdOf ByteArray.empty (rd_L1 l0 a1) a2).toList then (parterreref08_fills.l1 k2 l0 a1 a2 (rdOf ByteArray.empty (rd_L1 l0 a1) a2) x8_7 (wrap64 (x9_2 + 1))) else (parterreref08_fills.j3 k2 l0 a1 a2 (rdOf ByteArray.empty (rd_L1 l0 a1) a2) x8_7 x9_2)) else (none)) else (none)) else (none)) = some r := by first | (rw [hji17] at H; exact H) | (simp only [hji17] at H ⊢; exact H)
           (try rw [hji17] at c16b0)
           have hji17w : (IntKind.i64.wrap (a1 + x9_2)) = ji17 := (i64_w _).trans hji17
           by_cases c18 : 0 ≤ (ji17)
           ·rw [if_pos c18] at H
            have c18b0 : decide (0 ≤ (ji17)) = true := decide_eq_true c18
            clear c18
            by_cases c19 : 0 ≤ a2
            ·rw [if_pos c19] at H
             have c19b0 : decide (0 ≤ a2) = true := decide_eq_true c19
             clear c19
             by_cases c20 : a2 < ((rd_L1 l0 (ji17)).length : Int)
             ·rw [if_pos c20] at H
              have c20b0 : decide (a2 < ((rd_L1 l0 (ji17)).length : Int)) = true := decide_eq_true c20
              clear c20
              by_cases c21 : (rdOf ByteArray.empty (rd_L1 l0 (ji17)) a2).toList = (rdOf ByteArray.empty (rd_L1 l0 a1) a2).toList
              ·rw [if_pos c21] at H
               have c21b0 : ((rdOf ByteArray.empty (rd_L1 l0 (ji17)) a2).toList == (rdOf ByteArray.empty (rd_L1 l0 a1) a2).toList) = true := beq_iff_eq.mpr c21
               have c21b1 : ((rdOf ByteArray.empty (rd_L1 l0 (ji17)) a2).toList != (rdOf ByteArray.empty (rd_L1 l0 a1) a2).toList) = false := bne_eq_false_iff_eq.mpr c21
               clear c21
               have H' := Aside0.mk H
               clear H
               have p265 : 0 ≤ ((ji17) : Int) := of_decide_eq_true (by first | (with_reducible assumption) | assumption)
               have q265 : (ji17) < (l0.length : Int) := of_decide_eq_true (by first | (with_reducible assumption) | assumption)
               obtain ⟨ad265, A265_0, c265_0, e265, hx265_0, hl265_0, hi265_0⟩ := at_L1 HR0.out (ji17) p265 q265
               obtain rfl : ad260 = ad265 := (by injection e265)
               have HR265_0 := Aside0.mk hi265_0
               have HC265_0 := Aside0.mk hl265_0
               clear hi265_0 hl265_0
               replace p265 := eq_true p265
               replace q265 := eq_true q265
               have p266 : 0 ≤ (a2 : Int) := of_decide_eq_true (by first | (with_reducible assumption) | assumption)
               have q266 : a2 < ((rd_L1 l0 (ji17)).length : Int) := of_decide_eq_true (by first | (with_reducible assumption) | assumption)
               obtain ⟨ad266, e266, hx266_0⟩ := Kd.at_string HR265_0.out a2 p266 q266
               cases e266
               replace p266 := eq_true p266
               replace q266 := eq_true q266
               go_wp2
               go_roundg k2
               case measure => have := HJ7.out; have := HK2.out; omega
               case rel => exact ⟨(wrap64 (x9_2 + 1)), rfs_, H', ⟨by have := HJ7.out; have := HK2.out; omega⟩, drs_⟩
              ·rw [if_neg c21] at H
               have c21b0 : ((rdOf ByteArray.empty (rd_L1 l0 (ji17)) a2).toList == (rdOf ByteArray.empty (rd_L1 l0 a1) a2).toList) = false := beq_eq_false_iff_ne.mpr c21
               have c21b1 : ((rdOf ByteArray.empty (rd_L1 l0 (ji17)) a2).toList != (rdOf ByteArray.empty (rd_L1 l0 a1) a2).toList) = true := bne_iff_ne.mpr c21
               have H' := Aside0.mk H
               clear H
               have p265 : 0 ≤ ((ji17) : Int) := of_decide_eq_true (by first | (with_reducible assumption) | assumption)
               have q265 : (ji17) < (l0.length : Int) := of_decide_eq_true (by first | (with_reducible assumption) | assumption)
               obtain ⟨ad265, A265_0, c265_0, e265, hx265_0, hl265_0, hi265_0⟩ := at_L1 HR0.out (ji17) p265 q265
               obtain rfl : ad260 = ad265 := (by injection e265)
               have HR265_0 := Aside0.mk hi265_0
               have HC265_0 := Aside0.mk hl265_0
               clear hi265_0 hl265_0
               replace p265 := eq_true p265
               replace q265 := eq_true q265
               have p266 : 0 ≤ (a2 : Int) := of_decide_eq_true (by first | (with_reducible assumption) | assumption)
               have q266 : a2 < ((rd_L1 l0 (ji17)).length : Int) := of_decide_eq_true (by first | (with_reducible assumption) | assumption)
               obtain ⟨ad266, e266, hx266_0⟩ := Kd.at_string HR265_0.out a2 p266 q266
               cases e266
               replace p266 := eq_true p266
               replace q266 := eq_true q266
               go_wp2
               go_meet
               case rel => exact ⟨_, (x9_2), rfs_, H', ⟨by have := HJ7.out; have := HK2.out; first | omega | exact Nat.le_refl _⟩, drs_⟩
             ·rw [if_neg c20] at H
              exact absurd H (by simp)
            ·rw [if_neg c19] at H
             exact absurd H (by simp)
           ·rw [if_neg c18] at H
            exact absurd H (by simp)
          ·rw [if_neg c16] at H
           have c16b0 : decide ((wrap64 (a1 + x9_2)) < (l0.length : Int)) = false := decide_eq_false c16
           clear c16
           (first | rw [c16b0] | (simp only [i64_w, i32_w]; rw [c16b0]) | skip)
           have H' := Aside0.mk H
           clear H
           go_wp2
           go_meet
           case rel => exact ⟨_, (x9_2), rfs_, H', ⟨by have := HJ7.out; have := HK2.out; first | omega | exact Nat.le_refl _⟩, drs_⟩
       case rest =>
        clear HC15
        obtain ⟨kq, x9_14, rfl, HA, HJ14, ⟨mc14, rfl⟩⟩ := hcut
        cases kq with
        | zero => exact absurd HA.out (by simp [parterreref08_fills.j3])
        | succ kj14 =>
         have H := HA.out
         clear HA
         simp only [parterreref08_fills.j3] at H
         have H' := Aside0.mk H
         clear H
         go_wp2
         go_loopg [10, 11] kj14 (fun kq v10 v11 w' => ∃ (x10_3 : Int) (x11_3 : Int), v10 = .int .i64 x10_3 ∧ v11 = .int .i64 x11_3 ∧ Aside0 (parterreref08_fills.l2 kq l0 a1 a2 (rdOf ByteArray.empty (rd_L1 l0 a1) a2) x8_7 x9_14 x10_3 x11_3 = some r) ∧ Aside0 (kq ≤ kj14) ∧ Drawn0 w w')
         case atStart => exact ⟨(0), (0), rfs_, rfs_, H', ⟨Nat.le_refl _⟩, drs_⟩
         case round =>
          clear H'
          obtain ⟨x10_3, x11_3, rfl, rfl, HA, HK3, ⟨m3, rfl⟩⟩ := hrel
          cases gk with
          | zero => exact absurd HA.out (by simp [parterreref08_fills.l2])
          | succ k3 =>
           have H := HA.out
           clear HA
           simp only [parterreref08_fills.l2] at H
           by_cases c22 : x11_3 < (l0.length : Int)
           ·rw [if_pos c22] at H
            have c22b0 : decide (x11_3 < (l0.length : Int)) = true := decide_eq_true c22
            clear c22
            have H' := Aside0.mk H
            clear H
            go_wp2
            go_loopg [10, 12] k3 (fun kq v10 v12 w' => ∃ (x10_4 : Int) (x12_4 : Int), v10 = .int .i64 x10_4 ∧ v12 = .int .i64 x12_4 ∧ Aside0 (parterreref08_fills.l3 kq l0 a1 a2 (rdOf ByteArray.empty (rd_L1 l0 a1) a2) x8_7 x9_14 x10_4 x11_3 x12_4 = some r) ∧ Aside0 (kq ≤ k3) ∧ Drawn0 w w')
            case atStart => exact ⟨(x10_3), (0), rfs_, rfs_, H', ⟨Nat.le_refl _⟩, drs_⟩
            case round =>
             clear H'
             try clear c22b0
             obtain ⟨x10_4, x12_4, rfl, rfl, HA, HK4, ⟨m4, rfl⟩⟩ := hrel
             cases gk with
             | zero => exact absurd HA.out (by simp [parterreref08_fills.l3])
             | succ k4 =>
              have H := HA.out
              clear HA
              simp only [parterreref08_fills.l3] at H
              by_cases c23 : 0 ≤ x11_3
              ·rw [if_pos c23] at H
               have c23b0 : decide (0 ≤ x11_3) = true := decide_eq_true c23
               clear c23
               by_cases c24 : x11_3 < (l0.length : Int)
               ·rw [if_pos c24] at H
                have c24b0 : decide (x11_3 < (l0.length : Int)) = true := decide_eq_true c24
                clear c24
                by_cases c25 : x12_4 < ((rd_L1 l0 x11_3).length : Int)
                ·rw [if_pos c25] at H
                 have c25b0 : decide (x12_4 < ((rd_L1 l0 x11_3).length : Int)) = true := decide_eq_true c25
                 clear c25
                 by_cases c26 : 0 ≤ x12_4
                 ·rw [if_pos c26] at H
                  have c26b0 : decide (0 ≤ x12_4) = true := decide_eq_true c26
                  clear c26
                  by_cases c27 : (rdOf ByteArray.empty (rd_L1 l0 x11_3) x12_4).toList = (rdOf ByteArray.empty (rd_L1 l0 a1) a2).toList
                  ·rw [if_pos c27] at H
                   have c27b0 : ((rdOf ByteArray.empty (rd_L1 l0 x11_3) x12_4).toList == (rdOf ByteArray.empty (rd_L1 l0 a1) a2).toList) = true := beq_iff_eq.mpr c27
                   have c27b1 : ((rdOf ByteArray.empty (rd_L1 l0 x11_3) x12_4).toList != (rdOf ByteArray.empty (rd_L1 l0 a1) a2).toList) = false := bne_eq_false_iff_eq.mpr c27
                   clear c27
                   by_cases c28 : x11_3 < a1
                   ·rw [if_pos c28] at H
                    have c28b0 : decide (x11_3 < a1) = true := decide_eq_true c28
                    clear c28
                    obtain rfl := Option.some.inj H
                    have p267 : 0 ≤ (x11_3 : Int) := of_decide_eq_true (by first | (with_reducible assumption) | assumption)
                    have q267 : x11_3 < (l0.length : Int) := of_decide_eq_true (by first | (with_reducible assumption) | assumption)
                    obtain ⟨ad267, A267_0, c267_0, e267, hx267_0, hl267_0, hi267_0⟩ := at_L1 HR0.out x11_3 p267 q267
                    obtain rfl : ad260 = ad267 := (by injection e267)
                    have HR267_0 := Aside0.mk hi267_0
                    have HC267_0 := Aside0.mk hl267_0
                    clear hi267_0 hl267_0
                    replace p267 := eq_true p267
                    replace q267 := eq_true q267
                    have p268 : 0 ≤ (x11_3 : Int) := of_decide_eq_true (by first | (with_reducible assumption) | assumption)
                    have q268 : x11_3 < (l0.length : Int) := of_decide_eq_true (by first | (with_reducible assumption) | assumption)
                    obtain ⟨ad268, A268_0, c268_0, e268, hx268_0, hl268_0, hi268_0⟩ := at_L1 HR0.out x11_3 p268 q268
                    obtain rfl : ad260 = ad268 := (by injection e268)
                    have HR268_0 := Aside0.mk hi268_0
                    have HC268_0 := Aside0.mk hl268_0
                    clear hi268_0 hl268_0
                    replace p268 := eq_true p268
                    replace q268 := eq_true q268
                    have ea_ := Option.some.inj (hx267_0.symm.trans hx268_0)
                    injection ea_ with ea_ en_ ec_
                    subst ea_
                    subst ec_
                    clear en_
                    have p269 : 0 ≤ (x12_4 : Int) := of_decide_eq_true (by first | (with_reducible assumption) | assumption)
                    have q269 : x12_4 < ((rd_L1 l0 x11_3).length : Int) := of_decide_eq_true (by first | (with_reducible assumption) | assumption)
                    obtain ⟨ad269, e269, hx269_0⟩ := Kd.at_string HR268_0.out x12_4 p269 q269
                    cases e269
                    replace p269 := eq_true p269
                    replace q269 := eq_true q269
                    go_wp2
                    go_ret
                    exact ⟨by first | rfl | (simp; done) | (simp [*]; done), drs_⟩
                   ·rw [if_neg c28] at H
                    have c28b0 : decide (x11_3 < a1) = false := decide_eq_false c28
                    clear c28
                    by_cases c29 : x11_3 ≥ (wrap64 (a1 + x9_14))
                    ·rw [if_pos c29] at H
                     have c29b0 : decide ((wrap64 (a1 + x9_14)) ≤ x11_3) = true := decide_eq_true c29
                     clear c29
                     obtain rfl := Option.some.inj H
                     have p267 : 0 ≤ (x11_3 : Int) := of_decide_eq_true (by first | (with_reducible assumption) | assumption)
                     have q267 : x11_3 < (l0.length : Int) := of_decide_eq_true (by first | (with_reducible assumption) | assumption)
                     obtain ⟨ad267, A267_0, c267_0, e267, hx267_0, hl267_0, hi267_0⟩ := at_L1 HR0.out x11_3 p267 q267
                     obtain rfl : ad260 = ad267 := (by injection e267)
                     have HR267_0 := Aside0.mk hi267_0
                     have HC267_0 := Aside0.mk hl267_0
                     clear hi267_0 hl267_0
                     replace p267 := eq_true p267
                     replace q267 := eq_true q267
                     have p268 : 0 ≤ (x11_3 : Int) := of_decide_eq_true (by first | (with_reducible assumption) | assumption)
                     have q268 : x11_3 < (l0.length : Int) := of_decide_eq_true (by first | (with_reducible assumption) | assumption)
                     obtain ⟨ad268, A268_0, c268_0, e268, hx268_0, hl268_0, hi268_0⟩ := at_L1 HR0.out x11_3 p268 q268
                     obtain rfl : ad260 = ad268 := (by injection e268)
                     have HR268_0 := Aside0.mk hi268_0
                     have HC268_0 := Aside0.mk hl268_0
                     clear hi268_0 hl268_0
                     replace p268 := eq_true p268
                     replace q268 := eq_true q268
                     have ea_ := Option.some.inj (hx267_0.symm.trans hx268_0)
                     injection ea_ with ea_ en_ ec_
                     subst ea_
                     subst ec_
                     clear en_
                     have p269 : 0 ≤ (x12_4 : Int) := of_decide_eq_true (by first | (with_reducible assumption) | assumption)
                     have q269 : x12_4 < ((rd_L1 l0 x11_3).length : Int) := of_decide_eq_true (by first | (with_reducible assumption) | assumption)
                     obtain ⟨ad269, e269, hx269_0⟩ := Kd.at_string HR268_0.out x12_4 p269 q269
                     cases e269
                     replace p269 := eq_true p269
                     replace q269 := eq_true q269
                     go_wp2
                     go_ret
                     exact ⟨by first | rfl | (simp; done) | (simp [*]; done), drs_⟩
                    ·rw [if_neg c29] at H
                     have c29b0 : decide ((wrap64 (a1 + x9_14)) ≤ x11_3) = false := decide_eq_false c29
                     clear c29
                     by_cases c30 : x12_4 < a2
                     ·rw [if_pos c30] at H
                      have c30b0 : decide (x12_4 < a2) = true := decide_eq_true c30
                      clear c30
                      obtain rfl := Option.some.inj H
                      have p267 : 0 ≤ (x11_3 : Int) := of_decide_eq_true (by first | (with_reducible assumption) | assumption)
                      have q267 : x11_3 < (l0.length : Int) := of_decide_eq_true (by first | (with_reducible assumption) | assumption)
                      obtain ⟨ad267, A267_0, c267_0, e267, hx267_0, hl267_0, hi267_0⟩ := at_L1 HR0.out x11_3 p267 q267
                      obtain rfl : ad260 = ad267 := (by injection e267)
                      have HR267_0 := Aside0.mk hi267_0
                      have HC267_0 := Aside0.mk hl267_0
                      clear hi267_0 hl267_0
                      replace p267 := eq_true p267
                      replace q267 := eq_true q267
                      have p268 : 0 ≤ (x11_3 : Int) := of_decide_eq_true (by first | (with_reducible assumption) | assumption)
                      have q268 : x11_3 < (l0.length : Int) := of_decide_eq_true (by first | (with_reducible assumption) | assumption)
                      obtain ⟨ad268, A268_0, c268_0, e268, hx268_0, hl268_0, hi268_0⟩ := at_L1 HR0.out x11_3 p268 q268
                      obtain rfl : ad260 = ad268 := (by injection e268)
                      have HR268_0 := Aside0.mk hi268_0
                      have HC268_0 := Aside0.mk hl268_0
                      clear hi268_0 hl268_0
                      replace p268 := eq_true p268
                      replace q268 := eq_true q268
                      have ea_ := Option.some.inj (hx267_0.symm.trans hx268_0)
                      injection ea_ with ea_ en_ ec_
                      subst ea_
                      subst ec_
                      clear en_
                      have p269 : 0 ≤ (x12_4 : Int) := of_decide_eq_true (by first | (with_reducible assumption) | assumption)
                      have q269 : x12_4 < ((rd_L1 l0 x11_3).length : Int) := of_decide_eq_true (by first | (with_reducible assumption) | assumption)
                      obtain ⟨ad269, e269, hx269_0⟩ := Kd.at_string HR268_0.out x12_4 p269 q269
                      cases e269
                      replace p269 := eq_true p269
                      replace q269 := eq_true q269
                      go_wp2
                      go_ret
                      exact ⟨by first | rfl | (simp; done) | (simp [*]; done), drs_⟩
                     ·rw [if_neg c30] at H
                      have c30b0 : decide (x12_4 < a2) = false := decide_eq_false c30
                      clear c30
                      by_cases c31 : x12_4 ≥ (wrap64 (a2 + x8_7))
                      ·rw [if_pos c31] at H
                       have c31b0 : decide ((wrap64 (a2 + x8_7)) ≤ x12_4) = true := decide_eq_true c31
                       clear c31
                       obtain rfl := Option.some.inj H
                       have p267 : 0 ≤ (x11_3 : Int) := of_decide_eq_true (by first | (with_reducible assumption) | assumption)
                       have q267 : x11_3 < (l0.length : Int) := of_decide_eq_true (by first | (with_reducible assumption) | assumption)
                       obtain ⟨ad267, A267_0, c267_0, e267, hx267_0, hl267_0, hi267_0⟩ := at_L1 HR0.out x11_3 p267 q267
                       obtain rfl : ad260 = ad267 := (by injection e267)
                       have HR267_0 := Aside0.mk hi267_0
                       have HC267_0 := Aside0.mk hl267_0
                       clear hi267_0 hl267_0
                       replace p267 := eq_true p267
                       replace q267 := eq_true q267
                       have p268 : 0 ≤ (x11_3 : Int) := of_decide_eq_true (by first | (with_reducible assumption) | assumption)
                       have q268 : x11_3 < (l0.length : Int) := of_decide_eq_true (by first | (with_reducible assumption) | assumption)
                       obtain ⟨ad268, A268_0, c268_0, e268, hx268_0, hl268_0, hi268_0⟩ := at_L1 HR0.out x11_3 p268 q268
                       obtain rfl : ad260 = ad268 := (by injection e268)
                       have HR268_0 := Aside0.mk hi268_0
                       have HC268_0 := Aside0.mk hl268_0
                       clear hi268_0 hl268_0
                       replace p268 := eq_true p268
                       replace q268 := eq_true q268
                       have ea_ := Option.some.inj (hx267_0.symm.trans hx268_0)
                       injection ea_ with ea_ en_ ec_
                       subst ea_
                       subst ec_
                       clear en_
                       have p269 : 0 ≤ (x12_4 : Int) := of_decide_eq_true (by first | (with_reducible assumption) | assumption)
                       have q269 : x12_4 < ((rd_L1 l0 x11_3).length : Int) := of_decide_eq_true (by first | (with_reducible assumption) | assumption)
                       obtain ⟨ad269, e269, hx269_0⟩ := Kd.at_string HR268_0.out x12_4 p269 q269
                       cases e269
                       replace p269 := eq_true p269
                       replace q269 := eq_true q269
                       go_wp2
                       go_ret
                       exact ⟨by first | rfl | (simp; done) | (simp [*]; done), drs_⟩
                      ·rw [if_neg c31] at H
                       have c31b0 : decide ((wrap64 (a2 + x8_7)) ≤ x12_4) = false := decide_eq_false c31
                       clear c31
                       have H' := Aside0.mk H
                       clear H
                       have p267 : 0 ≤ (x11_3 : Int) := of_decide_eq_true (by first | (with_reducible assumption) | assumption)
                       have q267 : x11_3 < (l0.length : Int) := of_decide_eq_true (by first | (with_reducible assumption) | assumption)
                       obtain ⟨ad267, A267_0, c267_0, e267, hx267_0, hl267_0, hi267_0⟩ := at_L1 HR0.out x11_3 p267 q267
                       obtain rfl : ad260 = ad267 := (by injection e267)
                       have HR267_0 := Aside0.mk hi267_0
                       have HC267_0 := Aside0.mk hl267_0
                       clear hi267_0 hl267_0
                       replace p267 := eq_true p267
                       replace q267 := eq_true q267
                       have p268 : 0 ≤ (x11_3 : Int) := of_decide_eq_true (by first | (with_reducible assumption) | assumption)
                       have q268 : x11_3 < (l0.length : Int) := of_decide_eq_true (by first | (with_reducible assumption) | assumption)
                       obtain ⟨ad268, A268_0, c268_0, e268, hx268_0, hl268_0, hi268_0⟩ := at_L1 HR0.out x11_3 p268 q268
                       obtain rfl : ad260 = ad268 := (by injection e268)
                       have HR268_0 := Aside0.mk hi268_0
                       have HC268_0 := Aside0.mk hl268_0
                       clear hi268_0 hl268_0
                       replace p268 := eq_true p268
                       replace q268 := eq_true q268
                       have ea_ := Option.some.inj (hx267_0.symm.trans hx268_0)
                       injection ea_ with ea_ en_ ec_
                       subst ea_
                       subst ec_
                       clear en_
                       have p269 : 0 ≤ (x12_4 : Int) := of_decide_eq_true (by first | (with_reducible assumption) | assumption)
                       have q269 : x12_4 < ((rd_L1 l0 x11_3).length : Int) := of_decide_eq_true (by first | (with_reducible assumption) | assumption)
                       obtain ⟨ad269, e269, hx269_0⟩ := Kd.at_string HR268_0.out x12_4 p269 q269
                       cases e269
                       replace p269 := eq_true p269
                       replace q269 := eq_true q269
                       go_wp2
                       go_roundg k4
                       case measure => have := HJ7.out; have := HJ14.out; have := HK3.out; have := HK4.out; omega
                       case rel => exact ⟨(wrap64 (x10_4 + 1)), (wrap64 (x12_4 + 1)), rfs_, rfs_, H', ⟨by have := HJ7.out; have := HJ14.out; have := HK3.out; have := HK4.out; omega⟩, drs_⟩
                  ·rw [if_neg c27] at H
                   have c27b0 : ((rdOf ByteArray.empty (rd_L1 l0 x11_3) x12_4).toList == (rdOf ByteArray.empty (rd_L1 l0 a1) a2).toList) = false := beq_eq_false_iff_ne.mpr c27
                   have c27b1 : ((rdOf ByteArray.empty (rd_L1 l0 x11_3) x12_4).toList != (rdOf ByteArray.empty (rd_L1 l0 a1) a2).toList) = true := bne_iff_ne.mpr c27
                   have H' := Aside0.mk H
                   clear H
                   have p267 : 0 ≤ (x11_3 : Int) := of_decide_eq_true (by first | (with_reducible assumption) | assumption)
                   have q267 : x11_3 < (l0.length : Int) := of_decide_eq_true (by first | (with_reducible assumption) | assumption)
                   obtain ⟨ad267, A267_0, c267_0, e267, hx267_0, hl267_0, hi267_0⟩ := at_L1 HR0.out x11_3 p267 q267
                   obtain rfl : ad260 = ad267 := (by injection e267)
                   have HR267_0 := Aside0.mk hi267_0
                   have HC267_0 := Aside0.mk hl267_0
                   clear hi267_0 hl267_0
                   replace p267 := eq_true p267
                   replace q267 := eq_true q267
                   have p268 : 0 ≤ (x11_3 : Int) := of_decide_eq_true (by first | (with_reducible assumption) | assumption)
                   have q268 : x11_3 < (l0.length : Int) := of_decide_eq_true (by first | (with_reducible assumption) | assumption)
                   obtain ⟨ad268, A268_0, c268_0, e268, hx268_0, hl268_0, hi268_0⟩ := at_L1 HR0.out x11_3 p268 q268
                   obtain rfl : ad260 = ad268 := (by injection e268)
                   have HR268_0 := Aside0.mk hi268_0
                   have HC268_0 := Aside0.mk hl268_0
                   clear hi268_0 hl268_0
                   replace p268 := eq_true p268
                   replace q268 := eq_true q268
                   have ea_ := Option.some.inj (hx267_0.symm.trans hx268_0)
                   injection ea_ with ea_ en_ ec_
                   subst ea_
                   subst ec_
                   clear en_
                   have p269 : 0 ≤ (x12_4 : Int) := of_decide_eq_true (by first | (with_reducible assumption) | assumption)
                   have q269 : x12_4 < ((rd_L1 l0 x11_3).length : Int) := of_decide_eq_true (by first | (with_reducible assumption) | assumption)
                   obtain ⟨ad269, e269, hx269_0⟩ := Kd.at_string HR268_0.out x12_4 p269 q269
                   cases e269
                   replace p269 := eq_true p269
                   replace q269 := eq_true q269
                   go_wp2
                   go_roundg k4
                   case measure => have := HJ7.out; have := HJ14.out; have := HK3.out; have := HK4.out; omega
                   case rel => exact ⟨(x10_4), (wrap64 (x12_4 + 1)), rfs_, rfs_, H', ⟨by have := HJ7.out; have := HJ14.out; have := HK3.out; have := HK4.out; omega⟩, drs_⟩
                 ·rw [if_neg c26] at H
                  exact absurd H (by simp)
                ·rw [if_neg c25] at H
                 have c25b0 : decide (x12_4 < ((rd_L1 l0 x11_3).length : Int)) = false := decide_eq_false c25
                 clear c25
                 have H' := Aside0.mk H
                 clear H
                 have p267 : 0 ≤ (x11_3 : Int) := of_decide_eq_true (by first | (with_reducible assumption) | assumption)
                 have q267 : x11_3 < (l0.length : Int) := of_decide_eq_true (by first | (with_reducible assumption) | assumption)
                 obtain ⟨ad267, A267_0, c267_0, e267, hx267_0, hl267_0, hi267_0⟩ := at_L1 HR0.out x11_3 p267 q267
                 obtain rfl : ad260 = ad267 := (by injection e267)
                 have HR267_0 := Aside0.mk hi267_0
                 have HC267_0 := Aside0.mk hl267_0
                 clear hi267_0 hl267_0
                 replace p267 := eq_true p267
                 replace q267 := eq_true q267
                 go_wp2
                 go_roundg k4
                 case measure => have := HJ7.out; have := HJ14.out; have := HK3.out; have := HK4.out; omega
                 case rel => exact ⟨(x10_4), (wrap64 (x11_3 + 1)), rfs_, rfs_, H', ⟨by have := HJ7.out; have := HJ14.out; have := HK3.out; have := HK4.out; omega⟩, drs_⟩
               ·rw [if_neg c24] at H
                exact absurd H (by simp)
              ·rw [if_neg c23] at H
               exact absurd H (by simp)
           ·rw [if_neg c22] at H
            have c22b0 : decide (x11_3 < (l0.length : Int)) = false := decide_eq_false c22
            clear c22
            obtain rfl := Option.some.inj H
            go_wp2
            go_ret
            exact ⟨by first | rfl | (simp; done) | (simp [*]; done), drs_⟩
    ·rw [if_neg c7] at H
     exact absurd H (by simp)
   ·rw [if_neg c6] at H
    exact absurd H (by simp)
  ·rw [if_neg c5] at H
   exact absurd H (by simp)
 ·rw [if_neg c4] at H
  exact absurd H (by simp)

end Go.Proofs.YtofdhdafabmhmaaGreatDoor.PAr
end
