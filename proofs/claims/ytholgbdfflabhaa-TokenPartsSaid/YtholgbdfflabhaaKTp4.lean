/- TokenPartsSaid, part 5 of 7: contracts of the program's functions, the words that they use, and the plain laws on what they compute. Conditions: none beyond what the statements say. -/
import Derived.Test.YtholgbdfflabhaaKTp0
import Derived.Test.YtholgbdfflabhaaKTp1
import Derived.Test.YtholgbdfflabhaaKTp3
import Derived.Lib.IndexLaws
set_option linter.unusedVariables false
set_option linter.unusedSimpArgs false
section
namespace Go.Proofs.Ytholgbdfflabhaa.PTk
open Go.RowKit Go.Proofs.YtholgbdfflabhaaW.PrintWords Go.Proofs.YtholgbdfflabhaaW.PrintLast Go.Proofs.YtholgbdfflabhaaW.PrintMore
attribute [local go_sem] max2_int min2_int max_two min_two max_three min_three max_four min_four
open Go.Proofs.Ytholgbdfflabhaa.Opn Go.Proofs.Ytholgbdfflabhaa.Giv

/-! ### parterrelaw03_lives: function 5 -/
def parterrelaw03_lives.f (k : Nat)  : Option (Bool) := (token_Tokens.f k (([114, 101, 112, 101, 97, 116, 40, 50, 44, 32, 49, 102, 114, 41] : List Int))).bind fun bt169 => ((token_Tokens.f k (([92, 51, 49, 32, 97] : List Int))).bind fun bt177 => (if bt169.2.2 = 0 then (if (bt169.1.length : Int) = 6 then (if 0 < (bt169.1.length : Int) then (if ((rd_T29 bt169.1 0).f0) = 2 then (if ((rd_T29 bt169.1 0).f2).toList = ([114, 101, 112, 101, 97, 116] : List UInt8) then (if 3 < (bt169.1.length : Int) then (if ((rd_T29 bt169.1 3).f3).toList = ([49] : List UInt8) then (if ((rd_T29 bt169.1 3).f2).toList = ([102, 114] : List UInt8) then (if bt177.2.2 = 0 then (if (bt177.1.length : Int) = 2 then (if 0 < (bt177.1.length : Int) then (some (((rd_T29 bt177.1 0).f2).toList == ([49, 97] : List UInt8))) else (none)) else (none)) else (none)) else (none)) else (none)) else (none)) else (none)) else (none)) else (none)) else (none)) else (none)))
theorem parterrelaw03_lives.mono : ∀ k, LeO (parterrelaw03_lives.f k ) (parterrelaw03_lives.f (k + 1) ) := by
 intro  k
 unfold parterrelaw03_lives.f
 repeat' first
   | (with_reducible exact token_Tokens.mono _ _)
   | (with_reducible exact LeO.refl _)
   | (with_reducible exact LeO.none _)
   | (with_reducible refine LeO.ite ?_ ?_)
   | (with_reducible refine LeO.bind ?_ (fun _ => ?_))
set_option maxHeartbeats 8000000 in
set_option maxRecDepth 100000 in
theorem parterrelaw03_lives.calls (k : Nat)  (r : Bool) (w : World) (h : parterrelaw03_lives.f k  = some r) (htab : Ml w) :
  Calls Try.prog 5 #[] w fun e w' => e = .returned (.bool r) ∧ Below w.heap.size w w' := by
 have HTB := Aside0.mk htab
 clear htab
 have HB := Aside0.mk (Below.refl w.heap.size w)
 have H : ((token_Tokens.f k (([114, 101, 112, 101, 97, 116, 40, 50, 44, 32, 49, 102, 114, 41] : List Int))).bind fun bt169 => ((token_Tokens.f k (([92, 51, 49, 32, 97] : List Int))).bind fun bt177 => (if bt169.2.2 = 0 then (if (bt169.1.length : Int) = 6 then (if 0 < (bt169.1.length : Int) then (if ((rd_T29 bt169.1 0).f0) = 2 then (if ((rd_T29 bt169.1 0).f2).toList = ([114, 101, 112, 101, 97, 116] : List UInt8) then (if 3 < (bt169.1.length : Int) then (if ((rd_T29 bt169.1 3).f3).toList = ([49] : List UInt8) then (if ((rd_T29 bt169.1 3).f2).toList = ([102, 114] : List UInt8) then (if bt177.2.2 = 0 then (if (bt177.1.length : Int) = 2 then (if 0 < (bt177.1.length : Int) then (some (((rd_T29 bt177.1 0).f2).toList == ([49, 97] : List UInt8))) else (none)) else (none)) else (none)) else (none)) else (none)) else (none)) else (none)) else (none)) else (none)) else (none)) else (none)))) = some r := h
 clear h
 obtain ⟨y166, hy166⟩ : ∃ y_ : List Int, y_ = (([114, 101, 112, 101, 97, 116, 40, 50, 44, 32, 49, 102, 114, 41] : List Int)) := ⟨_, rfl⟩
 replace H : ((token_Tokens.f k y166).bind fun bt169 => ((token_Tokens.f k (([92, 51, 49, 32, 97] : List Int))).bind fun bt177 => (if bt169.2.2 = 0 then (if (bt169.1.length : Int) = 6 then (if 0 < (bt169.1.length : Int) then (if ((rd_T29 bt169.1 0).f0) = 2 then (if ((rd_T29 bt169.1 0).f2).toList = ([114, 101, 112, 101, 97, 116] : List UInt8) then (if 3 < (bt169.1.length : Int) then (if ((rd_T29 bt169.1 3).f3).toList = ([49] : List UInt8) then (if ((rd_T29 bt169.1 3).f2).toList = ([102, 114] : List UInt8) then (if bt177.2.2 = 0 then (if (bt177.1.length : Int) = 2 then (if 0 < (bt177.1.length : Int) then (some (((rd_T29 bt177.1 0).f2).toList == ([49, 97] : List UInt8))) else (none)) else (none)) else (none)) else (none)) else (none)) else (none)) else (none)) else (none)) else (none)) else (none)) else (none)))) = some r := by first | (rw [hy166]; with_reducible exact H) | (have H2_ := (Option.bind_some _ _).symm.trans H; rw [hy166]; with_reducible exact H2_) | (have H2_ := (Option.bind_some _ _).symm.trans H; with_reducible exact H2_) | with_reducible exact H | (rw [hy166]; exact H) | exact H
 have Ny166 := Aside0.mk hy166
 clear hy166
 replace H := Option.bind_eq_some_iff.mp H
 obtain ⟨⟨t169, t170, t171⟩, A10, H⟩ := H
 try dsimp only at H
 have A1 := Aside0.mk A10
 clear A10
 obtain ⟨y174, hy174⟩ : ∃ y_ : List Int, y_ = (([92, 51, 49, 32, 97] : List Int)) := ⟨_, rfl⟩
 replace H : ((token_Tokens.f k y174).bind fun bt177 => (if t171 = 0 then (if (t169.length : Int) = 6 then (if 0 < (t169.length : Int) then (if ((rd_T29 t169 0).f0) = 2 then (if ((rd_T29 t169 0).f2).toList = ([114, 101, 112, 101, 97, 116] : List UInt8) then (if 3 < (t169.length : Int) then (if ((rd_T29 t169 3).f3).toList = ([49] : List UInt8) then (if ((rd_T29 t169 3).f2).toList = ([102, 114] : List UInt8) then (if bt177.2.2 = 0 then (if (bt177.1.length : Int) = 2 then (if 0 < (bt177.1.length : Int) then (some (((rd_T29 bt177.1 0).f2).toList == ([49, 97] : List UInt8))) else (none)) else (none)) else (none)) else (none)) else (none)) else (none)) else (none)) else (none)) else (none)) else (none)) else (none))) = some r := by first | (rw [hy174]; with_reducible exact H) | (have H2_ := (Option.bind_some _ _).symm.trans H; rw [hy174]; with_reducible exact H2_) | (have H2_ := (Option.bind_some _ _).symm.trans H; with_reducible exact H2_) | with_reducible exact H | (rw [hy174]; exact H) | exact H
 have Ny174 := Aside0.mk hy174
 clear hy174
 replace H := Option.bind_eq_some_iff.mp H
 obtain ⟨⟨t177, t178, t179⟩, A20, H⟩ := H
 try dsimp only at H
 have A2 := Aside0.mk A20
 clear A20
 by_cases c3 : t171 = 0
 ·rw [if_pos c3] at H
  have c3b0 : (t171 == 0) = true := beq_iff_eq.mpr c3
  have c3b1 : (t171 != 0) = false := bne_eq_false_iff_eq.mpr c3
  clear c3
  by_cases c4 : (t169.length : Int) = 6
  ·rw [if_pos c4] at H
   have c4b0 : ((t169.length : Int) == 6) = true := beq_iff_eq.mpr c4
   have c4b1 : ((t169.length : Int) != 6) = false := bne_eq_false_iff_eq.mpr c4
   clear c4
   by_cases c5 : 0 < (t169.length : Int)
   ·rw [if_pos c5] at H
    have c5b0 : decide (0 < (t169.length : Int)) = true := decide_eq_true c5
    have c5b1 : decide (0 < t169.length) = true := decide_eq_true (by omega)
    clear c5
    by_cases c6 : ((rd_T29 t169 0).f0) = 2
    ·rw [if_pos c6] at H
     have c6b0 : (((rd_T29 t169 0).f0) == 2) = true := beq_iff_eq.mpr c6
     have c6b1 : (((rd_T29 t169 0).f0) != 2) = false := bne_eq_false_iff_eq.mpr c6
     clear c6
     by_cases c7 : ((rd_T29 t169 0).f2).toList = ([114, 101, 112, 101, 97, 116] : List UInt8)
     ·rw [if_pos c7] at H
      have c7b0 : (((rd_T29 t169 0).f2).toList == ([114, 101, 112, 101, 97, 116] : List UInt8)) = true := beq_iff_eq.mpr c7
      have c7b1 : (((rd_T29 t169 0).f2).toList != ([114, 101, 112, 101, 97, 116] : List UInt8)) = false := bne_eq_false_iff_eq.mpr c7
      clear c7
      by_cases c8 : 3 < (t169.length : Int)
      ·rw [if_pos c8] at H
       have c8b0 : decide (3 < (t169.length : Int)) = true := decide_eq_true c8
       have c8b1 : decide (3 < t169.length) = true := decide_eq_true (by omega)
       clear c8
       by_cases c9 : ((rd_T29 t169 3).f3).toList = ([49] : List UInt8)
       ·rw [if_pos c9] at H
        have c9b0 : (((rd_T29 t169 3).f3).toList == ([49] : List UInt8)) = true := beq_iff_eq.mpr c9
        have c9b1 : (((rd_T29 t169 3).f3).toList != ([49] : List UInt8)) = false := bne_eq_false_iff_eq.mpr c9
        clear c9
        by_cases c10 : ((rd_T29 t169 3).f2).toList = ([102, 114] : List UInt8)
        ·rw [if_pos c10] at H
         have c10b0 : (((rd_T29 t169 3).f2).toList == ([102, 114] : List UInt8)) = true := beq_iff_eq.mpr c10
         have c10b1 : (((rd_T29 t169 3).f2).toList != ([102, 114] : List UInt8)) = false := bne_eq_false_iff_eq.mpr c10
         clear c10
         by_cases c11 : t179 = 0
         ·rw [if_pos c11] at H
          have c11b0 : (t179 == 0) = true := beq_iff_eq.mpr c11
          have c11b1 : (t179 != 0) = false := bne_eq_false_iff_eq.mpr c11
          clear c11
          by_cases c12 : (t177.length : Int) = 2
          ·rw [if_pos c12] at H
           have c12b0 : ((t177.length : Int) == 2) = true := beq_iff_eq.mpr c12
           have c12b1 : ((t177.length : Int) != 2) = false := bne_eq_false_iff_eq.mpr c12
           clear c12
           by_cases c13 : 0 < (t177.length : Int)
           ·rw [if_pos c13] at H
            have c13b0 : decide (0 < (t177.length : Int)) = true := decide_eq_true c13
            have c13b1 : decide (0 < t177.length) = true := decide_eq_true (by omega)
            clear c13
            obtain rfl := Option.some.inj H
            go_enter Try.func5, Try.ntmps5
            go_wp2_with (first | ((with_reducible refine gate_dst (N := 8) rfl ?_); (try (refine gate_guard (by rfl) ?_; dsimp only)); refine Kd.Z_lit _ 5 ?hg (N := 8) ?hd 22 (y := .tmp 8) (xs := ([114, 101, 112, 101, 97, 116, 40, 50, 44, 32, 49, 102, 114, 41] : List Int)) (inner := [.int .u8 114, .int .u8 101, .int .u8 112, .int .u8 101, .int .u8 97, .int .u8 116, .int .u8 40, .int .u8 50, .int .u8 44, .int .u8 32, .int .u8 49, .int .u8 102, .int .u8 114, .int .u8 41]) ?hr (by first | rfl | simp) ?hg2 ?ho2 ?hy Try.underlying22 Try.underlying5 (Below.refl _ _) (Nat.le_refl _) (by simp) ?_; (case hd => rfl); (case hg => rfl); (case hr => first | (go_simp; done) | (go_simp; rfl)); (case hg2 => rfl); (case ho2 => rfl); (case hy => intro v1_; first | rfl | (go_simp; done)); intro v167 w14 ho15 hb hg_ hnew_; clear hg_ hnew_; (first | rw [← Ny166.out] at ho15 | (simp only [Int.reduceToNat] at ho15; rw [← Ny166.out] at ho15)); have n0_ := Aside0.mk (Kd.Z_lower ho15 (below_size bel_)); have n1_ := Aside0.mk (below_step bel_ hb); clear HB; have HO168 := n0_; have HB := n1_; clear n0_ n1_; clear hb ho15; obtain ⟨Ao16, co16, eo16⟩ := Kd.Z_slice HO168.out; subst eo16) | ((with_reducible refine gate_callee (f := 6) rfl ?_); refine goesL_ (some 10) rfl rfl Try.func6 (by kernel_rfl) rfl #[.slice Ao16 y166.length co16] rfl goa_ ?_; (with_reducible refine (token_Tokens.calls k _ _ y166 t169 t170 t171 _ ?side1 ?side2 A1.out (Ml.below HTB.out bel_)).mono ?_); (case side1 => repeat (first | exact (Kd.Z_reads' HO168.out).2.2 | (with_reducible refine Kd.C_alloc ?_ _) | (with_reducible refine Kd.C_drewN ?_ _) | (with_reducible refine Kd.C_drew ?_))); (case side2 => exact (Kd.Z_reads' HO168.out).2.1); rintro e w17 ⟨v172, rfl, ho0, hb⟩; refine ⟨_, rfl, ?_⟩; have n0_ := Aside0.mk (Kd.Z_below (by (with_reducible repeat (first | apply Kd.Z_alloc | apply Kd.Z_drewN | apply Kd.Z_drew)); exact HO168.out) hb); have n1_ := Aside0.mk (Kd.R_lower ho0 (below_size bel_)); have n2_ := Aside0.mk (below_step bel_ hb); clear HO168; clear HB; have HO168 := n0_; have HO173 := n1_; have HB := n2_; clear n0_ n1_ n2_; (try clear hb); (try clear hb2); (try clear hk); (try clear hi); (try clear ho0)) | ((with_reducible refine gate_dst (N := 15) rfl ?_); (try (refine gate_guard (by rfl) ?_; dsimp only)); refine Kd.Z_lit _ 5 ?hg (N := 15) ?hd 22 (y := .tmp 15) (xs := ([92, 51, 49, 32, 97] : List Int)) (inner := [.int .u8 92, .int .u8 51, .int .u8 49, .int .u8 32, .int .u8 97]) ?hr (by first | rfl | simp) ?hg2 ?ho2 ?hy Try.underlying22 Try.underlying5 (Below.refl _ _) (Nat.le_refl _) (by simp) ?_; (case hd => rfl); (case hg => rfl); (case hr => first | (go_simp; done) | (go_simp; rfl)); (case hg2 => rfl); (case ho2 => rfl); (case hy => intro v1_; first | rfl | (go_simp; done)); intro v175 w18 ho19 hb hg_ hnew_; clear hg_ hnew_; (first | rw [← Ny174.out] at ho19 | (simp only [Int.reduceToNat] at ho19; rw [← Ny174.out] at ho19)); have n0_ := Aside0.mk (Kd.Z_elder' (by (with_reducible repeat (first | apply Kd.Z_alloc | apply Kd.Z_drewN | apply Kd.Z_drew)); exact HO168.out) (Kd.Z_base ho19) hb); have n1_ := Aside0.mk (Kd.R_below (by (with_reducible repeat (first | apply Kd.R_alloc | apply Kd.R_drewN | apply Kd.R_drew)); exact HO173.out) hb); have n2_ := Aside0.mk (Kd.Z_lower (Kd.Z_new' ho19 (Kd.Z_lt (by (with_reducible repeat (first | apply Kd.Z_alloc | apply Kd.Z_drewN | apply Kd.Z_drew)); exact HO168.out))) (below_size bel_)); have n3_ := Aside0.mk (below_step bel_ hb); clear HO168; clear HO173; clear HB; have HO168 := n0_; have HO173 := n1_; have HO176 := n2_; have HB := n3_; clear n0_ n1_ n2_ n3_; clear hb ho19; obtain ⟨Ao20, co20, eo20⟩ := Kd.Z_slice HO176.out; subst eo20) | ((with_reducible refine gate_callee (f := 6) rfl ?_); refine goesL_ (some 17) rfl rfl Try.func6 (by kernel_rfl) rfl #[.slice Ao20 y174.length co20] rfl goa_ ?_; (with_reducible refine (token_Tokens.calls k _ _ y174 t177 t178 t179 _ ?side1 ?side2 A2.out (Ml.below HTB.out bel_)).mono ?_); (case side1 => repeat (first | exact (Kd.Z_reads' HO176.out).2.2 | (with_reducible refine Kd.C_alloc ?_ _) | (with_reducible refine Kd.C_drewN ?_ _) | (with_reducible refine Kd.C_drew ?_))); (case side2 => exact (Kd.Z_reads' HO176.out).2.1); rintro e w21 ⟨v180, rfl, ho0, hb⟩; refine ⟨_, rfl, ?_⟩; have n0_ := Aside0.mk (Kd.Z_below (by (with_reducible repeat (first | apply Kd.Z_alloc | apply Kd.Z_drewN | apply Kd.Z_drew)); exact HO168.out) hb); have n1_ := Aside0.mk (Kd.R_elder' (by (with_reducible repeat (first | apply Kd.R_alloc | apply Kd.R_drewN | apply Kd.R_drew)); exact HO173.out) (Kd.R_base ho0) hb); have n2_ := Aside0.mk (Kd.Z_below (by (with_reducible repeat (first | apply Kd.Z_alloc | apply Kd.Z_drewN | apply Kd.Z_drew)); exact HO176.out) hb); have n3_ := Aside0.mk (Kd.R_lower (Kd.R_new' ho0 (Kd.R_lt (by (with_reducible repeat (first | apply Kd.R_alloc | apply Kd.R_drewN | apply Kd.R_drew)); exact HO173.out))) (below_size bel_)); have n4_ := Aside0.mk (below_step bel_ hb); clear HO168; clear HO173; clear HO176; clear HB; have HO168 := n0_; have HO173 := n1_; have HO176 := n2_; have HO181 := n3_; have HB := n4_; clear n0_ n1_ n2_ n3_ n4_; (try clear hb); (try clear hb2); (try clear hk); (try clear hi); (try clear ho0); obtain ⟨Ao22, co22, eo22⟩ := Kd.R_slice HO173.out; subst eo22; have p182 : 0 ≤ (0 : Int) := (by omega); have q182 : 0 < (t169.length : Int) := of_decide_eq_true (by first | (with_reducible assumption) | assumption); obtain ⟨ad182, e182, hx182_0, hx182_1, hx182_2, hx182_3⟩ := at_T29 (Kd.R_reads' HO173.out).2.2 0 p182 q182; cases e182; have qi182 : (0 < t169.length) = True := eq_true (by omega); (try rw [show ((0 : Int)).toNat = 0 from rfl] at hx182_0); (try rw [show 0 * 4 = 0 from rfl] at hx182_0); (try rw [Addr.add_zero'] at hx182_0); (try rw [show ((0 : Int)).toNat = 0 from rfl] at hx182_1); (try rw [show 0 * 4 = 0 from rfl] at hx182_1); (try rw [Addr.add_zero'] at hx182_1); (try rw [show ((0 : Int)).toNat = 0 from rfl] at hx182_2); (try rw [show 0 * 4 = 0 from rfl] at hx182_2); (try rw [Addr.add_zero'] at hx182_2); (try rw [show ((0 : Int)).toNat = 0 from rfl] at hx182_3); (try rw [show 0 * 4 = 0 from rfl] at hx182_3); (try rw [Addr.add_zero'] at hx182_3); replace p182 := eq_true p182; replace q182 := eq_true q182; have p183 : 0 ≤ (0 : Int) := (by omega); have q183 : 0 < (t169.length : Int) := of_decide_eq_true (by first | (with_reducible assumption) | assumption); obtain ⟨ad183, e183, hx183_0, hx183_1, hx183_2, hx183_3⟩ := at_T29 (Kd.R_reads' HO173.out).2.2 0 p183 q183; obtain rfl : ad182 = ad183 := (by injection e183); have qi183 : (0 < t169.length) = True := eq_true (by omega); (try rw [show ((0 : Int)).toNat = 0 from rfl] at hx183_0); (try rw [show 0 * 4 = 0 from rfl] at hx183_0); (try rw [Addr.add_zero'] at hx183_0); (try rw [show ((0 : Int)).toNat = 0 from rfl] at hx183_1); (try rw [show 0 * 4 = 0 from rfl] at hx183_1); (try rw [Addr.add_zero'] at hx183_1); (try rw [show ((0 : Int)).toNat = 0 from rfl] at hx183_2); (try rw [show 0 * 4 = 0 from rfl] at hx183_2); (try rw [Addr.add_zero'] at hx183_2); (try rw [show ((0 : Int)).toNat = 0 from rfl] at hx183_3); (try rw [show 0 * 4 = 0 from rfl] at hx183_3); (try rw [Addr.add_zero'] at hx183_3); replace p183 := eq_true p183; replace q183 := eq_true q183; have p184 : 0 ≤ (3 : Int) := (by omega); have q184 : 3 < (t169.length : Int) := of_decide_eq_true (by first | (with_reducible assumption) | assumption); obtain ⟨ad184, e184, hx184_0, hx184_1, hx184_2, hx184_3⟩ := at_T29 (Kd.R_reads' HO173.out).2.2 3 p184 q184; obtain rfl : ad182 = ad184 := (by injection e184); (try simp only [show (3 : Int).toNat = 3 from rfl, Nat.reduceMul, Nat.reduceEqDiff, Go.Addr.add, ↓reduceIte] at hx184_0); (try simp only [show (3 : Int).toNat = 3 from rfl, Nat.reduceMul, Nat.reduceEqDiff, Go.Addr.add, ↓reduceIte] at hx184_1); (try simp only [show (3 : Int).toNat = 3 from rfl, Nat.reduceMul, Nat.reduceEqDiff, Go.Addr.add, ↓reduceIte] at hx184_2); (try simp only [show (3 : Int).toNat = 3 from rfl, Nat.reduceMul, Nat.reduceEqDiff, Go.Addr.add, ↓reduceIte] at hx184_3); have qi184 : (3 < t169.length) = True := eq_true (by omega); (try rw [show ((3 : Int)).toNat = 3 from rfl] at hx184_0); (try rw [show 3 * 4 = 12 from rfl] at hx184_0); (try rw [show ((3 : Int)).toNat = 3 from rfl] at hx184_1); (try rw [show 3 * 4 = 12 from rfl] at hx184_1); (try rw [show ((3 : Int)).toNat = 3 from rfl] at hx184_2); (try rw [show 3 * 4 = 12 from rfl] at hx184_2); (try rw [show ((3 : Int)).toNat = 3 from rfl] at hx184_3); (try rw [show 3 * 4 = 12 from rfl] at hx184_3); replace p184 := eq_true p184; replace q184 := eq_true q184; have p185 : 0 ≤ (3 : Int) := (by omega); have q185 : 3 < (t169.length : Int) := of_decide_eq_true (by first | (with_reducible assumption) | assumption); obtain ⟨ad185, e185, hx185_0, hx185_1, hx185_2, hx185_3⟩ := at_T29 (Kd.R_reads' HO173.out).2.2 3 p185 q185; obtain rfl : ad182 = ad185 := (by injection e185); (try simp only [show (3 : Int).toNat = 3 from rfl, Nat.reduceMul, Nat.reduceEqDiff, Go.Addr.add, ↓reduceIte] at hx185_0); (try simp only [show (3 : Int).toNat = 3 from rfl, Nat.reduceMul, Nat.reduceEqDiff, Go.Addr.add, ↓reduceIte] at hx185_1); (try simp only [show (3 : Int).toNat = 3 from rfl, Nat.reduceMul, Nat.reduceEqDiff, Go.Addr.add, ↓reduceIte] at hx185_2); (try simp only [show (3 : Int).toNat = 3 from rfl, Nat.reduceMul, Nat.reduceEqDiff, Go.Addr.add, ↓reduceIte] at hx185_3); have qi185 : (3 < t169.length) = True := eq_true (by omega); (try rw [show ((3 : Int)).toNat = 3 from rfl] at hx185_0); (try rw [show 3 * 4 = 12 from rfl] at hx185_0); (try rw [show ((3 : Int)).toNat = 3 from rfl] at hx185_1); (try rw [show 3 * 4 = 12 from rfl] at hx185_1); (try rw [show ((3 : Int)).toNat = 3 from rfl] at hx185_2); (try rw [show 3 * 4 = 12 from rfl] at hx185_2); (try rw [show ((3 : Int)).toNat = 3 from rfl] at hx185_3); (try rw [show 3 * 4 = 12 from rfl] at hx185_3); replace p185 := eq_true p185; replace q185 := eq_true q185; obtain ⟨Ao23, co23, eo23⟩ := Kd.R_slice HO181.out; subst eo23; have p186 : 0 ≤ (0 : Int) := (by omega); have q186 : 0 < (t177.length : Int) := of_decide_eq_true (by first | (with_reducible assumption) | assumption); obtain ⟨ad186, e186, hx186_0, hx186_1, hx186_2, hx186_3⟩ := at_T29 (Kd.R_reads' HO181.out).2.2 0 p186 q186; cases e186; have qi186 : (0 < t177.length) = True := eq_true (by omega); (try rw [show ((0 : Int)).toNat = 0 from rfl] at hx186_0); (try rw [show 0 * 4 = 0 from rfl] at hx186_0); (try rw [Addr.add_zero'] at hx186_0); (try rw [show ((0 : Int)).toNat = 0 from rfl] at hx186_1); (try rw [show 0 * 4 = 0 from rfl] at hx186_1); (try rw [Addr.add_zero'] at hx186_1); (try rw [show ((0 : Int)).toNat = 0 from rfl] at hx186_2); (try rw [show 0 * 4 = 0 from rfl] at hx186_2); (try rw [Addr.add_zero'] at hx186_2); (try rw [show ((0 : Int)).toNat = 0 from rfl] at hx186_3); (try rw [show 0 * 4 = 0 from rfl] at hx186_3); (try rw [Addr.add_zero'] at hx186_3); replace p186 := eq_true p186; replace q186 := eq_true q186))
            go_ret
            exact ⟨rsl_, bel_⟩
           ·rw [if_neg c13] at H
            exact absurd H (by simp)
          ·rw [if_neg c12] at H
           exact absurd H (by simp)
         ·rw [if_neg c11] at H
          exact absurd H (by simp)
        ·rw [if_neg c10] at H
         exact absurd H (by simp)
       ·rw [if_neg c9] at H
        exact absurd H (by simp)
      ·rw [if_neg c8] at H
       exact absurd H (by simp)
     ·rw [if_neg c7] at H
      exact absurd H (by simp)
    ·rw [if_neg c6] at H
     exact absurd H (by simp)
   ·rw [if_neg c5] at H
    exact absurd H (by simp)
  ·rw [if_neg c4] at H
   exact absurd H (by simp)
 ·rw [if_neg c3] at H
  exact absurd H (by simp)

/-! ### parterrelaw03_TokenWhole: function 3 -/
mutual
def parterrelaw03_TokenWhole.l0 : Nat → List Int → List (S29) → Int → List (S29) → Int → Int → Option (Bool)
 | 0, _, _, _, _, _, _ => none
 | k + 1, x0, x3, x6, x40, x41, x42 => if x42 < x41 then (if 0 ≤ x42 then (if x42 < (x40.length : Int) then (if ((rd_T29 x40 x42).f1) < x6 then (parterrelaw03_TokenWhole.j1 k x0 x3 x42 x40 x41 x42 true ((rd_T29 x40 x42).f0) ((rd_T29 x40 x42).f1) ((rd_T29 x40 x42).f2) ((rd_T29 x40 x42).f3)) else (if ((rd_T29 x40 x42).f1) > (x0.length : Int) then (parterrelaw03_TokenWhole.j1 k x0 x3 x42 x40 x41 x42 true ((rd_T29 x40 x42).f0) ((rd_T29 x40 x42).f1) ((rd_T29 x40 x42).f2) ((rd_T29 x40 x42).f3)) else (if ((((rd_T29 x40 x42).f0) == 8) != (x42 == (wrap64 ((x3.length : Int) - 1)))) = true then (parterrelaw03_TokenWhole.j1 k x0 x3 x42 x40 x41 x42 true ((rd_T29 x40 x42).f0) ((rd_T29 x40 x42).f1) ((rd_T29 x40 x42).f2) ((rd_T29 x40 x42).f3)) else (if ((rd_T29 x40 x42).f0) = 8 then (parterrelaw03_TokenWhole.j1 k x0 x3 x42 x40 x41 x42 (((rd_T29 x40 x42).f1) != (x0.length : Int)) ((rd_T29 x40 x42).f0) ((rd_T29 x40 x42).f1) ((rd_T29 x40 x42).f2) ((rd_T29 x40 x42).f3)) else (parterrelaw03_TokenWhole.j1 k x0 x3 x42 x40 x41 x42 false ((rd_T29 x40 x42).f0) ((rd_T29 x40 x42).f1) ((rd_T29 x40 x42).f2) ((rd_T29 x40 x42).f3)))))) else (none)) else (none)) else (if (x3.length : Int) > 0 then ((parterrelaw03_lives.f k).bind fun t194 => (some t194)) else (none))
def parterrelaw03_TokenWhole.j1 : Nat → List Int → List (S29) → Int → List (S29) → Int → Int → Bool → Int → Int → ByteArray → ByteArray → Option (Bool)
 | 0, _, _, _, _, _, _, _, _, _, _, _ => none
 | k + 1, x0, x3, x7, x40, x41, x42, x80, x197000, x197001, x197002, x197003 => if x80 = true then (none) else (if x197000 = 8 then (if 0 ≤ x197001 then (if x197001 ≤ (x0.length : Int) then ((token_Tokens.f k (x0.drop (x197001 : Int).toNat)).bind fun bt198 => (if bt198.2.2 = 0 then (if (bt198.1.length : Int) = (wrap64 ((x3.length : Int) - x7)) then (if 0 < (bt198.1.length : Int) then (if ((rd_T29 bt198.1 0).f0) = x197000 then (if ((rd_T29 bt198.1 0).f2).toList = x197002.toList then (if ((rd_T29 bt198.1 0).f3).toList = x197003.toList then (parterrelaw03_TokenWhole.l0 k x0 x3 x197001 x40 x41 (wrap64 (x42 + 1))) else (none)) else (none)) else (none)) else (none)) else (none)) else (none))) else (none)) else (none)) else (if 0 ≤ x197001 then (if x197001 ≤ (x0.length : Int) then ((token_Tokens.f k (x0.drop (x197001 : Int).toNat)).bind fun bt207 => (if bt207.2.2 = 0 then (if (bt207.1.length : Int) = (wrap64 ((x3.length : Int) - x7)) then (if 0 < (bt207.1.length : Int) then (if ((rd_T29 bt207.1 0).f0) = x197000 then (if ((rd_T29 bt207.1 0).f2).toList = x197002.toList then (if ((rd_T29 bt207.1 0).f3).toList = x197003.toList then (parterrelaw03_TokenWhole.l0 k x0 x3 (wrap64 (x197001 + 1)) x40 x41 (wrap64 (x42 + 1))) else (none)) else (none)) else (none)) else (none)) else (none)) else (none))) else (none)) else (none)))
end
def parterrelaw03_TokenWhole.f (k : Nat) (l0 : List Int) : Option (Bool) := if (l0.length : Int) > 2000 then ((parterrelaw03_lives.f k).bind fun t187 => (some t187)) else ((token_Tokens.f k l0).bind fun bt188 => (if bt188.2.2 = 0 then (parterrelaw03_TokenWhole.l0 k l0 bt188.1 0 bt188.1 (bt188.1.length : Int) 0) else (if bt188.2.1 ≥ 0 then (if bt188.2.1 ≤ (l0.length : Int) then (if (bt188.1.length : Int) = 0 then ((parterrelaw03_lives.f k).bind fun t193 => (some t193)) else (none)) else (none)) else (none))))
theorem parterrelaw03_TokenWhole.mono_l : ∀ k, (∀ y0 y1 y2 y3 y4 y5, LeO (parterrelaw03_TokenWhole.l0 k y0 y1 y2 y3 y4 y5) (parterrelaw03_TokenWhole.l0 (k + 1) y0 y1 y2 y3 y4 y5)) ∧ (∀ y0 y1 y2 y3 y4 y5 y6 y7 y8 y9 y10, LeO (parterrelaw03_TokenWhole.j1 k y0 y1 y2 y3 y4 y5 y6 y7 y8 y9 y10) (parterrelaw03_TokenWhole.j1 (k + 1) y0 y1 y2 y3 y4 y5 y6 y7 y8 y9 y10))
 | 0 => ⟨fun _ _ _ _ _ _ r h => by simp [parterrelaw03_TokenWhole.l0] at h, fun _ _ _ _ _ _ _ _ _ _ _ r h => by simp [parterrelaw03_TokenWhole.j1] at h⟩
 | k + 1 => by
  obtain ⟨ih0, ih1⟩ := parterrelaw03_TokenWhole.mono_l k
  refine ⟨?_, ?_⟩
  ·intro y0 y1 y2 y3 y4 y5
   unfold parterrelaw03_TokenWhole.l0
   repeat' first
   | (with_reducible exact ih0 _ _ _ _ _ _)
   | (with_reducible exact ih1 _ _ _ _ _ _ _ _ _ _ _)
   | (with_reducible exact parterrelaw03_lives.mono _)
   | (with_reducible exact token_Tokens.mono _ _)
   | (with_reducible exact LeO.refl _)
   | (with_reducible exact LeO.none _)
   | (with_reducible refine LeO.ite ?_ ?_)
   | (with_reducible refine LeO.bind ?_ (fun _ => ?_))
  ·intro y0 y1 y2 y3 y4 y5 y6 y7 y8 y9 y10
   unfold parterrelaw03_TokenWhole.j1
   repeat' first
   | (with_reducible exact ih0 _ _ _ _ _ _)
   | (with_reducible exact ih1 _ _ _ _ _ _ _ _ _ _ _)
   | (with_reducible exact parterrelaw03_lives.mono _)
   | (with_reducible exact token_Tokens.mono _ _)
   | (with_reducible exact LeO.refl _)
   | (with_reducible exact LeO.none _)
   | (with_reducible refine LeO.ite ?_ ?_)
   | (with_reducible refine LeO.bind ?_ (fun _ => ?_))
theorem parterrelaw03_TokenWhole.mono : ∀ a0 k, LeO (parterrelaw03_TokenWhole.f k a0) (parterrelaw03_TokenWhole.f (k + 1) a0) := by
 intro a0 k
 obtain ⟨ih0, ih1⟩ := parterrelaw03_TokenWhole.mono_l k
 unfold parterrelaw03_TokenWhole.f
 repeat' first
   | (with_reducible exact ih0 _ _ _ _ _ _)
   | (with_reducible exact ih1 _ _ _ _ _ _ _ _ _ _ _)
   | (with_reducible exact parterrelaw03_lives.mono _)
   | (with_reducible exact token_Tokens.mono _ _)
   | (with_reducible exact LeO.refl _)
   | (with_reducible exact LeO.none _)
   | (with_reducible refine LeO.ite ?_ ?_)
   | (with_reducible refine LeO.bind ?_ (fun _ => ?_))
set_option maxHeartbeats 8000000 in
set_option maxRecDepth 100000 in
theorem parterrelaw03_TokenWhole.calls (k : Nat) (A0 : Option Addr) (c0 : Nat) (l0 : List Int) (r : Bool) (w : World) (hr0 : Kd.C (Kd.int .u8) w A0 l0.length l0) (hc0 : l0.length ≤ c0) (h : parterrelaw03_TokenWhole.f k l0 = some r) (htab : Ml w) :
  Calls Try.prog 3 #[.slice A0 l0.length c0] w fun e w' => e = .returned (.bool r) ∧ Below w.heap.size w w' := by
 have HTB := Aside0.mk htab
 clear htab
 have hu29 := Try.underlying29
 have HR0 := Aside0.mk hr0
 have HC0 := Aside0.mk hc0
 clear hr0 hc0
 have HB := Aside0.mk (Below.refl w.heap.size w)
 have H : (if (l0.length : Int) > 2000 then ((parterrelaw03_lives.f k).bind fun t187 => (some t187)) else ((token_Tokens.f k l0).bind fun bt188 => (if bt188.2.2 = 0 then (parterrelaw03_TokenWhole.l0 k l0 bt188.1 0 bt188.1 (bt188.1.length : Int) 0) else (if bt188.2.1 ≥ 0 then (if bt188.2.1 ≤ (l0.length : Int) then (if (bt188.1.length : Int) = 0 then ((parterrelaw03_lives.f k).bind fun t193 => (some t193)) else (none)) else (none)) else (none))))) = some r := h
 clear h
 by_cases c2 : (l0.length : Int) > 2000
 ·rw [if_pos c2] at H
  have c2b0 : decide (2000 < (l0.length : Int)) = true := decide_eq_true c2
  have c2b1 : decide (2000 < l0.length) = true := decide_eq_true (by omega)
  clear c2
  replace H := Option.bind_eq_some_iff.mp H
  obtain ⟨t187, A30, H⟩ := H
  try dsimp only at H
  have A3 := Aside0.mk A30
  clear A30
  obtain rfl := Option.some.inj H
  go_enter Try.func3, Try.ntmps3
  go_wp2_with (first | (go_at_call 5; (with_reducible refine (parterrelaw03_lives.calls k  t187 _ A3.out (Ml.below HTB.out bel_)).mono ?_); rintro e w4 ⟨rfl, hb⟩; have n0_ := Aside0.mk (below_step bel_ hb); clear HB; have HB := n0_; clear n0_; clear hb))
  repeat (go_quiet (first | (go_at_call 5; (with_reducible refine (parterrelaw03_lives.calls k  t187 _ A3.out (Ml.below HTB.out bel_)).mono ?_); rintro e w4 ⟨rfl, hb⟩; have n0_ := Aside0.mk (below_step bel_ hb); clear HB; have HB := n0_; clear n0_; clear hb)); try go_wp2_with (first | (go_at_call 5; (with_reducible refine (parterrelaw03_lives.calls k  t187 _ A3.out (Ml.below HTB.out bel_)).mono ?_); rintro e w4 ⟨rfl, hb⟩; have n0_ := Aside0.mk (below_step bel_ hb); clear HB; have HB := n0_; clear n0_; clear hb)))
  go_ret
  exact ⟨rsl_, bel_⟩
 ·rw [if_neg c2] at H
  have c2b0 : decide (2000 < (l0.length : Int)) = false := decide_eq_false c2
  have c2b1 : decide (2000 < l0.length) = false := decide_eq_false (by omega)
  clear c2
  replace H := Option.bind_eq_some_iff.mp H
  obtain ⟨⟨t188, t189, t190⟩, A50, H⟩ := H
  try dsimp only at H
  have A5 := Aside0.mk A50
  clear A50
  by_cases c6 : t190 = 0
  ·rw [if_pos c6] at H
   have c6b0 : (t190 == 0) = true := beq_iff_eq.mpr c6
   have c6b1 : (t190 != 0) = false := bne_eq_false_iff_eq.mpr c6
   clear c6
   have H' := Aside0.mk H
   clear H
   go_enter Try.func3, Try.ntmps3
   go_wp2_with (first | (go_at_call 6; (with_reducible refine (token_Tokens.calls k _ _ l0 t188 t189 t190 _ ?side1 ?side2 A5.out (Ml.below HTB.out bel_)).mono ?_); (case side1 => repeat (first | exact HR0.out | (with_reducible refine Kd.C_alloc ?_ _) | (with_reducible refine Kd.C_drewN ?_ _) | (with_reducible refine Kd.C_drew ?_))); (case side2 => exact HC0.out); rintro e w7 ⟨v191, rfl, ho0, hb⟩; have n0_ := Aside0.mk (Kd.R_lower ho0 (below_size bel_)); have n1_ := Aside0.mk (below_step bel_ hb); clear HB; have HO192 := n0_; have HB := n1_; clear n0_ n1_; (try clear hb); (try clear hb2); (try clear hk); (try clear hi); (try clear ho0); obtain ⟨Ao8, co8, eo8⟩ := Kd.R_slice HO192.out; subst eo8))
   repeat (go_quiet (first | (go_at_call 6; (with_reducible refine (token_Tokens.calls k _ _ l0 t188 t189 t190 _ ?side1 ?side2 A5.out (Ml.below HTB.out bel_)).mono ?_); (case side1 => repeat (first | exact HR0.out | (with_reducible refine Kd.C_alloc ?_ _) | (with_reducible refine Kd.C_drewN ?_ _) | (with_reducible refine Kd.C_drew ?_))); (case side2 => exact HC0.out); rintro e w7 ⟨v191, rfl, ho0, hb⟩; have n0_ := Aside0.mk (Kd.R_lower ho0 (below_size bel_)); have n1_ := Aside0.mk (below_step bel_ hb); clear HB; have HO192 := n0_; have HB := n1_; clear n0_ n1_; (try clear hb); (try clear hb2); (try clear hk); (try clear hi); (try clear ho0); obtain ⟨Ao8, co8, eo8⟩ := Kd.R_slice HO192.out; subst eo8)); try go_wp2_with (first | (go_at_call 6; (with_reducible refine (token_Tokens.calls k _ _ l0 t188 t189 t190 _ ?side1 ?side2 A5.out (Ml.below HTB.out bel_)).mono ?_); (case side1 => repeat (first | exact HR0.out | (with_reducible refine Kd.C_alloc ?_ _) | (with_reducible refine Kd.C_drewN ?_ _) | (with_reducible refine Kd.C_drew ?_))); (case side2 => exact HC0.out); rintro e w7 ⟨v191, rfl, ho0, hb⟩; have n0_ := Aside0.mk (Kd.R_lower ho0 (below_size bel_)); have n1_ := Aside0.mk (below_step bel_ hb); clear HB; have HO192 := n0_; have HB := n1_; clear n0_ n1_; (try clear hb); (try clear hb2); (try clear hk); (try clear hi); (try clear ho0); obtain ⟨Ao8, co8, eo8⟩ := Kd.R_slice HO192.out; subst eo8)))
   go_loopg [6, 42] k (fun kq v6 v42 w' => ∃ (x6_1 : Int) (x42_1 : Int), v6 = .int .i64 x6_1 ∧ v42 = .int .i64 x42_1 ∧ Aside0 (parterrelaw03_TokenWhole.l0 kq l0 t188 x6_1 t188 (t188.length : Int) x42_1 = some r) ∧ Aside0 (kq ≤ k) ∧ Aside0 (Kd.R k29 29 w' w.heap.size (fun _ => True) (.slice Ao8 t188.length co8) t188) ∧ Aside0 (Kd.R k29 29 w' w.heap.size (fun _ => True) (.slice Ao8 t188.length co8) t188) ∧ Aside0 (Below w.heap.size w w'))
   case atStart => exact ⟨(0), (0), rfs_, rfs_, H', ⟨Nat.le_refl _⟩, ⟨by (with_reducible repeat (first | apply Kd.R_alloc | apply Kd.R_drewN | apply Kd.R_drew)); exact HO192.out⟩, ⟨by (with_reducible repeat (first | apply Kd.R_alloc | apply Kd.R_drewN | apply Kd.R_drew)); exact HO192.out⟩, ⟨bel_⟩⟩
   case round =>
    clear H'
    try clear c2
    try clear c2b0
    try clear c2b1
    try clear p2
    try clear c3
    try clear c6
    try clear c6b0
    try clear c6b1
    obtain ⟨x6_1, x42_1, rfl, rfl, HA, HK1, HO_3, HO_40, HB⟩ := hrel
    cases gk with
    | zero => exact absurd HA.out (by simp [parterrelaw03_TokenWhole.l0])
    | succ k1 =>
     have H := HA.out
     clear HA
     simp only [parterrelaw03_TokenWhole.l0] at H
     by_cases c9 : x42_1 < (t188.length : Int)
     ·rw [if_pos c9] at H
      have c9b0 : decide (x42_1 < (t188.length : Int)) = true := decide_eq_true c9
      clear c9
      by_cases c10 : 0 ≤ x42_1
      ·rw [if_pos c10] at H
       have c10b0 : decide (0 ≤ x42_1) = true := decide_eq_true c10
       clear c10
       by_cases c11 : x42_1 < (t188.length : Int)
       ·rw [if_pos c11] at H
        have c11b0 : decide (x42_1 < (t188.length : Int)) = true := decide_eq_true c11
        clear c11
        have HC12 := Aside0.mk H
        clear H
        have p195 : 0 ≤ (x42_1 : Int) := of_decide_eq_true (by first | (with_reducible assumption) | assumption)
        have q195 : x42_1 < (t188.length : Int) := of_decide_eq_true (by first | (with_reducible assumption) | assumption)
        obtain ⟨ad195, e195, hx195_0, hx195_1, hx195_2, hx195_3⟩ := at_T29 (Kd.R_reads' HO_40.out).2.2 x42_1 p195 q195
        cases e195
        replace p195 := eq_true p195
        replace q195 := eq_true q195
        go_upto_region 10 with (first | ((with_reducible refine gate_dst (N := 8) rfl ?_); (try (refine gate_guard (by rfl) ?_; dsimp only)); refine box_event ?hg (N := 8) ?hd (cs := #[.int .i64 0, .int .i64 0, .string (⟨#[]⟩ : ByteArray), .string (⟨#[]⟩ : ByteArray)]) (t := 29) ?hr ?_; (case hd => rfl); (case hg => rfl); (case hr => first | (go_simp; done) | (go_simp; rfl)); intro gb196 hg w13 hbox hb; have n0_ := Aside0.mk (Kd.R_below (Kd.R_elderB (by (with_reducible repeat (first | apply Kd.R_alloc | apply Kd.R_drewN | apply Kd.R_drew)); exact HO_3.out) gb196 (Nat.le_of_eq hg.symm)) hb); have n1_ := Aside0.mk (Kd.R_below (Kd.R_elderB (by (with_reducible repeat (first | apply Kd.R_alloc | apply Kd.R_drewN | apply Kd.R_drew)); exact HO_40.out) gb196 (Nat.le_of_eq hg.symm)) hb); have n2_ := Aside0.mk (below_step bel_ hb); have n3_ := Aside0.mk (hbox); have n4_ := Aside0.mk ((bsz_ hg : w.heap.size ≤ gb196)); have n5_ := Aside0.mk ((bsz_ hg : w.heap.size ≤ gb196)); clear HO_3; clear HO_40; clear HB; have HO_3 := n0_; have HO_40 := n1_; have HB := n2_; have BK196 := n3_; have GW196 := n4_; have GE196 := n5_; clear n0_ n1_ n2_ n3_ n4_ n5_; clear hb hbox hg; have hcz14_0 : w13.cell? ⟨gb196, 0, none⟩ = some (.int .i64 0) := (blk_cell BK196.out 0).trans rfl; have hcz14_1 : w13.cell? ⟨gb196, 1, none⟩ = some (.int .i64 0) := (blk_cell BK196.out 1).trans rfl; have hcz14_2 : w13.cell? ⟨gb196, 2, none⟩ = some (.string (⟨#[]⟩ : ByteArray)) := (blk_cell BK196.out 2).trans rfl; have hcz14_3 : w13.cell? ⟨gb196, 3, none⟩ = some (.string (⟨#[]⟩ : ByteArray)) := (blk_cell BK196.out 3).trans rfl; have hfz14_0 := blk_frozen BK196.out 0; have hfz14_1 := blk_frozen BK196.out 1; have hfz14_2 := blk_frozen BK196.out 2; have hfz14_3 := blk_frozen BK196.out 3))
        repeat (go_quiet (first | ((with_reducible refine gate_dst (N := 8) rfl ?_); (try (refine gate_guard (by rfl) ?_; dsimp only)); refine box_event ?hg (N := 8) ?hd (cs := #[.int .i64 0, .int .i64 0, .string (⟨#[]⟩ : ByteArray), .string (⟨#[]⟩ : ByteArray)]) (t := 29) ?hr ?_; (case hd => rfl); (case hg => rfl); (case hr => first | (go_simp; done) | (go_simp; rfl)); intro gb196 hg w13 hbox hb; have n0_ := Aside0.mk (Kd.R_below (Kd.R_elderB (by (with_reducible repeat (first | apply Kd.R_alloc | apply Kd.R_drewN | apply Kd.R_drew)); exact HO_3.out) gb196 (Nat.le_of_eq hg.symm)) hb); have n1_ := Aside0.mk (Kd.R_below (Kd.R_elderB (by (with_reducible repeat (first | apply Kd.R_alloc | apply Kd.R_drewN | apply Kd.R_drew)); exact HO_40.out) gb196 (Nat.le_of_eq hg.symm)) hb); have n2_ := Aside0.mk (below_step bel_ hb); have n3_ := Aside0.mk (hbox); have n4_ := Aside0.mk ((bsz_ hg : w.heap.size ≤ gb196)); have n5_ := Aside0.mk ((bsz_ hg : w.heap.size ≤ gb196)); clear HO_3; clear HO_40; clear HB; have HO_3 := n0_; have HO_40 := n1_; have HB := n2_; have BK196 := n3_; have GW196 := n4_; have GE196 := n5_; clear n0_ n1_ n2_ n3_ n4_ n5_; clear hb hbox hg; have hcz14_0 : w13.cell? ⟨gb196, 0, none⟩ = some (.int .i64 0) := (blk_cell BK196.out 0).trans rfl; have hcz14_1 : w13.cell? ⟨gb196, 1, none⟩ = some (.int .i64 0) := (blk_cell BK196.out 1).trans rfl; have hcz14_2 : w13.cell? ⟨gb196, 2, none⟩ = some (.string (⟨#[]⟩ : ByteArray)) := (blk_cell BK196.out 2).trans rfl; have hcz14_3 : w13.cell? ⟨gb196, 3, none⟩ = some (.string (⟨#[]⟩ : ByteArray)) := (blk_cell BK196.out 3).trans rfl; have hfz14_0 := blk_frozen BK196.out 0; have hfz14_1 := blk_frozen BK196.out 1; have hfz14_2 := blk_frozen BK196.out 2; have hfz14_3 := blk_frozen BK196.out 3)); go_upto_region 10 with (first | ((with_reducible refine gate_dst (N := 8) rfl ?_); (try (refine gate_guard (by rfl) ?_; dsimp only)); refine box_event ?hg (N := 8) ?hd (cs := #[.int .i64 0, .int .i64 0, .string (⟨#[]⟩ : ByteArray), .string (⟨#[]⟩ : ByteArray)]) (t := 29) ?hr ?_; (case hd => rfl); (case hg => rfl); (case hr => first | (go_simp; done) | (go_simp; rfl)); intro gb196 hg w13 hbox hb; have n0_ := Aside0.mk (Kd.R_below (Kd.R_elderB (by (with_reducible repeat (first | apply Kd.R_alloc | apply Kd.R_drewN | apply Kd.R_drew)); exact HO_3.out) gb196 (Nat.le_of_eq hg.symm)) hb); have n1_ := Aside0.mk (Kd.R_below (Kd.R_elderB (by (with_reducible repeat (first | apply Kd.R_alloc | apply Kd.R_drewN | apply Kd.R_drew)); exact HO_40.out) gb196 (Nat.le_of_eq hg.symm)) hb); have n2_ := Aside0.mk (below_step bel_ hb); have n3_ := Aside0.mk (hbox); have n4_ := Aside0.mk ((bsz_ hg : w.heap.size ≤ gb196)); have n5_ := Aside0.mk ((bsz_ hg : w.heap.size ≤ gb196)); clear HO_3; clear HO_40; clear HB; have HO_3 := n0_; have HO_40 := n1_; have HB := n2_; have BK196 := n3_; have GW196 := n4_; have GE196 := n5_; clear n0_ n1_ n2_ n3_ n4_ n5_; clear hb hbox hg; have hcz14_0 : w13.cell? ⟨gb196, 0, none⟩ = some (.int .i64 0) := (blk_cell BK196.out 0).trans rfl; have hcz14_1 : w13.cell? ⟨gb196, 1, none⟩ = some (.int .i64 0) := (blk_cell BK196.out 1).trans rfl; have hcz14_2 : w13.cell? ⟨gb196, 2, none⟩ = some (.string (⟨#[]⟩ : ByteArray)) := (blk_cell BK196.out 2).trans rfl; have hcz14_3 : w13.cell? ⟨gb196, 3, none⟩ = some (.string (⟨#[]⟩ : ByteArray)) := (blk_cell BK196.out 3).trans rfl; have hfz14_0 := blk_frozen BK196.out 0; have hfz14_1 := blk_frozen BK196.out 1; have hfz14_2 := blk_frozen BK196.out 2; have hfz14_3 := blk_frozen BK196.out 3)))
        (try simp only [Act.put, List.setIfInBounds_toArray, List.set_cons_zero, List.set_cons_succ])
        go_cut [80] (fun v80 wc => ∃ (kq : Nat) (x80_11 : Bool), v80 = .bool x80_11 ∧ Aside0 (parterrelaw03_TokenWhole.j1 kq l0 t188 x42_1 t188 (t188.length : Int) x42_1 x80_11 ((rd_T29 t188 x42_1).f0) ((rd_T29 t188 x42_1).f1) ((rd_T29 t188 x42_1).f2) ((rd_T29 t188 x42_1).f3) = some r) ∧ Aside0 (kq ≤ k1) ∧ Aside0 (Kd.R k29 29 wc w.heap.size (fun k_ => k_ ≠ gb196) (.slice (some ad195) t188.length co8) t188) ∧ Aside0 (Kd.R k29 29 wc w.heap.size (fun k_ => k_ ≠ gb196) (.slice (some ad195) t188.length co8) t188) ∧ Aside0 (wc.heap[gb196]? = some (.cells #[.int .i64 ((rd_T29 t188 x42_1).f0), .int .i64 ((rd_T29 t188 x42_1).f1), .string ((rd_T29 t188 x42_1).f2), .string ((rd_T29 t188 x42_1).f3)] 29 (0, 0))) ∧ Aside0 (Below w.heap.size w wc))
        case first =>
         have H := HC12.out
         clear HC12
         by_cases c15 : ((rd_T29 t188 x42_1).f1) < x6_1
         ·rw [if_pos c15] at H
          have c15b0 : decide (((rd_T29 t188 x42_1).f1) < x6_1) = true := decide_eq_true c15
          clear c15
          (first | rw [c15b0] | (simp only [i64_w, i32_w]; rw [c15b0]) | skip)
          have H' := Aside0.mk H
          clear H
          have hcz16_0 : w13.cell? ⟨gb196, 0, none⟩ = some (.int .i64 0) := (blk_cell BK196.out 0).trans rfl
          have hcz16_1 : w13.cell? ⟨gb196, 1, none⟩ = some (.int .i64 0) := (blk_cell BK196.out 1).trans rfl
          have hcz16_2 : w13.cell? ⟨gb196, 2, none⟩ = some (.string (⟨#[]⟩ : ByteArray)) := (blk_cell BK196.out 2).trans rfl
          have hcz16_3 : w13.cell? ⟨gb196, 3, none⟩ = some (.string (⟨#[]⟩ : ByteArray)) := (blk_cell BK196.out 3).trans rfl
          have hfz16_0 := blk_frozen BK196.out 0
          have hfz16_1 := blk_frozen BK196.out 1
          have hfz16_2 := blk_frozen BK196.out 2
          have hfz16_3 := blk_frozen BK196.out 3
          go_wp2
          repeat (go_quiet (fail); try go_wp2)
          go_meet
          case rel => exact ⟨_, (true), rfs_, H', ⟨by have := HK1.out; first | omega | exact Nat.le_refl _⟩, ⟨by (with_reducible repeat (first | apply Kd.R_alloc | apply Kd.R_drewN | apply Kd.R_drew)); exact Kd.R_mono (Kd.R_far (p := ⟨gb196, 3, none⟩) (Kd.R_far (p := ⟨gb196, 2, none⟩) (Kd.R_far (p := ⟨gb196, 1, none⟩) (Kd.R_far (p := ⟨gb196, 0, none⟩) (Kd.R_mono HO_3.out (fun k_ hk => (⟨hk, hk.2⟩ : _ ∧ k_ ≠ gb196))) (fun _ hk => hk.2) (.int .i64 ((rd_T29 t188 x42_1).f0))) (fun _ hk => hk.2) (.int .i64 ((rd_T29 t188 x42_1).f1))) (fun _ hk => hk.2) (.string ((rd_T29 t188 x42_1).f2))) (fun _ hk => hk.2) (.string ((rd_T29 t188 x42_1).f3))) (fun _ hk => hk.1.2)⟩, ⟨by (with_reducible repeat (first | apply Kd.R_alloc | apply Kd.R_drewN | apply Kd.R_drew)); exact Kd.R_mono (Kd.R_far (p := ⟨gb196, 3, none⟩) (Kd.R_far (p := ⟨gb196, 2, none⟩) (Kd.R_far (p := ⟨gb196, 1, none⟩) (Kd.R_far (p := ⟨gb196, 0, none⟩) (Kd.R_mono HO_40.out (fun k_ hk => (⟨hk, hk.2⟩ : _ ∧ k_ ≠ gb196))) (fun _ hk => hk.2) (.int .i64 ((rd_T29 t188 x42_1).f0))) (fun _ hk => hk.2) (.int .i64 ((rd_T29 t188 x42_1).f1))) (fun _ hk => hk.2) (.string ((rd_T29 t188 x42_1).f2))) (fun _ hk => hk.2) (.string ((rd_T29 t188 x42_1).f3))) (fun _ hk => hk.1.2)⟩, ⟨by (with_reducible repeat (first | refine blk_drewN ?_ _ | refine blk_drew ?_ | refine blk_alloc ?_ _)); refine blk_put (cs := #[.int .i64 ((rd_T29 t188 x42_1).f0), .int .i64 ((rd_T29 t188 x42_1).f1), .string ((rd_T29 t188 x42_1).f2), .string (⟨#[]⟩ : ByteArray)]) ?_ 3 _ rfl; (with_reducible repeat (first | refine blk_drewN ?_ _ | refine blk_drew ?_ | refine blk_alloc ?_ _)); refine blk_put (cs := #[.int .i64 ((rd_T29 t188 x42_1).f0), .int .i64 ((rd_T29 t188 x42_1).f1), .string (⟨#[]⟩ : ByteArray), .string (⟨#[]⟩ : ByteArray)]) ?_ 2 _ rfl; (with_reducible repeat (first | refine blk_drewN ?_ _ | refine blk_drew ?_ | refine blk_alloc ?_ _)); refine blk_put (cs := #[.int .i64 ((rd_T29 t188 x42_1).f0), .int .i64 0, .string (⟨#[]⟩ : ByteArray), .string (⟨#[]⟩ : ByteArray)]) ?_ 1 _ rfl; (with_reducible repeat (first | refine blk_drewN ?_ _ | refine blk_drew ?_ | refine blk_alloc ?_ _)); refine blk_put (cs := #[.int .i64 0, .int .i64 0, .string (⟨#[]⟩ : ByteArray), .string (⟨#[]⟩ : ByteArray)]) ?_ 0 _ rfl; (with_reducible repeat (first | refine blk_drewN ?_ _ | refine blk_drew ?_ | refine blk_alloc ?_ _)); exact BK196.out⟩, ⟨bel_⟩⟩
         ·rw [if_neg c15] at H
          have c15b0 : decide (((rd_T29 t188 x42_1).f1) < x6_1) = false := decide_eq_false c15
          clear c15
          (first | rw [c15b0] | (simp only [i64_w, i32_w]; rw [c15b0]) | skip)
          by_cases c17 : ((rd_T29 t188 x42_1).f1) > (l0.length : Int)
          ·rw [if_pos c17] at H
           have c17b0 : decide ((l0.length : Int) < ((rd_T29 t188 x42_1).f1)) = true := decide_eq_true c17
           clear c17
           have H' := Aside0.mk H
           clear H
           have hcz18_0 : w13.cell? ⟨gb196, 0, none⟩ = some (.int .i64 0) := (blk_cell BK196.out 0).trans rfl
           have hcz18_1 : w13.cell? ⟨gb196, 1, none⟩ = some (.int .i64 0) := (blk_cell BK196.out 1).trans rfl
           have hcz18_2 : w13.cell? ⟨gb196, 2, none⟩ = some (.string (⟨#[]⟩ : ByteArray)) := (blk_cell BK196.out 2).trans rfl
           have hcz18_3 : w13.cell? ⟨gb196, 3, none⟩ = some (.string (⟨#[]⟩ : ByteArray)) := (blk_cell BK196.out 3).trans rfl
           have hfz18_0 := blk_frozen BK196.out 0
           have hfz18_1 := blk_frozen BK196.out 1
           have hfz18_2 := blk_frozen BK196.out 2
           have hfz18_3 := blk_frozen BK196.out 3
           go_wp2
           repeat (go_quiet (fail); try go_wp2)
           go_meet
           case rel => exact ⟨_, (true), rfs_, H', ⟨by have := HK1.out; first | omega | exact Nat.le_refl _⟩, ⟨by (with_reducible repeat (first | apply Kd.R_alloc | apply Kd.R_drewN | apply Kd.R_drew)); exact Kd.R_mono (Kd.R_far (p := ⟨gb196, 3, none⟩) (Kd.R_far (p := ⟨gb196, 2, none⟩) (Kd.R_far (p := ⟨gb196, 1, none⟩) (Kd.R_far (p := ⟨gb196, 0, none⟩) (Kd.R_mono HO_3.out (fun k_ hk => (⟨hk, hk.2⟩ : _ ∧ k_ ≠ gb196))) (fun _ hk => hk.2) (.int .i64 ((rd_T29 t188 x42_1).f0))) (fun _ hk => hk.2) (.int .i64 ((rd_T29 t188 x42_1).f1))) (fun _ hk => hk.2) (.string ((rd_T29 t188 x42_1).f2))) (fun _ hk => hk.2) (.string ((rd_T29 t188 x42_1).f3))) (fun _ hk => hk.1.2)⟩, ⟨by (with_reducible repeat (first | apply Kd.R_alloc | apply Kd.R_drewN | apply Kd.R_drew)); exact Kd.R_mono (Kd.R_far (p := ⟨gb196, 3, none⟩) (Kd.R_far (p := ⟨gb196, 2, none⟩) (Kd.R_far (p := ⟨gb196, 1, none⟩) (Kd.R_far (p := ⟨gb196, 0, none⟩) (Kd.R_mono HO_40.out (fun k_ hk => (⟨hk, hk.2⟩ : _ ∧ k_ ≠ gb196))) (fun _ hk => hk.2) (.int .i64 ((rd_T29 t188 x42_1).f0))) (fun _ hk => hk.2) (.int .i64 ((rd_T29 t188 x42_1).f1))) (fun _ hk => hk.2) (.string ((rd_T29 t188 x42_1).f2))) (fun _ hk => hk.2) (.string ((rd_T29 t188 x42_1).f3))) (fun _ hk => hk.1.2)⟩, ⟨by (with_reducible repeat (first | refine blk_drewN ?_ _ | refine blk_drew ?_ | refine blk_alloc ?_ _)); refine blk_put (cs := #[.int .i64 ((rd_T29 t188 x42_1).f0), .int .i64 ((rd_T29 t188 x42_1).f1), .string ((rd_T29 t188 x42_1).f2), .string (⟨#[]⟩ : ByteArray)]) ?_ 3 _ rfl; (with_reducible repeat (first | refine blk_drewN ?_ _ | refine blk_drew ?_ | refine blk_alloc ?_ _)); refine blk_put (cs := #[.int .i64 ((rd_T29 t188 x42_1).f0), .int .i64 ((rd_T29 t188 x42_1).f1), .string (⟨#[]⟩ : ByteArray), .string (⟨#[]⟩ : ByteArray)]) ?_ 2 _ rfl; (with_reducible repeat (first | refine blk_drewN ?_ _ | refine blk_drew ?_ | refine blk_alloc ?_ _)); refine blk_put (cs := #[.int .i64 ((rd_T29 t188 x42_1).f0), .int .i64 0, .string (⟨#[]⟩ : ByteArray), .string (⟨#[]⟩ : ByteArray)]) ?_ 1 _ rfl; (with_reducible repeat (first | refine blk_drewN ?_ _ | refine blk_drew ?_ | refine blk_alloc ?_ _)); refine blk_put (cs := #[.int .i64 0, .int .i64 0, .string (⟨#[]⟩ : ByteArray), .string (⟨#[]⟩ : ByteArray)]) ?_ 0 _ rfl; (with_reducible repeat (first | refine blk_drewN ?_ _ | refine blk_drew ?_ | refine blk_alloc ?_ _)); exact BK196.out⟩, ⟨bel_⟩⟩
          ·rw [if_neg c17] at H
           have c17b0 : decide ((l0.length : Int) < ((rd_T29 t188 x42_1).f1)) = false := decide_eq_false c17
           clear c17
           by_cases c19 : ((((rd_T29 t188 x42_1).f0) == 8) != (x42_1 == (wrap64 ((t188.length : Int) - 1)))) = true
           ·rw [if_pos c19] at H
            have c19b0 : ((((rd_T29 t188 x42_1).f0) == 8) != (x42_1 == (wrap64 ((t188.length : Int) - 1)))) = true := c19
            (try (have c19b1 : decide ((((rd_T29 t188 x42_1).f0) == 8) = (x42_1 == (wrap64 ((t188.length : Int) - 1)))) = false := by simpa using c19))
            (try (have c19b2 : ((((rd_T29 t188 x42_1).f0) == 8) == (x42_1 == (wrap64 ((t188.length : Int) - 1)))) = false := by simpa using c19))
            (try (have c19b3 : ¬ ((((rd_T29 t188 x42_1).f0) == 8) = (x42_1 == (wrap64 ((t188.length : Int) - 1)))) := by simpa using c19))
            clear c19
            have H' := Aside0.mk H
            clear H
            have hcz20_0 : w13.cell? ⟨gb196, 0, none⟩ = some (.int .i64 0) := (blk_cell BK196.out 0).trans rfl
            have hcz20_1 : w13.cell? ⟨gb196, 1, none⟩ = some (.int .i64 0) := (blk_cell BK196.out 1).trans rfl
            have hcz20_2 : w13.cell? ⟨gb196, 2, none⟩ = some (.string (⟨#[]⟩ : ByteArray)) := (blk_cell BK196.out 2).trans rfl
            have hcz20_3 : w13.cell? ⟨gb196, 3, none⟩ = some (.string (⟨#[]⟩ : ByteArray)) := (blk_cell BK196.out 3).trans rfl
            have hfz20_0 := blk_frozen BK196.out 0
            have hfz20_1 := blk_frozen BK196.out 1
            have hfz20_2 := blk_frozen BK196.out 2
            have hfz20_3 := blk_frozen BK196.out 3
            go_wp2
            repeat (go_quiet (fail); try go_wp2)
            go_meet
            case rel => exact ⟨_, (true), rfs_, H', ⟨by have := HK1.out; first | omega | exact Nat.le_refl _⟩, ⟨by (with_reducible repeat (first | apply Kd.R_alloc | apply Kd.R_drewN | apply Kd.R_drew)); exact Kd.R_mono (Kd.R_far (p := ⟨gb196, 3, none⟩) (Kd.R_far (p := ⟨gb196, 2, none⟩) (Kd.R_far (p := ⟨gb196, 1, none⟩) (Kd.R_far (p := ⟨gb196, 0, none⟩) (Kd.R_mono HO_3.out (fun k_ hk => (⟨hk, hk.2⟩ : _ ∧ k_ ≠ gb196))) (fun _ hk => hk.2) (.int .i64 ((rd_T29 t188 x42_1).f0))) (fun _ hk => hk.2) (.int .i64 ((rd_T29 t188 x42_1).f1))) (fun _ hk => hk.2) (.string ((rd_T29 t188 x42_1).f2))) (fun _ hk => hk.2) (.string ((rd_T29 t188 x42_1).f3))) (fun _ hk => hk.1.2)⟩, ⟨by (with_reducible repeat (first | apply Kd.R_alloc | apply Kd.R_drewN | apply Kd.R_drew)); exact Kd.R_mono (Kd.R_far (p := ⟨gb196, 3, none⟩) (Kd.R_far (p := ⟨gb196, 2, none⟩) (Kd.R_far (p := ⟨gb196, 1, none⟩) (Kd.R_far (p := ⟨gb196, 0, none⟩) (Kd.R_mono HO_40.out (fun k_ hk => (⟨hk, hk.2⟩ : _ ∧ k_ ≠ gb196))) (fun _ hk => hk.2) (.int .i64 ((rd_T29 t188 x42_1).f0))) (fun _ hk => hk.2) (.int .i64 ((rd_T29 t188 x42_1).f1))) (fun _ hk => hk.2) (.string ((rd_T29 t188 x42_1).f2))) (fun _ hk => hk.2) (.string ((rd_T29 t188 x42_1).f3))) (fun _ hk => hk.1.2)⟩, ⟨by (with_reducible repeat (first | refine blk_drewN ?_ _ | refine blk_drew ?_ | refine blk_alloc ?_ _)); refine blk_put (cs := #[.int .i64 ((rd_T29 t188 x42_1).f0), .int .i64 ((rd_T29 t188 x42_1).f1), .string ((rd_T29 t188 x42_1).f2), .string (⟨#[]⟩ : ByteArray)]) ?_ 3 _ rfl; (with_reducible repeat (first | refine blk_drewN ?_ _ | refine blk_drew ?_ | refine blk_alloc ?_ _)); refine blk_put (cs := #[.int .i64 ((rd_T29 t188 x42_1).f0), .int .i64 ((rd_T29 t188 x42_1).f1), .string (⟨#[]⟩ : ByteArray), .string (⟨#[]⟩ : ByteArray)]) ?_ 2 _ rfl; (with_reducible repeat (first | refine blk_drewN ?_ _ | refine blk_drew ?_ | refine blk_alloc ?_ _)); refine blk_put (cs := #[.int .i64 ((rd_T29 t188 x42_1).f0), .int .i64 0, .string (⟨#[]⟩ : ByteArray), .string (⟨#[]⟩ : ByteArray)]) ?_ 1 _ rfl; (with_reducible repeat (first | refine blk_drewN ?_ _ | refine blk_drew ?_ | refine blk_alloc ?_ _)); refine blk_put (cs := #[.int .i64 0, .int .i64 0, .string (⟨#[]⟩ : ByteArray), .string (⟨#[]⟩ : ByteArray)]) ?_ 0 _ rfl; (with_reducible repeat (first | refine blk_drewN ?_ _ | refine blk_drew ?_ | refine blk_alloc ?_ _)); exact BK196.out⟩, ⟨bel_⟩⟩
           ·rw [if_neg c19] at H
            have c19b0 : ((((rd_T29 t188 x42_1).f0) == 8) != (x42_1 == (wrap64 ((t188.length : Int) - 1)))) = false := by simpa using c19
            (try (have c19b1 : decide ((((rd_T29 t188 x42_1).f0) == 8) = (x42_1 == (wrap64 ((t188.length : Int) - 1)))) = true := by simpa using c19))
            (try (have c19b2 : ((((rd_T29 t188 x42_1).f0) == 8) == (x42_1 == (wrap64 ((t188.length : Int) - 1)))) = true := by simpa using c19))
            clear c19
            by_cases c21 : ((rd_T29 t188 x42_1).f0) = 8
            ·rw [if_pos c21] at H
             have c21b0 : (((rd_T29 t188 x42_1).f0) == 8) = true := beq_iff_eq.mpr c21
             have hq_ : x42_1 = (wrap64 ((t188.length : Int) - 1)) := by rw [c21b0] at c19b0; simpa using c19b0
             subst hq_
             have c21b1 : (((rd_T29 t188 (wrap64 ((t188.length : Int) - 1))).f0) != 8) = false := bne_eq_false_iff_eq.mpr c21
             clear c21
             have H' := Aside0.mk H
             clear H
             have hcz22_0 : w13.cell? ⟨gb196, 0, none⟩ = some (.int .i64 0) := (blk_cell BK196.out 0).trans rfl
             have hcz22_1 : w13.cell? ⟨gb196, 1, none⟩ = some (.int .i64 0) := (blk_cell BK196.out 1).trans rfl
             have hcz22_2 : w13.cell? ⟨gb196, 2, none⟩ = some (.string (⟨#[]⟩ : ByteArray)) := (blk_cell BK196.out 2).trans rfl
             have hcz22_3 : w13.cell? ⟨gb196, 3, none⟩ = some (.string (⟨#[]⟩ : ByteArray)) := (blk_cell BK196.out 3).trans rfl
             have hfz22_0 := blk_frozen BK196.out 0
             have hfz22_1 := blk_frozen BK196.out 1
             have hfz22_2 := blk_frozen BK196.out 2
             have hfz22_3 := blk_frozen BK196.out 3
             go_wp2
             repeat (go_quiet (fail); try go_wp2)
             go_meet
             case rel => exact ⟨_, ((((rd_T29 t188 (wrap64 ((t188.length : Int) - 1))).f1) != (l0.length : Int))), rfs_, H', ⟨by have := HK1.out; first | omega | exact Nat.le_refl _⟩, ⟨by (with_reducible repeat (first | apply Kd.R_alloc | apply Kd.R_drewN | apply Kd.R_drew)); exact Kd.R_mono (Kd.R_far (p := ⟨gb196, 3, none⟩) (Kd.R_far (p := ⟨gb196, 2, none⟩) (Kd.R_far (p := ⟨gb196, 1, none⟩) (Kd.R_far (p := ⟨gb196, 0, none⟩) (Kd.R_mono HO_3.out (fun k_ hk => (⟨hk, hk.2⟩ : _ ∧ k_ ≠ gb196))) (fun _ hk => hk.2) (.int .i64 ((rd_T29 t188 (wrap64 ((t188.length : Int) - 1))).f0))) (fun _ hk => hk.2) (.int .i64 ((rd_T29 t188 (wrap64 ((t188.length : Int) - 1))).f1))) (fun _ hk => hk.2) (.string ((rd_T29 t188 (wrap64 ((t188.length : Int) - 1))).f2))) (fun _ hk => hk.2) (.string ((rd_T29 t188 (wrap64 ((t188.length : Int) - 1))).f3))) (fun _ hk => hk.1.2)⟩, ⟨by (with_reducible repeat (first | apply Kd.R_alloc | apply Kd.R_drewN | apply Kd.R_drew)); exact Kd.R_mono (Kd.R_far (p := ⟨gb196, 3, none⟩) (Kd.R_far (p := ⟨gb196, 2, none⟩) (Kd.R_far (p := ⟨gb196, 1, none⟩) (Kd.R_far (p := ⟨gb196, 0, none⟩) (Kd.R_mono HO_40.out (fun k_ hk => (⟨hk, hk.2⟩ : _ ∧ k_ ≠ gb196))) (fun _ hk => hk.2) (.int .i64 ((rd_T29 t188 (wrap64 ((t188.length : Int) - 1))).f0))) (fun _ hk => hk.2) (.int .i64 ((rd_T29 t188 (wrap64 ((t188.length : Int) - 1))).f1))) (fun _ hk => hk.2) (.string ((rd_T29 t188 (wrap64 ((t188.length : Int) - 1))).f2))) (fun _ hk => hk.2) (.string ((rd_T29 t188 (wrap64 ((t188.length : Int) - 1))).f3))) (fun _ hk => hk.1.2)⟩, ⟨by (with_reducible repeat (first | refine blk_drewN ?_ _ | refine blk_drew ?_ | refine blk_alloc ?_ _)); refine blk_put (cs := #[.int .i64 ((rd_T29 t188 (wrap64 ((t188.length : Int) - 1))).f0), .int .i64 ((rd_T29 t188 (wrap64 ((t188.length : Int) - 1))).f1), .string ((rd_T29 t188 (wrap64 ((t188.length : Int) - 1))).f2), .string (⟨#[]⟩ : ByteArray)]) ?_ 3 _ rfl; (with_reducible repeat (first | refine blk_drewN ?_ _ | refine blk_drew ?_ | refine blk_alloc ?_ _)); refine blk_put (cs := #[.int .i64 ((rd_T29 t188 (wrap64 ((t188.length : Int) - 1))).f0), .int .i64 ((rd_T29 t188 (wrap64 ((t188.length : Int) - 1))).f1), .string (⟨#[]⟩ : ByteArray), .string (⟨#[]⟩ : ByteArray)]) ?_ 2 _ rfl; (with_reducible repeat (first | refine blk_drewN ?_ _ | refine blk_drew ?_ | refine blk_alloc ?_ _)); refine blk_put (cs := #[.int .i64 ((rd_T29 t188 (wrap64 ((t188.length : Int) - 1))).f0), .int .i64 0, .string (⟨#[]⟩ : ByteArray), .string (⟨#[]⟩ : ByteArray)]) ?_ 1 _ rfl; (with_reducible repeat (first | refine blk_drewN ?_ _ | refine blk_drew ?_ | refine blk_alloc ?_ _)); refine blk_put (cs := #[.int .i64 0, .int .i64 0, .string (⟨#[]⟩ : ByteArray), .string (⟨#[]⟩ : ByteArray)]) ?_ 0 _ rfl; (with_reducible repeat (first | refine blk_drewN ?_ _ | refine blk_drew ?_ | refine blk_alloc ?_ _)); exact BK196.out⟩, ⟨bel_⟩⟩
            ·rw [if_neg c21] at H
             have c21b0 : (((rd_T29 t188 x42_1).f0) == 8) = false := beq_eq_false_iff_ne.mpr c21
             have hq_ : (x42_1 == (wrap64 ((t188.length : Int) - 1))) = false := by rw [c21b0] at c19b0; simpa using c19b0
             clear c19b0
             (try clear c19b1)
             (try clear c19b2)
             have c21b1 : (((rd_T29 t188 x42_1).f0) != 8) = true := bne_iff_ne.mpr c21
             have H' := Aside0.mk H
             clear H
             have hcz23_0 : w13.cell? ⟨gb196, 0, none⟩ = some (.int .i64 0) := (blk_cell BK196.out 0).trans rfl
             have hcz23_1 : w13.cell? ⟨gb196, 1, none⟩ = some (.int .i64 0) := (blk_cell BK196.out 1).trans rfl
             have hcz23_2 : w13.cell? ⟨gb196, 2, none⟩ = some (.string (⟨#[]⟩ : ByteArray)) := (blk_cell BK196.out 2).trans rfl
             have hcz23_3 : w13.cell? ⟨gb196, 3, none⟩ = some (.string (⟨#[]⟩ : ByteArray)) := (blk_cell BK196.out 3).trans rfl
             have hfz23_0 := blk_frozen BK196.out 0
             have hfz23_1 := blk_frozen BK196.out 1
             have hfz23_2 := blk_frozen BK196.out 2
             have hfz23_3 := blk_frozen BK196.out 3
             go_wp2
             repeat (go_quiet (fail); try go_wp2)
             go_meet
             case rel => exact ⟨_, (false), rfs_, H', ⟨by have := HK1.out; first | omega | exact Nat.le_refl _⟩, ⟨by (with_reducible repeat (first | apply Kd.R_alloc | apply Kd.R_drewN | apply Kd.R_drew)); exact Kd.R_mono (Kd.R_far (p := ⟨gb196, 3, none⟩) (Kd.R_far (p := ⟨gb196, 2, none⟩) (Kd.R_far (p := ⟨gb196, 1, none⟩) (Kd.R_far (p := ⟨gb196, 0, none⟩) (Kd.R_mono HO_3.out (fun k_ hk => (⟨hk, hk.2⟩ : _ ∧ k_ ≠ gb196))) (fun _ hk => hk.2) (.int .i64 ((rd_T29 t188 x42_1).f0))) (fun _ hk => hk.2) (.int .i64 ((rd_T29 t188 x42_1).f1))) (fun _ hk => hk.2) (.string ((rd_T29 t188 x42_1).f2))) (fun _ hk => hk.2) (.string ((rd_T29 t188 x42_1).f3))) (fun _ hk => hk.1.2)⟩, ⟨by (with_reducible repeat (first | apply Kd.R_alloc | apply Kd.R_drewN | apply Kd.R_drew)); exact Kd.R_mono (Kd.R_far (p := ⟨gb196, 3, none⟩) (Kd.R_far (p := ⟨gb196, 2, none⟩) (Kd.R_far (p := ⟨gb196, 1, none⟩) (Kd.R_far (p := ⟨gb196, 0, none⟩) (Kd.R_mono HO_40.out (fun k_ hk => (⟨hk, hk.2⟩ : _ ∧ k_ ≠ gb196))) (fun _ hk => hk.2) (.int .i64 ((rd_T29 t188 x42_1).f0))) (fun _ hk => hk.2) (.int .i64 ((rd_T29 t188 x42_1).f1))) (fun _ hk => hk.2) (.string ((rd_T29 t188 x42_1).f2))) (fun _ hk => hk.2) (.string ((rd_T29 t188 x42_1).f3))) (fun _ hk => hk.1.2)⟩, ⟨by (with_reducible repeat (first | refine blk_drewN ?_ _ | refine blk_drew ?_ | refine blk_alloc ?_ _)); refine blk_put (cs := #[.int .i64 ((rd_T29 t188 x42_1).f0), .int .i64 ((rd_T29 t188 x42_1).f1), .string ((rd_T29 t188 x42_1).f2), .string (⟨#[]⟩ : ByteArray)]) ?_ 3 _ rfl; (with_reducible repeat (first | refine blk_drewN ?_ _ | refine blk_drew ?_ | refine blk_alloc ?_ _)); refine blk_put (cs := #[.int .i64 ((rd_T29 t188 x42_1).f0), .int .i64 ((rd_T29 t188 x42_1).f1), .string (⟨#[]⟩ : ByteArray), .string (⟨#[]⟩ : ByteArray)]) ?_ 2 _ rfl; (with_reducible repeat (first | refine blk_drewN ?_ _ | refine blk_drew ?_ | refine blk_alloc ?_ _)); refine blk_put (cs := #[.int .i64 ((rd_T29 t188 x42_1).f0), .int .i64 0, .string (⟨#[]⟩ : ByteArray), .string (⟨#[]⟩ : ByteArray)]) ?_ 1 _ rfl; (with_reducible repeat (first | refine blk_drewN ?_ _ | refine blk_drew ?_ | refine blk_alloc ?_ _)); refine blk_put (cs := #[.int .i64 0, .int .i64 0, .string (⟨#[]⟩ : ByteArray), .string (⟨#[]⟩ : ByteArray)]) ?_ 0 _ rfl; (with_reducible repeat (first | refine blk_drewN ?_ _ | refine blk_drew ?_ | refine blk_alloc ?_ _)); exact BK196.out⟩, ⟨bel_⟩⟩
        case rest =>
         clear HC12
         try clear c1
         try clear p1
         try clear q1
         try clear hx1
         try clear c2
         try clear c2b0
         try clear c2b1
         try clear p2
         try clear c3
         try clear c6
         try clear c6b0
         try clear c6b1
         try clear p6
         try clear c9
         try clear c9b0
         try clear c10
         try clear c10b0
         try clear c11
         try clear c11b0
         try clear c15
         try clear c15b0
         try clear c17
         try clear c17b0
         try clear c19
         try clear c19b0
         try clear c19b1
         try clear c19b2
         try clear p19
         try clear q19
         try clear hx19
         try clear c21
         try clear c21b0
         try clear c21b1
         try clear hcz14_0
         try clear hcz14_1
         try clear hcz14_2
         try clear hcz14_3
         try clear hcz16_0
         try clear hcz16_1
         try clear hcz16_2
         try clear hcz16_3
         try clear hcz18_0
         try clear hcz18_1
         try clear hcz18_2
         try clear hcz18_3
         try clear hcz20_0
         try clear hcz20_1
         try clear hcz20_2
         try clear hcz20_3
         try clear hcz22_0
         try clear hcz22_1
         try clear hcz22_2
         try clear hcz22_3
         try clear hcz23_0
         try clear hcz23_1
         try clear hcz23_2
         try clear hcz23_3
         try clear hfz14_0
         try clear hfz14_1
         try clear hfz14_2
         try clear hfz14_3
         try clear hfz16_0
         try clear hfz16_1
         try clear hfz16_2
         try clear hfz16_3
         try clear hfz18_0
         try clear hfz18_1
         try clear hfz18_2
         try clear hfz18_3
         try clear hfz20_0
         try clear hfz20_1
         try clear hfz20_2
         try clear hfz20_3
         try clear hfz22_0
         try clear hfz22_1
         try clear hfz22_2
         try clear hfz22_3
         try clear hfz23_0
         try clear hfz23_1
         try clear hfz23_2
         try clear hfz23_3
         try clear hx195_0
         try clear hx195_1
         try clear hx195_2
         try clear hx195_3
         try clear p195
         try clear p2
         try clear q195
         obtain ⟨kq, x80_11, rfl, HA, HJ11, HO_3, HO_40, BK196, HB⟩ := hcut
         cases kq with
         | zero => exact absurd HA.out (by simp [parterrelaw03_TokenWhole.j1])
         | succ kj11 =>
          have H := HA.out
          clear HA
          simp only [parterrelaw03_TokenWhole.j1] at H
          by_cases c24 : x80_11 = true
          ·subst c24
           rw [if_pos rfl] at H
           exact absurd H (by simp)
          ·replace c24 := Bool.eq_false_iff.mpr c24
           subst c24
           rw [if_neg (show ¬ (false = true) by decide)] at H
           by_cases c25 : ((rd_T29 t188 x42_1).f0) = 8
           ·rw [if_pos c25] at H
            have c25b0 : (((rd_T29 t188 x42_1).f0) == 8) = true := beq_iff_eq.mpr c25
            have c25b1 : (((rd_T29 t188 x42_1).f0) != 8) = false := bne_eq_false_iff_eq.mpr c25
            clear c25
            by_cases c26 : 0 ≤ ((rd_T29 t188 x42_1).f1)
            ·rw [if_pos c26] at H
             have c26b0 := eq_true c26
             have c26b1 : decide (0 ≤ ((rd_T29 t188 x42_1).f1)) = true := decide_eq_true c26
             clear c26
             by_cases c27 : ((rd_T29 t188 x42_1).f1) ≤ (l0.length : Int)
             ·rw [if_pos c27] at H
              have c27b0 := eq_true c27
              have c27b1 : decide (((rd_T29 t188 x42_1).f1) ≤ (l0.length : Int)) = true := decide_eq_true c27
              clear c27
              replace H := Option.bind_eq_some_iff.mp H
              obtain ⟨⟨t198, t199, t200⟩, A280, H⟩ := H
              try dsimp only at H
              have A28 := Aside0.mk A280
              clear A280
              by_cases c29 : t200 = 0
              ·rw [if_pos c29] at H
               have c29b0 : (t200 == 0) = true := beq_iff_eq.mpr c29
               have c29b1 : (t200 != 0) = false := bne_eq_false_iff_eq.mpr c29
               clear c29
               by_cases c30 : (t198.length : Int) = (wrap64 ((t188.length : Int) - x42_1))
               ·rw [if_pos c30] at H
                have c30b0 : ((t198.length : Int) == (wrap64 ((t188.length : Int) - x42_1))) = true := beq_iff_eq.mpr c30
                have c30b1 : ((t198.length : Int) != (wrap64 ((t188.length : Int) - x42_1))) = false := bne_eq_false_iff_eq.mpr c30
                clear c30
                by_cases c31 : 0 < (t198.length : Int)
                ·rw [if_pos c31] at H
                 have c31b0 : decide (0 < (t198.length : Int)) = true := decide_eq_true c31
                 have c31b1 : decide (0 < t198.length) = true := decide_eq_true (by omega)
                 clear c31
                 by_cases c32 : ((rd_T29 t198 0).f0) = ((rd_T29 t188 x42_1).f0)
                 ·rw [if_pos c32] at H
                  have c32b0 : (((rd_T29 t198 0).f0) == ((rd_T29 t188 x42_1).f0)) = true := beq_iff_eq.mpr c32
                  have c32b1 : (((rd_T29 t198 0).f0) != ((rd_T29 t188 x42_1).f0)) = false := bne_eq_false_iff_eq.mpr c32
                  clear c32
                  by_cases c33 : ((rd_T29 t198 0).f2).toList = ((rd_T29 t188 x42_1).f2).toList
                  ·rw [if_pos c33] at H
                   have c33b0 : (((rd_T29 t198 0).f2).toList == ((rd_T29 t188 x42_1).f2).toList) = true := beq_iff_eq.mpr c33
                   have c33b1 : (((rd_T29 t198 0).f2).toList != ((rd_T29 t188 x42_1).f2).toList) = false := bne_eq_false_iff_eq.mpr c33
                   clear c33
                   by_cases c34 : ((rd_T29 t198 0).f3).toList = ((rd_T29 t188 x42_1).f3).toList
                   ·rw [if_pos c34] at H
                    have c34b0 : (((rd_T29 t198 0).f3).toList == ((rd_T29 t188 x42_1).f3).toList) = true := beq_iff_eq.mpr c34
                    have c34b1 : (((rd_T29 t198 0).f3).toList != ((rd_T29 t188 x42_1).f3).toList) = false := bne_eq_false_iff_eq.mpr c34
                    clear c34
                    have H' := Aside0.mk H
                    clear H
                    have hcz35_0 : wc.cell? ⟨gb196, 0, none⟩ = some (.int .i64 ((rd_T29 t188 x42_1).f0)) := (blk_cell BK196.out 0).trans rfl
                    have hcz35_1 : wc.cell? ⟨gb196, 1, none⟩ = some (.int .i64 ((rd_T29 t188 x42_1).f1)) := (blk_cell BK196.out 1).trans rfl
                    have hcz35_2 : wc.cell? ⟨gb196, 2, none⟩ = some (.string ((rd_T29 t188 x42_1).f2)) := (blk_cell BK196.out 2).trans rfl
                    have hcz35_3 : wc.cell? ⟨gb196, 3, none⟩ = some (.string ((rd_T29 t188 x42_1).f3)) := (blk_cell BK196.out 3).trans rfl
                    have hfz35_0 := blk_frozen BK196.out 0
                    have hfz35_1 := blk_frozen BK196.out 1
                    have hfz35_2 := blk_frozen BK196.out 2
                    have hfz35_3 := blk_frozen BK196.out 3
                    obtain ⟨i036, hi036, _, hsz36, _⟩ := info_parts info5
                    obtain ⟨A36, hcut36, hA36, hC36⟩ := print_drop_of (P := Try.prog) (Value.int .u8) 0 22 5 .i64 Try.underlying22 hi036 hsz36 A0 c0 l0 ((rd_T29 t188 x42_1).f1) (of_decide_eq_true (by first | (with_reducible assumption) | assumption)) (of_decide_eq_true (by first | (with_reducible assumption) | assumption)) HC0.out
                    have HR197 := Aside0.mk (Kd.C_of_reads (h1 := fun _ => rfl) (hA36 _ (Kd.reads_of_C HR0.out)))
                    have HC197 := Aside0.mk hC36
                    clear hA36 hC36 hi036 hsz36
                    go_wp2_with (first | (go_at_call 6; (try rw [← (List.length_drop (i := (((rd_T29 t188 x42_1).f1) : Int).toNat) (l := l0))]); (with_reducible refine (token_Tokens.calls kj11 _ _ (l0.drop (((rd_T29 t188 x42_1).f1) : Int).toNat) t198 t199 t200 _ ?side1 ?side2 A28.out (Ml.below HTB.out bel_)).mono ?_); (case side1 => repeat (first | exact (Kd.C_below HR197.out HB.out) | (with_reducible refine Kd.C_alloc ?_ _) | (with_reducible refine Kd.C_drewN ?_ _) | (with_reducible refine Kd.C_drew ?_))); (case side2 => exact HC197.out); rintro e w37 ⟨v201, rfl, ho0, hb⟩; have n0_ := Aside0.mk (Kd.R_elder' (by (with_reducible repeat (first | apply Kd.R_alloc | apply Kd.R_drewN | apply Kd.R_drew)); exact HO_3.out) (Kd.R_base ho0) hb); have n1_ := Aside0.mk (Kd.R_elder' (by (with_reducible repeat (first | apply Kd.R_alloc | apply Kd.R_drewN | apply Kd.R_drew)); exact HO_40.out) (Kd.R_base ho0) hb); have n2_ := Aside0.mk (Kd.R_lower (Kd.R_newB (Kd.R_new' (Kd.R_new' ho0 (Kd.R_lt (by (with_reducible repeat (first | apply Kd.R_alloc | apply Kd.R_drewN | apply Kd.R_drew)); exact HO_3.out))) (Kd.R_lt (by (with_reducible repeat (first | apply Kd.R_alloc | apply Kd.R_drewN | apply Kd.R_drew)); exact HO_40.out))) (g := gb196) (o := .cells #[.int .i64 ((rd_T29 t188 x42_1).f0), .int .i64 ((rd_T29 t188 x42_1).f1), .string ((rd_T29 t188 x42_1).f2), .string ((rd_T29 t188 x42_1).f3)] 29 (0, 0)) blk_) (below_size bel_)); have n3_ := blb_ BK196 hb; have n4_ := Aside0.mk (below_step bel_ hb); clear HO_3; clear HO_40; clear BK196; clear HB; have HO_3 := n0_; have HO_40 := n1_; have HO202 := n2_; have BK196 := n3_; have HB := n4_; clear n0_ n1_ n2_ n3_ n4_; (try clear hb); (try clear hb2); (try clear hk); (try clear hi); (try clear ho0); obtain ⟨Ao38, co38, eo38⟩ := Kd.R_slice HO202.out; subst eo38; have p203 : 0 ≤ (0 : Int) := (by omega); have q203 : 0 < (t198.length : Int) := of_decide_eq_true (by first | (with_reducible assumption) | assumption); obtain ⟨ad203, e203, hx203_0, hx203_1, hx203_2, hx203_3⟩ := at_T29 (Kd.R_reads' HO202.out).2.2 0 p203 q203; cases e203; have qi203 : (0 < t198.length) = True := eq_true (by omega); (try rw [show ((0 : Int)).toNat = 0 from rfl] at hx203_0); (try rw [show 0 * 4 = 0 from rfl] at hx203_0); (try rw [Addr.add_zero'] at hx203_0); (try rw [show ((0 : Int)).toNat = 0 from rfl] at hx203_1); (try rw [show 0 * 4 = 0 from rfl] at hx203_1); (try rw [Addr.add_zero'] at hx203_1); (try rw [show ((0 : Int)).toNat = 0 from rfl] at hx203_2); (try rw [show 0 * 4 = 0 from rfl] at hx203_2); (try rw [Addr.add_zero'] at hx203_2); (try rw [show ((0 : Int)).toNat = 0 from rfl] at hx203_3); (try rw [show 0 * 4 = 0 from rfl] at hx203_3); (try rw [Addr.add_zero'] at hx203_3); replace p203 := eq_true p203; replace q203 := eq_true q203; have hcz39_0 : w37.cell? ⟨gb196, 0, none⟩ = some (.int .i64 ((rd_T29 t188 x42_1).f0)) := (blk_cell BK196.out 0).trans rfl; have hcz39_1 : w37.cell? ⟨gb196, 1, none⟩ = some (.int .i64 ((rd_T29 t188 x42_1).f1)) := (blk_cell BK196.out 1).trans rfl; have hcz39_2 : w37.cell? ⟨gb196, 2, none⟩ = some (.string ((rd_T29 t188 x42_1).f2)) := (blk_cell BK196.out 2).trans rfl; have hcz39_3 : w37.cell? ⟨gb196, 3, none⟩ = some (.string ((rd_T29 t188 x42_1).f3)) := (blk_cell BK196.out 3).trans rfl; have hfz39_0 := blk_frozen BK196.out 0; have hfz39_1 := blk_frozen BK196.out 1; have hfz39_2 := blk_frozen BK196.out 2; have hfz39_3 := blk_frozen BK196.out 3; have p204 : 0 ≤ (0 : Int) := (by omega); have q204 : 0 < (t198.length : Int) := of_decide_eq_true (by first | (with_reducible assumption) | assumption); obtain ⟨ad204, e204, hx204_0, hx204_1, hx204_2, hx204_3⟩ := at_T29 (Kd.R_reads' HO202.out).2.2 0 p204 q204; obtain rfl : ad203 = ad204 := (by injection e204); have qi204 : (0 < t198.length) = True := eq_true (by omega); (try rw [show ((0 : Int)).toNat = 0 from rfl] at hx204_0); (try rw [show 0 * 4 = 0 from rfl] at hx204_0); (try rw [Addr.add_zero'] at hx204_0); (try rw [show ((0 : Int)).toNat = 0 from rfl] at hx204_1); (try rw [show 0 * 4 = 0 from rfl] at hx204_1); (try rw [Addr.add_zero'] at hx204_1); (try rw [show ((0 : Int)).toNat = 0 from rfl] at hx204_2); (try rw [show 0 * 4 = 0 from rfl] at hx204_2); (try rw [Addr.add_zero'] at hx204_2); (try rw [show ((0 : Int)).toNat = 0 from rfl] at hx204_3); (try rw [show 0 * 4 = 0 from rfl] at hx204_3); (try rw [Addr.add_zero'] at hx204_3); replace p204 := eq_true p204; replace q204 := eq_true q204; have p205 : 0 ≤ (0 : Int) := (by omega); have q205 : 0 < (t198.length : Int) := of_decide_eq_true (by first | (with_reducible assumption) | assumption); obtain ⟨ad205, e205, hx205_0, hx205_1, hx205_2, hx205_3⟩ := at_T29 (Kd.R_reads' HO202.out).2.2 0 p205 q205; obtain rfl : ad203 = ad205 := (by injection e205); have qi205 : (0 < t198.length) = True := eq_true (by omega); (try rw [show ((0 : Int)).toNat = 0 from rfl] at hx205_0); (try rw [show 0 * 4 = 0 from rfl] at hx205_0); (try rw [Addr.add_zero'] at hx205_0); (try rw [show ((0 : Int)).toNat = 0 from rfl] at hx205_1); (try rw [show 0 * 4 = 0 from rfl] at hx205_1); (try rw [Addr.add_zero'] at hx205_1); (try rw [show ((0 : Int)).toNat = 0 from rfl] at hx205_2); (try rw [show 0 * 4 = 0 from rfl] at hx205_2); (try rw [Addr.add_zero'] at hx205_2); (try rw [show ((0 : Int)).toNat = 0 from rfl] at hx205_3); (try rw [show 0 * 4 = 0 from rfl] at hx205_3); (try rw [Addr.add_zero'] at hx205_3); replace p205 := eq_true p205; replace q205 := eq_true q205))
                    repeat (go_quiet (first | (go_at_call 6; (try rw [← (List.length_drop (i := (((rd_T29 t188 x42_1).f1) : Int).toNat) (l := l0))]); (with_reducible refine (token_Tokens.calls kj11 _ _ (l0.drop (((rd_T29 t188 x42_1).f1) : Int).toNat) t198 t199 t200 _ ?side1 ?side2 A28.out (Ml.below HTB.out bel_)).mono ?_); (case side1 => repeat (first | exact (Kd.C_below HR197.out HB.out) | (with_reducible refine Kd.C_alloc ?_ _) | (with_reducible refine Kd.C_drewN ?_ _) | (with_reducible refine Kd.C_drew ?_))); (case side2 => exact HC197.out); rintro e w37 ⟨v201, rfl, ho0, hb⟩; have n0_ := Aside0.mk (Kd.R_elder' (by (with_reducible repeat (first | apply Kd.R_alloc | apply Kd.R_drewN | apply Kd.R_drew)); exact HO_3.out) (Kd.R_base ho0) hb); have n1_ := Aside0.mk (Kd.R_elder' (by (with_reducible repeat (first | apply Kd.R_alloc | apply Kd.R_drewN | apply Kd.R_drew)); exact HO_40.out) (Kd.R_base ho0) hb); have n2_ := Aside0.mk (Kd.R_lower (Kd.R_newB (Kd.R_new' (Kd.R_new' ho0 (Kd.R_lt (by (with_reducible repeat (first | apply Kd.R_alloc | apply Kd.R_drewN | apply Kd.R_drew)); exact HO_3.out))) (Kd.R_lt (by (with_reducible repeat (first | apply Kd.R_alloc | apply Kd.R_drewN | apply Kd.R_drew)); exact HO_40.out))) (g := gb196) (o := .cells #[.int .i64 ((rd_T29 t188 x42_1).f0), .int .i64 ((rd_T29 t188 x42_1).f1), .string ((rd_T29 t188 x42_1).f2), .string ((rd_T29 t188 x42_1).f3)] 29 (0, 0)) blk_) (below_size bel_)); have n3_ := blb_ BK196 hb; have n4_ := Aside0.mk (below_step bel_ hb); clear HO_3; clear HO_40; clear BK196; clear HB; have HO_3 := n0_; have HO_40 := n1_; have HO202 := n2_; have BK196 := n3_; have HB := n4_; clear n0_ n1_ n2_ n3_ n4_; (try clear hb); (try clear hb2); (try clear hk); (try clear hi); (try clear ho0); obtain ⟨Ao38, co38, eo38⟩ := Kd.R_slice HO202.out; subst eo38; have p203 : 0 ≤ (0 : Int) := (by omega); have q203 : 0 < (t198.length : Int) := of_decide_eq_true (by first | (with_reducible assumption) | assumption); obtain ⟨ad203, e203, hx203_0, hx203_1, hx203_2, hx203_3⟩ := at_T29 (Kd.R_reads' HO202.out).2.2 0 p203 q203; cases e203; have qi203 : (0 < t198.length) = True := eq_true (by omega); (try rw [show ((0 : Int)).toNat = 0 from rfl] at hx203_0); (try rw [show 0 * 4 = 0 from rfl] at hx203_0); (try rw [Addr.add_zero'] at hx203_0); (try rw [show ((0 : Int)).toNat = 0 from rfl] at hx203_1); (try rw [show 0 * 4 = 0 from rfl] at hx203_1); (try rw [Addr.add_zero'] at hx203_1); (try rw [show ((0 : Int)).toNat = 0 from rfl] at hx203_2); (try rw [show 0 * 4 = 0 from rfl] at hx203_2); (try rw [Addr.add_zero'] at hx203_2); (try rw [show ((0 : Int)).toNat = 0 from rfl] at hx203_3); (try rw [show 0 * 4 = 0 from rfl] at hx203_3); (try rw [Addr.add_zero'] at hx203_3); replace p203 := eq_true p203; replace q203 := eq_true q203; have hcz39_0 : w37.cell? ⟨gb196, 0, none⟩ = some (.int .i64 ((rd_T29 t188 x42_1).f0)) := (blk_cell BK196.out 0).trans rfl; have hcz39_1 : w37.cell? ⟨gb196, 1, none⟩ = some (.int .i64 ((rd_T29 t188 x42_1).f1)) := (blk_cell BK196.out 1).trans rfl; have hcz39_2 : w37.cell? ⟨gb196, 2, none⟩ = some (.string ((rd_T29 t188 x42_1).f2)) := (blk_cell BK196.out 2).trans rfl; have hcz39_3 : w37.cell? ⟨gb196, 3, none⟩ = some (.string ((rd_T29 t188 x42_1).f3)) := (blk_cell BK196.out 3).trans rfl; have hfz39_0 := blk_frozen BK196.out 0; have hfz39_1 := blk_frozen BK196.out 1; have hfz39_2 := blk_frozen BK196.out 2; have hfz39_3 := blk_frozen BK196.out 3; have p204 : 0 ≤ (0 : Int) := (by omega); have q204 : 0 < (t198.length : Int) := of_decide_eq_true (by first | (with_reducible assumption) | assumption); obtain ⟨ad204, e204, hx204_0, hx204_1, hx204_2, hx204_3⟩ := at_T29 (Kd.R_reads' HO202.out).2.2 0 p204 q204; obtain rfl : ad203 = ad204 := (by injection e204); have qi204 : (0 < t198.length) = True := eq_true (by omega); (try rw [show ((0 : Int)).toNat = 0 from rfl] at hx204_0); (try rw [show 0 * 4 = 0 from rfl] at hx204_0); (try rw [Addr.add_zero'] at hx204_0); (try rw [show ((0 : Int)).toNat = 0 from rfl] at hx204_1); (try rw [show 0 * 4 = 0 from rfl] at hx204_1); (try rw [Addr.add_zero'] at hx204_1); (try rw [show ((0 : Int)).toNat = 0 from rfl] at hx204_2); (try rw [show 0 * 4 = 0 from rfl] at hx204_2); (try rw [Addr.add_zero'] at hx204_2); (try rw [show ((0 : Int)).toNat = 0 from rfl] at hx204_3); (try rw [show 0 * 4 = 0 from rfl] at hx204_3); (try rw [Addr.add_zero'] at hx204_3); replace p204 := eq_true p204; replace q204 := eq_true q204; have p205 : 0 ≤ (0 : Int) := (by omega); have q205 : 0 < (t198.length : Int) := of_decide_eq_true (by first | (with_reducible assumption) | assumption); obtain ⟨ad205, e205, hx205_0, hx205_1, hx205_2, hx205_3⟩ := at_T29 (Kd.R_reads' HO202.out).2.2 0 p205 q205; obtain rfl : ad203 = ad205 := (by injection e205); have qi205 : (0 < t198.length) = True := eq_true (by omega); (try rw [show ((0 : Int)).toNat = 0 from rfl] at hx205_0); (try rw [show 0 * 4 = 0 from rfl] at hx205_0); (try rw [Addr.add_zero'] at hx205_0); (try rw [show ((0 : Int)).toNat = 0 from rfl] at hx205_1); (try rw [show 0 * 4 = 0 from rfl] at hx205_1); (try rw [Addr.add_zero'] at hx205_1); (try rw [show ((0 : Int)).toNat = 0 from rfl] at hx205_2); (try rw [show 0 * 4 = 0 from rfl] at hx205_2); (try rw [Addr.add_zero'] at hx205_2); (try rw [show ((0 : Int)).toNat = 0 from rfl] at hx205_3); (try rw [show 0 * 4 = 0 from rfl] at hx205_3); (try rw [Addr.add_zero'] at hx205_3); replace p205 := eq_true p205; replace q205 := eq_true q205)); try go_wp2_with (first | (go_at_call 6; (try rw [← (List.length_drop (i := (((rd_T29 t188 x42_1).f1) : Int).toNat) (l := l0))]); (with_reducible refine (token_Tokens.calls kj11 _ _ (l0.drop (((rd_T29 t188 x42_1).f1) : Int).toNat) t198 t199 t200 _ ?side1 ?side2 A28.out (Ml.below HTB.out bel_)).mono ?_); (case side1 => repeat (first | exact (Kd.C_below HR197.out HB.out) | (with_reducible refine Kd.C_alloc ?_ _) | (with_reducible refine Kd.C_drewN ?_ _) | (with_reducible refine Kd.C_drew ?_))); (case side2 => exact HC197.out); rintro e w37 ⟨v201, rfl, ho0, hb⟩; have n0_ := Aside0.mk (Kd.R_elder' (by (with_reducible repeat (first | apply Kd.R_alloc | apply Kd.R_drewN | apply Kd.R_drew)); exact HO_3.out) (Kd.R_base ho0) hb); have n1_ := Aside0.mk (Kd.R_elder' (by (with_reducible repeat (first | apply Kd.R_alloc | apply Kd.R_drewN | apply Kd.R_drew)); exact HO_40.out) (Kd.R_base ho0) hb); have n2_ := Aside0.mk (Kd.R_lower (Kd.R_newB (Kd.R_new' (Kd.R_new' ho0 (Kd.R_lt (by (with_reducible repeat (first | apply Kd.R_alloc | apply Kd.R_drewN | apply Kd.R_drew)); exact HO_3.out))) (Kd.R_lt (by (with_reducible repeat (first | apply Kd.R_alloc | apply Kd.R_drewN | apply Kd.R_drew)); exact HO_40.out))) (g := gb196) (o := .cells #[.int .i64 ((rd_T29 t188 x42_1).f0), .int .i64 ((rd_T29 t188 x42_1).f1), .string ((rd_T29 t188 x42_1).f2), .string ((rd_T29 t188 x42_1).f3)] 29 (0, 0)) blk_) (below_size bel_)); have n3_ := blb_ BK196 hb; have n4_ := Aside0.mk (below_step bel_ hb); clear HO_3; clear HO_40; clear BK196; clear HB; have HO_3 := n0_; have HO_40 := n1_; have HO202 := n2_; have BK196 := n3_; have HB := n4_; clear n0_ n1_ n2_ n3_ n4_; (try clear hb); (try clear hb2); (try clear hk); (try clear hi); (try clear ho0); obtain ⟨Ao38, co38, eo38⟩ := Kd.R_slice HO202.out; subst eo38; have p203 : 0 ≤ (0 : Int) := (by omega); have q203 : 0 < (t198.length : Int) := of_decide_eq_true (by first | (with_reducible assumption) | assumption); obtain ⟨ad203, e203, hx203_0, hx203_1, hx203_2, hx203_3⟩ := at_T29 (Kd.R_reads' HO202.out).2.2 0 p203 q203; cases e203; have qi203 : (0 < t198.length) = True := eq_true (by omega); (try rw [show ((0 : Int)).toNat = 0 from rfl] at hx203_0); (try rw [show 0 * 4 = 0 from rfl] at hx203_0); (try rw [Addr.add_zero'] at hx203_0); (try rw [show ((0 : Int)).toNat = 0 from rfl] at hx203_1); (try rw [show 0 * 4 = 0 from rfl] at hx203_1); (try rw [Addr.add_zero'] at hx203_1); (try rw [show ((0 : Int)).toNat = 0 from rfl] at hx203_2); (try rw [show 0 * 4 = 0 from rfl] at hx203_2); (try rw [Addr.add_zero'] at hx203_2); (try rw [show ((0 : Int)).toNat = 0 from rfl] at hx203_3); (try rw [show 0 * 4 = 0 from rfl] at hx203_3); (try rw [Addr.add_zero'] at hx203_3); replace p203 := eq_true p203; replace q203 := eq_true q203; have hcz39_0 : w37.cell? ⟨gb196, 0, none⟩ = some (.int .i64 ((rd_T29 t188 x42_1).f0)) := (blk_cell BK196.out 0).trans rfl; have hcz39_1 : w37.cell? ⟨gb196, 1, none⟩ = some (.int .i64 ((rd_T29 t188 x42_1).f1)) := (blk_cell BK196.out 1).trans rfl; have hcz39_2 : w37.cell? ⟨gb196, 2, none⟩ = some (.string ((rd_T29 t188 x42_1).f2)) := (blk_cell BK196.out 2).trans rfl; have hcz39_3 : w37.cell? ⟨gb196, 3, none⟩ = some (.string ((rd_T29 t188 x42_1).f3)) := (blk_cell BK196.out 3).trans rfl; have hfz39_0 := blk_frozen BK196.out 0; have hfz39_1 := blk_frozen BK196.out 1; have hfz39_2 := blk_frozen BK196.out 2; have hfz39_3 := blk_frozen BK196.out 3; have p204 : 0 ≤ (0 : Int) := (by omega); have q204 : 0 < (t198.length : Int) := of_decide_eq_true (by first | (with_reducible assumption) | assumption); obtain ⟨ad204, e204, hx204_0, hx204_1, hx204_2, hx204_3⟩ := at_T29 (Kd.R_reads' HO202.out).2.2 0 p204 q204; obtain rfl : ad203 = ad204 := (by injection e204); have qi204 : (0 < t198.length) = True := eq_true (by omega); (try rw [show ((0 : Int)).toNat = 0 from rfl] at hx204_0); (try rw [show 0 * 4 = 0 from rfl] at hx204_0); (try rw [Addr.add_zero'] at hx204_0); (try rw [show ((0 : Int)).toNat = 0 from rfl] at hx204_1); (try rw [show 0 * 4 = 0 from rfl] at hx204_1); (try rw [Addr.add_zero'] at hx204_1); (try rw [show ((0 : Int)).toNat = 0 from rfl] at hx204_2); (try rw [show 0 * 4 = 0 from rfl] at hx204_2); (try rw [Addr.add_zero'] at hx204_2); (try rw [show ((0 : Int)).toNat = 0 from rfl] at hx204_3); (try rw [show 0 * 4 = 0 from rfl] at hx204_3); (try rw [Addr.add_zero'] at hx204_3); replace p204 := eq_true p204; replace q204 := eq_true q204; have p205 : 0 ≤ (0 : Int) := (by omega); have q205 : 0 < (t198.length : Int) := of_decide_eq_true (by first | (with_reducible assumption) | assumption); obtain ⟨ad205, e205, hx205_0, hx205_1, hx205_2, hx205_3⟩ := at_T29 (Kd.R_reads' HO202.out).2.2 0 p205 q205; obtain rfl : ad203 = ad205 := (by injection e205); have qi205 : (0 < t198.length) = True := eq_true (by omega); (try rw [show ((0 : Int)).toNat = 0 from rfl] at hx205_0); (try rw [show 0 * 4 = 0 from rfl] at hx205_0); (try rw [Addr.add_zero'] at hx205_0); (try rw [show ((0 : Int)).toNat = 0 from rfl] at hx205_1); (try rw [show 0 * 4 = 0 from rfl] at hx205_1); (try rw [Addr.add_zero'] at hx205_1); (try rw [show ((0 : Int)).toNat = 0 from rfl] at hx205_2); (try rw [show 0 * 4 = 0 from rfl] at hx205_2); (try rw [Addr.add_zero'] at hx205_2); (try rw [show ((0 : Int)).toNat = 0 from rfl] at hx205_3); (try rw [show 0 * 4 = 0 from rfl] at hx205_3); (try rw [Addr.add_zero'] at hx205_3); replace p205 := eq_true p205; replace q205 := eq_true q205)))
                    go_roundg kj11
                    case measure => have := HK1.out; have := HJ11.out; omega
                    case rel => exact ⟨(((rd_T29 t188 x42_1).f1)), (wrap64 (x42_1 + 1)), rfs_, rfs_, H', ⟨by have := HK1.out; have := HJ11.out; omega⟩, ⟨by (with_reducible repeat (first | apply Kd.R_alloc | apply Kd.R_drewN | apply Kd.R_drew)); exact Kd.R_mono HO_3.out (fun _ hk => trivial)⟩, ⟨by (with_reducible repeat (first | apply Kd.R_alloc | apply Kd.R_drewN | apply Kd.R_drew)); exact Kd.R_mono HO_40.out (fun _ hk => trivial)⟩, ⟨bel_⟩⟩
                   ·rw [if_neg c34] at H
                    exact absurd H (by simp)
                  ·rw [if_neg c33] at H
                   exact absurd H (by simp)
                 ·rw [if_neg c32] at H
                  exact absurd H (by simp)
                ·rw [if_neg c31] at H
                 exact absurd H (by simp)
               ·rw [if_neg c30] at H
                exact absurd H (by simp)
              ·rw [if_neg c29] at H
               exact absurd H (by simp)
             ·rw [if_neg c27] at H
              exact absurd H (by simp)
            ·rw [if_neg c26] at H
             exact absurd H (by simp)
           ·rw [if_neg c25] at H
            have c25b0 : (((rd_T29 t188 x42_1).f0) == 8) = false := beq_eq_false_iff_ne.mpr c25
            have c25b1 : (((rd_T29 t188 x42_1).f0) != 8) = true := bne_iff_ne.mpr c25
            by_cases c40 : 0 ≤ ((rd_T29 t188 x42_1).f1)
            ·rw [if_pos c40] at H
             have c40b0 := eq_true c40
             have c40b1 : decide (0 ≤ ((rd_T29 t188 x42_1).f1)) = true := decide_eq_true c40
             clear c40
             by_cases c41 : ((rd_T29 t188 x42_1).f1) ≤ (l0.length : Int)
             ·rw [if_pos c41] at H
              have c41b0 := eq_true c41
              have c41b1 : decide (((rd_T29 t188 x42_1).f1) ≤ (l0.length : Int)) = true := decide_eq_true c41
              clear c41
              replace H := Option.bind_eq_some_iff.mp H
              obtain ⟨⟨t207, t208, t209⟩, A420, H⟩ := H
              try dsimp only at H
              have A42 := Aside0.mk A420
              clear A420
              by_cases c43 : t209 = 0
              ·rw [if_pos c43] at H
               have c43b0 : (t209 == 0) = true := beq_iff_eq.mpr c43
               have c43b1 : (t209 != 0) = false := bne_eq_false_iff_eq.mpr c43
               clear c43
               by_cases c44 : (t207.length : Int) = (wrap64 ((t188.length : Int) - x42_1))
               ·rw [if_pos c44] at H
                have c44b0 : ((t207.length : Int) == (wrap64 ((t188.length : Int) - x42_1))) = true := beq_iff_eq.mpr c44
                have c44b1 : ((t207.length : Int) != (wrap64 ((t188.length : Int) - x42_1))) = false := bne_eq_false_iff_eq.mpr c44
                clear c44
                by_cases c45 : 0 < (t207.length : Int)
                ·rw [if_pos c45] at H
                 have c45b0 : decide (0 < (t207.length : Int)) = true := decide_eq_true c45
                 have c45b1 : decide (0 < t207.length) = true := decide_eq_true (by omega)
                 clear c45
                 by_cases c46 : ((rd_T29 t207 0).f0) = ((rd_T29 t188 x42_1).f0)
                 ·rw [if_pos c46] at H
                  have c46b0 : (((rd_T29 t207 0).f0) == ((rd_T29 t188 x42_1).f0)) = true := beq_iff_eq.mpr c46
                  have c46b1 : (((rd_T29 t207 0).f0) != ((rd_T29 t188 x42_1).f0)) = false := bne_eq_false_iff_eq.mpr c46
                  clear c46
                  by_cases c47 : ((rd_T29 t207 0).f2).toList = ((rd_T29 t188 x42_1).f2).toList
                  ·rw [if_pos c47] at H
                   have c47b0 : (((rd_T29 t207 0).f2).toList == ((rd_T29 t188 x42_1).f2).toList) = true := beq_iff_eq.mpr c47
                   have c47b1 : (((rd_T29 t207 0).f2).toList != ((rd_T29 t188 x42_1).f2).toList) = false := bne_eq_false_iff_eq.mpr c47
                   clear c47
                   by_cases c48 : ((rd_T29 t207 0).f3).toList = ((rd_T29 t188 x42_1).f3).toList
                   ·rw [if_pos c48] at H
                    have c48b0 : (((rd_T29 t207 0).f3).toList == ((rd_T29 t188 x42_1).f3).toList) = true := beq_iff_eq.mpr c48
                    have c48b1 : (((rd_T29 t207 0).f3).toList != ((rd_T29 t188 x42_1).f3).toList) = false := bne_eq_false_iff_eq.mpr c48
                    clear c48
                    have H' := Aside0.mk H
                    clear H
                    have hcz49_0 : wc.cell? ⟨gb196, 0, none⟩ = some (.int .i64 ((rd_T29 t188 x42_1).f0)) := (blk_cell BK196.out 0).trans rfl
                    have hcz49_1 : wc.cell? ⟨gb196, 1, none⟩ = some (.int .i64 ((rd_T29 t188 x42_1).f1)) := (blk_cell BK196.out 1).trans rfl
                    have hcz49_2 : wc.cell? ⟨gb196, 2, none⟩ = some (.string ((rd_T29 t188 x42_1).f2)) := (blk_cell BK196.out 2).trans rfl
                    have hcz49_3 : wc.cell? ⟨gb196, 3, none⟩ = some (.string ((rd_T29 t188 x42_1).f3)) := (blk_cell BK196.out 3).trans rfl
                    have hfz49_0 := blk_frozen BK196.out 0
                    have hfz49_1 := blk_frozen BK196.out 1
                    have hfz49_2 := blk_frozen BK196.out 2
                    have hfz49_3 := blk_frozen BK196.out 3
                    obtain ⟨i050, hi050, _, hsz50, _⟩ := info_parts info5
                    obtain ⟨A50, hcut50, hA50, hC50⟩ := print_drop_of (P := Try.prog) (Value.int .u8) 0 22 5 .i64 Try.underlying22 hi050 hsz50 A0 c0 l0 ((rd_T29 t188 x42_1).f1) (of_decide_eq_true (by first | (with_reducible assumption) | assumption)) (of_decide_eq_true (by first | (with_reducible assumption) | assumption)) HC0.out
                    have HR206 := Aside0.mk (Kd.C_of_reads (h1 := fun _ => rfl) (hA50 _ (Kd.reads_of_C HR0.out)))
                    have HC206 := Aside0.mk hC50
                    clear hA50 hC50 hi050 hsz50
                    go_wp2_with (first | (go_at_call 6; (try rw [← (List.length_drop (i := (((rd_T29 t188 x42_1).f1) : Int).toNat) (l := l0))]); (with_reducible refine (token_Tokens.calls kj11 _ _ (l0.drop (((rd_T29 t188 x42_1).f1) : Int).toNat) t207 t208 t209 _ ?side1 ?side2 A42.out (Ml.below HTB.out bel_)).mono ?_); (case side1 => repeat (first | exact (Kd.C_below HR206.out HB.out) | (with_reducible refine Kd.C_alloc ?_ _) | (with_reducible refine Kd.C_drewN ?_ _) | (with_reducible refine Kd.C_drew ?_))); (case side2 => exact HC206.out); rintro e w51 ⟨v210, rfl, ho0, hb⟩; have n0_ := Aside0.mk (Kd.R_elder' (by (with_reducible repeat (first | apply Kd.R_alloc | apply Kd.R_drewN | apply Kd.R_drew)); exact HO_3.out) (Kd.R_base ho0) hb); have n1_ := Aside0.mk (Kd.R_elder' (by (with_reducible repeat (first | apply Kd.R_alloc | apply Kd.R_drewN | apply Kd.R_drew)); exact HO_40.out) (Kd.R_base ho0) hb); have n2_ := Aside0.mk (Kd.R_lower (Kd.R_newB (Kd.R_new' (Kd.R_new' ho0 (Kd.R_lt (by (with_reducible repeat (first | apply Kd.R_alloc | apply Kd.R_drewN | apply Kd.R_drew)); exact HO_3.out))) (Kd.R_lt (by (with_reducible repeat (first | apply Kd.R_alloc | apply Kd.R_drewN | apply Kd.R_drew)); exact HO_40.out))) (g := gb196) (o := .cells #[.int .i64 ((rd_T29 t188 x42_1).f0), .int .i64 ((rd_T29 t188 x42_1).f1), .string ((rd_T29 t188 x42_1).f2), .string ((rd_T29 t188 x42_1).f3)] 29 (0, 0)) blk_) (below_size bel_)); have n3_ := blb_ BK196 hb; have n4_ := Aside0.mk (below_step bel_ hb); clear HO_3; clear HO_40; clear BK196; clear HB; have HO_3 := n0_; have HO_40 := n1_; have HO211 := n2_; have BK196 := n3_; have HB := n4_; clear n0_ n1_ n2_ n3_ n4_; (try clear hb); (try clear hb2); (try clear hk); (try clear hi); (try clear ho0); obtain ⟨Ao52, co52, eo52⟩ := Kd.R_slice HO211.out; subst eo52; have p212 : 0 ≤ (0 : Int) := (by omega); have q212 : 0 < (t207.length : Int) := of_decide_eq_true (by first | (with_reducible assumption) | assumption); obtain ⟨ad212, e212, hx212_0, hx212_1, hx212_2, hx212_3⟩ := at_T29 (Kd.R_reads' HO211.out).2.2 0 p212 q212; cases e212; have qi212 : (0 < t207.length) = True := eq_true (by omega); (try rw [show ((0 : Int)).toNat = 0 from rfl] at hx212_0); (try rw [show 0 * 4 = 0 from rfl] at hx212_0); (try rw [Addr.add_zero'] at hx212_0); (try rw [show ((0 : Int)).toNat = 0 from rfl] at hx212_1); (try rw [show 0 * 4 = 0 from rfl] at hx212_1); (try rw [Addr.add_zero'] at hx212_1); (try rw [show ((0 : Int)).toNat = 0 from rfl] at hx212_2); (try rw [show 0 * 4 = 0 from rfl] at hx212_2); (try rw [Addr.add_zero'] at hx212_2); (try rw [show ((0 : Int)).toNat = 0 from rfl] at hx212_3); (try rw [show 0 * 4 = 0 from rfl] at hx212_3); (try rw [Addr.add_zero'] at hx212_3); replace p212 := eq_true p212; replace q212 := eq_true q212; have hcz53_0 : w51.cell? ⟨gb196, 0, none⟩ = some (.int .i64 ((rd_T29 t188 x42_1).f0)) := (blk_cell BK196.out 0).trans rfl; have hcz53_1 : w51.cell? ⟨gb196, 1, none⟩ = some (.int .i64 ((rd_T29 t188 x42_1).f1)) := (blk_cell BK196.out 1).trans rfl; have hcz53_2 : w51.cell? ⟨gb196, 2, none⟩ = some (.string ((rd_T29 t188 x42_1).f2)) := (blk_cell BK196.out 2).trans rfl; have hcz53_3 : w51.cell? ⟨gb196, 3, none⟩ = some (.string ((rd_T29 t188 x42_1).f3)) := (blk_cell BK196.out 3).trans rfl; have hfz53_0 := blk_frozen BK196.out 0; have hfz53_1 := blk_frozen BK196.out 1; have hfz53_2 := blk_frozen BK196.out 2; have hfz53_3 := blk_frozen BK196.out 3; have p213 : 0 ≤ (0 : Int) := (by omega); have q213 : 0 < (t207.length : Int) := of_decide_eq_true (by first | (with_reducible assumption) | assumption); obtain ⟨ad213, e213, hx213_0, hx213_1, hx213_2, hx213_3⟩ := at_T29 (Kd.R_reads' HO211.out).2.2 0 p213 q213; obtain rfl : ad212 = ad213 := (by injection e213); have qi213 : (0 < t207.length) = True := eq_true (by omega); (try rw [show ((0 : Int)).toNat = 0 from rfl] at hx213_0); (try rw [show 0 * 4 = 0 from rfl] at hx213_0); (try rw [Addr.add_zero'] at hx213_0); (try rw [show ((0 : Int)).toNat = 0 from rfl] at hx213_1); (try rw [show 0 * 4 = 0 from rfl] at hx213_1); (try rw [Addr.add_zero'] at hx213_1); (try rw [show ((0 : Int)).toNat = 0 from rfl] at hx213_2); (try rw [show 0 * 4 = 0 from rfl] at hx213_2); (try rw [Addr.add_zero'] at hx213_2); (try rw [show ((0 : Int)).toNat = 0 from rfl] at hx213_3); (try rw [show 0 * 4 = 0 from rfl] at hx213_3); (try rw [Addr.add_zero'] at hx213_3); replace p213 := eq_true p213; replace q213 := eq_true q213; have p214 : 0 ≤ (0 : Int) := (by omega); have q214 : 0 < (t207.length : Int) := of_decide_eq_true (by first | (with_reducible assumption) | assumption); obtain ⟨ad214, e214, hx214_0, hx214_1, hx214_2, hx214_3⟩ := at_T29 (Kd.R_reads' HO211.out).2.2 0 p214 q214; obtain rfl : ad212 = ad214 := (by injection e214); have qi214 : (0 < t207.length) = True := eq_true (by omega); (try rw [show ((0 : Int)).toNat = 0 from rfl] at hx214_0); (try rw [show 0 * 4 = 0 from rfl] at hx214_0); (try rw [Addr.add_zero'] at hx214_0); (try rw [show ((0 : Int)).toNat = 0 from rfl] at hx214_1); (try rw [show 0 * 4 = 0 from rfl] at hx214_1); (try rw [Addr.add_zero'] at hx214_1); (try rw [show ((0 : Int)).toNat = 0 from rfl] at hx214_2); (try rw [show 0 * 4 = 0 from rfl] at hx214_2); (try rw [Addr.add_zero'] at hx214_2); (try rw [show ((0 : Int)).toNat = 0 from rfl] at hx214_3); (try rw [show 0 * 4 = 0 from rfl] at hx214_3); (try rw [Addr.add_zero'] at hx214_3); replace p214 := eq_true p214; replace q214 := eq_true q214))
                    repeat (go_quiet (first | (go_at_call 6; (try rw [← (List.length_drop (i := (((rd_T29 t188 x42_1).f1) : Int).toNat) (l := l0))]); (with_reducible refine (token_Tokens.calls kj11 _ _ (l0.drop (((rd_T29 t188 x42_1).f1) : Int).toNat) t207 t208 t209 _ ?side1 ?side2 A42.out (Ml.below HTB.out bel_)).mono ?_); (case side1 => repeat (first | exact (Kd.C_below HR206.out HB.out) | (with_reducible refine Kd.C_alloc ?_ _) | (with_reducible refine Kd.C_drewN ?_ _) | (with_reducible refine Kd.C_drew ?_))); (case side2 => exact HC206.out); rintro e w51 ⟨v210, rfl, ho0, hb⟩; have n0_ := Aside0.mk (Kd.R_elder' (by (with_reducible repeat (first | apply Kd.R_alloc | apply Kd.R_drewN | apply Kd.R_drew)); exact HO_3.out) (Kd.R_base ho0) hb); have n1_ := Aside0.mk (Kd.R_elder' (by (with_reducible repeat (first | apply Kd.R_alloc | apply Kd.R_drewN | apply Kd.R_drew)); exact HO_40.out) (Kd.R_base ho0) hb); have n2_ := Aside0.mk (Kd.R_lower (Kd.R_newB (Kd.R_new' (Kd.R_new' ho0 (Kd.R_lt (by (with_reducible repeat (first | apply Kd.R_alloc | apply Kd.R_drewN | apply Kd.R_drew)); exact HO_3.out))) (Kd.R_lt (by (with_reducible repeat (first | apply Kd.R_alloc | apply Kd.R_drewN | apply Kd.R_drew)); exact HO_40.out))) (g := gb196) (o := .cells #[.int .i64 ((rd_T29 t188 x42_1).f0), .int .i64 ((rd_T29 t188 x42_1).f1), .string ((rd_T29 t188 x42_1).f2), .string ((rd_T29 t188 x42_1).f3)] 29 (0, 0)) blk_) (below_size bel_)); have n3_ := blb_ BK196 hb; have n4_ := Aside0.mk (below_step bel_ hb); clear HO_3; clear HO_40; clear BK196; clear HB; have HO_3 := n0_; have HO_40 := n1_; have HO211 := n2_; have BK196 := n3_; have HB := n4_; clear n0_ n1_ n2_ n3_ n4_; (try clear hb); (try clear hb2); (try clear hk); (try clear hi); (try clear ho0); obtain ⟨Ao52, co52, eo52⟩ := Kd.R_slice HO211.out; subst eo52; have p212 : 0 ≤ (0 : Int) := (by omega); have q212 : 0 < (t207.length : Int) := of_decide_eq_true (by first | (with_reducible assumption) | assumption); obtain ⟨ad212, e212, hx212_0, hx212_1, hx212_2, hx212_3⟩ := at_T29 (Kd.R_reads' HO211.out).2.2 0 p212 q212; cases e212; have qi212 : (0 < t207.length) = True := eq_true (by omega); (try rw [show ((0 : Int)).toNat = 0 from rfl] at hx212_0); (try rw [show 0 * 4 = 0 from rfl] at hx212_0); (try rw [Addr.add_zero'] at hx212_0); (try rw [show ((0 : Int)).toNat = 0 from rfl] at hx212_1); (try rw [show 0 * 4 = 0 from rfl] at hx212_1); (try rw [Addr.add_zero'] at hx212_1); (try rw [show ((0 : Int)).toNat = 0 from rfl] at hx212_2); (try rw [show 0 * 4 = 0 from rfl] at hx212_2); (try rw [Addr.add_zero'] at hx212_2); (try rw [show ((0 : Int)).toNat = 0 from rfl] at hx212_3); (try rw [show 0 * 4 = 0 from rfl] at hx212_3); (try rw [Addr.add_zero'] at hx212_3); replace p212 := eq_true p212; replace q212 := eq_true q212; have hcz53_0 : w51.cell? ⟨gb196, 0, none⟩ = some (.int .i64 ((rd_T29 t188 x42_1).f0)) := (blk_cell BK196.out 0).trans rfl; have hcz53_1 : w51.cell? ⟨gb196, 1, none⟩ = some (.int .i64 ((rd_T29 t188 x42_1).f1)) := (blk_cell BK196.out 1).trans rfl; have hcz53_2 : w51.cell? ⟨gb196, 2, none⟩ = some (.string ((rd_T29 t188 x42_1).f2)) := (blk_cell BK196.out 2).trans rfl; have hcz53_3 : w51.cell? ⟨gb196, 3, none⟩ = some (.string ((rd_T29 t188 x42_1).f3)) := (blk_cell BK196.out 3).trans rfl; have hfz53_0 := blk_frozen BK196.out 0; have hfz53_1 := blk_frozen BK196.out 1; have hfz53_2 := blk_frozen BK196.out 2; have hfz53_3 := blk_frozen BK196.out 3; have p213 : 0 ≤ (0 : Int) := (by omega); have q213 : 0 < (t207.length : Int) := of_decide_eq_true (by first | (with_reducible assumption) | assumption); obtain ⟨ad213, e213, hx213_0, hx213_1, hx213_2, hx213_3⟩ := at_T29 (Kd.R_reads' HO211.out).2.2 0 p213 q213; obtain rfl : ad212 = ad213 := (by injection e213); have qi213 : (0 < t207.length) = True := eq_true (by omega); (try rw [show ((0 : Int)).toNat = 0 from rfl] at hx213_0); (try rw [show 0 * 4 = 0 from rfl] at hx213_0); (try rw [Addr.add_zero'] at hx213_0); (try rw [show ((0 : Int)).toNat = 0 from rfl] at hx213_1); (try rw [show 0 * 4 = 0 from rfl] at hx213_1); (try rw [Addr.add_zero'] at hx213_1); (try rw [show ((0 : Int)).toNat = 0 from rfl] at hx213_2); (try rw [show 0 * 4 = 0 from rfl] at hx213_2); (try rw [Addr.add_zero'] at hx213_2); (try rw [show ((0 : Int)).toNat = 0 from rfl] at hx213_3); (try rw [show 0 * 4 = 0 from rfl] at hx213_3); (try rw [Addr.add_zero'] at hx213_3); replace p213 := eq_true p213; replace q213 := eq_true q213; have p214 : 0 ≤ (0 : Int) := (by omega); have q214 : 0 < (t207.length : Int) := of_decide_eq_true (by first | (with_reducible assumption) | assumption); obtain ⟨ad214, e214, hx214_0, hx214_1, hx214_2, hx214_3⟩ := at_T29 (Kd.R_reads' HO211.out).2.2 0 p214 q214; obtain rfl : ad212 = ad214 := (by injection e214); have qi214 : (0 < t207.length) = True := eq_true (by omega); (try rw [show ((0 : Int)).toNat = 0 from rfl] at hx214_0); (try rw [show 0 * 4 = 0 from rfl] at hx214_0); (try rw [Addr.add_zero'] at hx214_0); (try rw [show ((0 : Int)).toNat = 0 from rfl] at hx214_1); (try rw [show 0 * 4 = 0 from rfl] at hx214_1); (try rw [Addr.add_zero'] at hx214_1); (try rw [show ((0 : Int)).toNat = 0 from rfl] at hx214_2); (try rw [show 0 * 4 = 0 from rfl] at hx214_2); (try rw [Addr.add_zero'] at hx214_2); (try rw [show ((0 : Int)).toNat = 0 from rfl] at hx214_3); (try rw [show 0 * 4 = 0 from rfl] at hx214_3); (try rw [Addr.add_zero'] at hx214_3); replace p214 := eq_true p214; replace q214 := eq_true q214)); try go_wp2_with (first | (go_at_call 6; (try rw [← (List.length_drop (i := (((rd_T29 t188 x42_1).f1) : Int).toNat) (l := l0))]); (with_reducible refine (token_Tokens.calls kj11 _ _ (l0.drop (((rd_T29 t188 x42_1).f1) : Int).toNat) t207 t208 t209 _ ?side1 ?side2 A42.out (Ml.below HTB.out bel_)).mono ?_); (case side1 => repeat (first | exact (Kd.C_below HR206.out HB.out) | (with_reducible refine Kd.C_alloc ?_ _) | (with_reducible refine Kd.C_drewN ?_ _) | (with_reducible refine Kd.C_drew ?_))); (case side2 => exact HC206.out); rintro e w51 ⟨v210, rfl, ho0, hb⟩; have n0_ := Aside0.mk (Kd.R_elder' (by (with_reducible repeat (first | apply Kd.R_alloc | apply Kd.R_drewN | apply Kd.R_drew)); exact HO_3.out) (Kd.R_base ho0) hb); have n1_ := Aside0.mk (Kd.R_elder' (by (with_reducible repeat (first | apply Kd.R_alloc | apply Kd.R_drewN | apply Kd.R_drew)); exact HO_40.out) (Kd.R_base ho0) hb); have n2_ := Aside0.mk (Kd.R_lower (Kd.R_newB (Kd.R_new' (Kd.R_new' ho0 (Kd.R_lt (by (with_reducible repeat (first | apply Kd.R_alloc | apply Kd.R_drewN | apply Kd.R_drew)); exact HO_3.out))) (Kd.R_lt (by (with_reducible repeat (first | apply Kd.R_alloc | apply Kd.R_drewN | apply Kd.R_drew)); exact HO_40.out))) (g := gb196) (o := .cells #[.int .i64 ((rd_T29 t188 x42_1).f0), .int .i64 ((rd_T29 t188 x42_1).f1), .string ((rd_T29 t188 x42_1).f2), .string ((rd_T29 t188 x42_1).f3)] 29 (0, 0)) blk_) (below_size bel_)); have n3_ := blb_ BK196 hb; have n4_ := Aside0.mk (below_step bel_ hb); clear HO_3; clear HO_40; clear BK196; clear HB; have HO_3 := n0_; have HO_40 := n1_; have HO211 := n2_; have BK196 := n3_; have HB := n4_; clear n0_ n1_ n2_ n3_ n4_; (try clear hb); (try clear hb2); (try clear hk); (try clear hi); (try clear ho0); obtain ⟨Ao52, co52, eo52⟩ := Kd.R_slice HO211.out; subst eo52; have p212 : 0 ≤ (0 : Int) := (by omega); have q212 : 0 < (t207.length : Int) := of_decide_eq_true (by first | (with_reducible assumption) | assumption); obtain ⟨ad212, e212, hx212_0, hx212_1, hx212_2, hx212_3⟩ := at_T29 (Kd.R_reads' HO211.out).2.2 0 p212 q212; cases e212; have qi212 : (0 < t207.length) = True := eq_true (by omega); (try rw [show ((0 : Int)).toNat = 0 from rfl] at hx212_0); (try rw [show 0 * 4 = 0 from rfl] at hx212_0); (try rw [Addr.add_zero'] at hx212_0); (try rw [show ((0 : Int)).toNat = 0 from rfl] at hx212_1); (try rw [show 0 * 4 = 0 from rfl] at hx212_1); (try rw [Addr.add_zero'] at hx212_1); (try rw [show ((0 : Int)).toNat = 0 from rfl] at hx212_2); (try rw [show 0 * 4 = 0 from rfl] at hx212_2); (try rw [Addr.add_zero'] at hx212_2); (try rw [show ((0 : Int)).toNat = 0 from rfl] at hx212_3); (try rw [show 0 * 4 = 0 from rfl] at hx212_3); (try rw [Addr.add_zero'] at hx212_3); replace p212 := eq_true p212; replace q212 := eq_true q212; have hcz53_0 : w51.cell? ⟨gb196, 0, none⟩ = some (.int .i64 ((rd_T29 t188 x42_1).f0)) := (blk_cell BK196.out 0).trans rfl; have hcz53_1 : w51.cell? ⟨gb196, 1, none⟩ = some (.int .i64 ((rd_T29 t188 x42_1).f1)) := (blk_cell BK196.out 1).trans rfl; have hcz53_2 : w51.cell? ⟨gb196, 2, none⟩ = some (.string ((rd_T29 t188 x42_1).f2)) := (blk_cell BK196.out 2).trans rfl; have hcz53_3 : w51.cell? ⟨gb196, 3, none⟩ = some (.string ((rd_T29 t188 x42_1).f3)) := (blk_cell BK196.out 3).trans rfl; have hfz53_0 := blk_frozen BK196.out 0; have hfz53_1 := blk_frozen BK196.out 1; have hfz53_2 := blk_frozen BK196.out 2; have hfz53_3 := blk_frozen BK196.out 3; have p213 : 0 ≤ (0 : Int) := (by omega); have q213 : 0 < (t207.length : Int) := of_decide_eq_true (by first | (with_reducible assumption) | assumption); obtain ⟨ad213, e213, hx213_0, hx213_1, hx213_2, hx213_3⟩ := at_T29 (Kd.R_reads' HO211.out).2.2 0 p213 q213; obtain rfl : ad212 = ad213 := (by injection e213); have qi213 : (0 < t207.length) = True := eq_true (by omega); (try rw [show ((0 : Int)).toNat = 0 from rfl] at hx213_0); (try rw [show 0 * 4 = 0 from rfl] at hx213_0); (try rw [Addr.add_zero'] at hx213_0); (try rw [show ((0 : Int)).toNat = 0 from rfl] at hx213_1); (try rw [show 0 * 4 = 0 from rfl] at hx213_1); (try rw [Addr.add_zero'] at hx213_1); (try rw [show ((0 : Int)).toNat = 0 from rfl] at hx213_2); (try rw [show 0 * 4 = 0 from rfl] at hx213_2); (try rw [Addr.add_zero'] at hx213_2); (try rw [show ((0 : Int)).toNat = 0 from rfl] at hx213_3); (try rw [show 0 * 4 = 0 from rfl] at hx213_3); (try rw [Addr.add_zero'] at hx213_3); replace p213 := eq_true p213; replace q213 := eq_true q213; have p214 : 0 ≤ (0 : Int) := (by omega); have q214 : 0 < (t207.length : Int) := of_decide_eq_true (by first | (with_reducible assumption) | assumption); obtain ⟨ad214, e214, hx214_0, hx214_1, hx214_2, hx214_3⟩ := at_T29 (Kd.R_reads' HO211.out).2.2 0 p214 q214; obtain rfl : ad212 = ad214 := (by injection e214); have qi214 : (0 < t207.length) = True := eq_true (by omega); (try rw [show ((0 : Int)).toNat = 0 from rfl] at hx214_0); (try rw [show 0 * 4 = 0 from rfl] at hx214_0); (try rw [Addr.add_zero'] at hx214_0); (try rw [show ((0 : Int)).toNat = 0 from rfl] at hx214_1); (try rw [show 0 * 4 = 0 from rfl] at hx214_1); (try rw [Addr.add_zero'] at hx214_1); (try rw [show ((0 : Int)).toNat = 0 from rfl] at hx214_2); (try rw [show 0 * 4 = 0 from rfl] at hx214_2); (try rw [Addr.add_zero'] at hx214_2); (try rw [show ((0 : Int)).toNat = 0 from rfl] at hx214_3); (try rw [show 0 * 4 = 0 from rfl] at hx214_3); (try rw [Addr.add_zero'] at hx214_3); replace p214 := eq_true p214; replace q214 := eq_true q214)))
                    go_roundg kj11
                    case measure => have := HK1.out; have := HJ11.out; omega
                    case rel => exact ⟨(wrap64 (((rd_T29 t188 x42_1).f1) + 1)), (wrap64 (x42_1 + 1)), rfs_, rfs_, H', ⟨by have := HK1.out; have := HJ11.out; omega⟩, ⟨by (with_reducible repeat (first | apply Kd.R_alloc | apply Kd.R_drewN | apply Kd.R_drew)); exact Kd.R_mono HO_3.out (fun _ hk => trivial)⟩, ⟨by (with_reducible repeat (first | apply Kd.R_alloc | apply Kd.R_drewN | apply Kd.R_drew)); exact Kd.R_mono HO_40.out (fun _ hk => trivial)⟩, ⟨bel_⟩⟩
                   ·rw [if_neg c48] at H
                    exact absurd H (by simp)
                  ·rw [if_neg c47] at H
                   exact absurd H (by simp)
                 ·rw [if_neg c46] at H
                  exact absurd H (by simp)
                ·rw [if_neg c45] at H
                 exact absurd H (by simp)
               ·rw [if_neg c44] at H
                exact absurd H (by simp)
              ·rw [if_neg c43] at H
               exact absurd H (by simp)
             ·rw [if_neg c41] at H
              exact absurd H (by simp)
            ·rw [if_neg c40] at H
             exact absurd H (by simp)
       ·rw [if_neg c11] at H
        exact absurd H (by simp)
      ·rw [if_neg c10] at H
       exact absurd H (by simp)
     ·rw [if_neg c9] at H
      have c9b0 : decide (x42_1 < (t188.length : Int)) = false := decide_eq_false c9
      clear c9
      by_cases c54 : (t188.length : Int) > 0
      ·rw [if_pos c54] at H
       have c54b0 : decide (0 < (t188.length : Int)) = true := decide_eq_true c54
       have c54b1 : decide (0 < t188.length) = true := decide_eq_true (by omega)
       clear c54
       replace H := Option.bind_eq_some_iff.mp H
       obtain ⟨t194, A550, H⟩ := H
       try dsimp only at H
       have A55 := Aside0.mk A550
       clear A550
       obtain rfl := Option.some.inj H
       go_wp2_with (first | (go_at_call 5; (with_reducible refine (parterrelaw03_lives.calls k1  t194 _ A55.out (Ml.below HTB.out bel_)).mono ?_); rintro e w56 ⟨rfl, hb⟩; have n0_ := Aside0.mk (Kd.R_below (by (with_reducible repeat (first | apply Kd.R_alloc | apply Kd.R_drewN | apply Kd.R_drew)); exact HO_3.out) hb); have n1_ := Aside0.mk (Kd.R_below (by (with_reducible repeat (first | apply Kd.R_alloc | apply Kd.R_drewN | apply Kd.R_drew)); exact HO_40.out) hb); have n2_ := Aside0.mk (below_step bel_ hb); clear HO_3; clear HO_40; clear HB; have HO_3 := n0_; have HO_40 := n1_; have HB := n2_; clear n0_ n1_ n2_; clear hb))
       repeat (go_quiet (first | (go_at_call 5; (with_reducible refine (parterrelaw03_lives.calls k1  t194 _ A55.out (Ml.below HTB.out bel_)).mono ?_); rintro e w56 ⟨rfl, hb⟩; have n0_ := Aside0.mk (Kd.R_below (by (with_reducible repeat (first | apply Kd.R_alloc | apply Kd.R_drewN | apply Kd.R_drew)); exact HO_3.out) hb); have n1_ := Aside0.mk (Kd.R_below (by (with_reducible repeat (first | apply Kd.R_alloc | apply Kd.R_drewN | apply Kd.R_drew)); exact HO_40.out) hb); have n2_ := Aside0.mk (below_step bel_ hb); clear HO_3; clear HO_40; clear HB; have HO_3 := n0_; have HO_40 := n1_; have HB := n2_; clear n0_ n1_ n2_; clear hb)); try go_wp2_with (first | (go_at_call 5; (with_reducible refine (parterrelaw03_lives.calls k1  t194 _ A55.out (Ml.below HTB.out bel_)).mono ?_); rintro e w56 ⟨rfl, hb⟩; have n0_ := Aside0.mk (Kd.R_below (by (with_reducible repeat (first | apply Kd.R_alloc | apply Kd.R_drewN | apply Kd.R_drew)); exact HO_3.out) hb); have n1_ := Aside0.mk (Kd.R_below (by (with_reducible repeat (first | apply Kd.R_alloc | apply Kd.R_drewN | apply Kd.R_drew)); exact HO_40.out) hb); have n2_ := Aside0.mk (below_step bel_ hb); clear HO_3; clear HO_40; clear HB; have HO_3 := n0_; have HO_40 := n1_; have HB := n2_; clear n0_ n1_ n2_; clear hb)))
       go_ret
       exact ⟨rsl_, bel_⟩
      ·rw [if_neg c54] at H
       exact absurd H (by simp)
  ·rw [if_neg c6] at H
   have c6b0 : (t190 == 0) = false := beq_eq_false_iff_ne.mpr c6
   have c6b1 : (t190 != 0) = true := bne_iff_ne.mpr c6
   by_cases c57 : t189 ≥ 0
   ·rw [if_pos c57] at H
    have c57b0 : decide (0 ≤ t189) = true := decide_eq_true c57
    clear c57
    by_cases c58 : t189 ≤ (l0.length : Int)
    ·rw [if_pos c58] at H
     have c58b0 : decide (t189 ≤ (l0.length : Int)) = true := decide_eq_true c58
     clear c58
     by_cases c59 : (t188.length : Int) = 0
     ·rw [if_pos c59] at H
      have c59b0 : ((t188.length : Int) == 0) = true := beq_iff_eq.mpr c59
      have c59b1 : ((t188.length : Int) != 0) = false := bne_eq_false_iff_eq.mpr c59
      clear c59
      replace H := Option.bind_eq_some_iff.mp H
      obtain ⟨t193, A600, H⟩ := H
      try dsimp only at H
      have A60 := Aside0.mk A600
      clear A600
      obtain rfl := Option.some.inj H
      go_enter Try.func3, Try.ntmps3
      go_wp2_with (first | (go_at_call 6; (with_reducible refine (token_Tokens.calls k _ _ l0 t188 t189 t190 _ ?side1 ?side2 A5.out (Ml.below HTB.out bel_)).mono ?_); (case side1 => repeat (first | exact HR0.out | (with_reducible refine Kd.C_alloc ?_ _) | (with_reducible refine Kd.C_drewN ?_ _) | (with_reducible refine Kd.C_drew ?_))); (case side2 => exact HC0.out); rintro e w61 ⟨v191, rfl, ho0, hb⟩; have n0_ := Aside0.mk (Kd.R_lower ho0 (below_size bel_)); have n1_ := Aside0.mk (below_step bel_ hb); clear HB; have HO192 := n0_; have HB := n1_; clear n0_ n1_; (try clear hb); (try clear hb2); (try clear hk); (try clear hi); (try clear ho0); obtain ⟨Ao62, co62, eo62⟩ := Kd.R_slice HO192.out; subst eo62) | (go_at_call 5; (with_reducible refine (parterrelaw03_lives.calls k  t193 _ A60.out (Ml.below HTB.out bel_)).mono ?_); rintro e w63 ⟨rfl, hb⟩; have n0_ := Aside0.mk (Kd.R_below (by (with_reducible repeat (first | apply Kd.R_alloc | apply Kd.R_drewN | apply Kd.R_drew)); exact HO192.out) hb); have n1_ := Aside0.mk (below_step bel_ hb); clear HO192; clear HB; have HO192 := n0_; have HB := n1_; clear n0_ n1_; clear hb))
      repeat (go_quiet (first | (go_at_call 6; (with_reducible refine (token_Tokens.calls k _ _ l0 t188 t189 t190 _ ?side1 ?side2 A5.out (Ml.below HTB.out bel_)).mono ?_); (case side1 => repeat (first | exact HR0.out | (with_reducible refine Kd.C_alloc ?_ _) | (with_reducible refine Kd.C_drewN ?_ _) | (with_reducible refine Kd.C_drew ?_))); (case side2 => exact HC0.out); rintro e w61 ⟨v191, rfl, ho0, hb⟩; have n0_ := Aside0.mk (Kd.R_lower ho0 (below_size bel_)); have n1_ := Aside0.mk (below_step bel_ hb); clear HB; have HO192 := n0_; have HB := n1_; clear n0_ n1_; (try clear hb); (try clear hb2); (try clear hk); (try clear hi); (try clear ho0); obtain ⟨Ao62, co62, eo62⟩ := Kd.R_slice HO192.out; subst eo62) | (go_at_call 5; (with_reducible refine (parterrelaw03_lives.calls k  t193 _ A60.out (Ml.below HTB.out bel_)).mono ?_); rintro e w63 ⟨rfl, hb⟩; have n0_ := Aside0.mk (Kd.R_below (by (with_reducible repeat (first | apply Kd.R_alloc | apply Kd.R_drewN | apply Kd.R_drew)); exact HO192.out) hb); have n1_ := Aside0.mk (below_step bel_ hb); clear HO192; clear HB; have HO192 := n0_; have HB := n1_; clear n0_ n1_; clear hb)); try go_wp2_with (first | (go_at_call 6; (with_reducible refine (token_Tokens.calls k _ _ l0 t188 t189 t190 _ ?side1 ?side2 A5.out (Ml.below HTB.out bel_)).mono ?_); (case side1 => repeat (first | exact HR0.out | (with_reducible refine Kd.C_alloc ?_ _) | (with_reducible refine Kd.C_drewN ?_ _) | (with_reducible refine Kd.C_drew ?_))); (case side2 => exact HC0.out); rintro e w61 ⟨v191, rfl, ho0, hb⟩; have n0_ := Aside0.mk (Kd.R_lower ho0 (below_size bel_)); have n1_ := Aside0.mk (below_step bel_ hb); clear HB; have HO192 := n0_; have HB := n1_; clear n0_ n1_; (try clear hb); (try clear hb2); (try clear hk); (try clear hi); (try clear ho0); obtain ⟨Ao62, co62, eo62⟩ := Kd.R_slice HO192.out; subst eo62) | (go_at_call 5; (with_reducible refine (parterrelaw03_lives.calls k  t193 _ A60.out (Ml.below HTB.out bel_)).mono ?_); rintro e w63 ⟨rfl, hb⟩; have n0_ := Aside0.mk (Kd.R_below (by (with_reducible repeat (first | apply Kd.R_alloc | apply Kd.R_drewN | apply Kd.R_drew)); exact HO192.out) hb); have n1_ := Aside0.mk (below_step bel_ hb); clear HO192; clear HB; have HO192 := n0_; have HB := n1_; clear n0_ n1_; clear hb)))
      go_ret
      exact ⟨rsl_, bel_⟩
     ·rw [if_neg c59] at H
      exact absurd H (by simp)
    ·rw [if_neg c58] at H
     exact absurd H (by simp)
   ·rw [if_neg c57] at H
    exact absurd H (by simp)

/-- THE ONE PURE STATEMENT of parterrelaw03_TokenWhole. -/
def parterrelaw03_TokenWhole.Pure : Prop := ∀ (l0 : List Int), gSl 1 (gInt .u8) l0 → ∃ k, parterrelaw03_TokenWhole.f k l0 = some true

end Go.Proofs.Ytholgbdfflabhaa.PTk
end
section
namespace Go.Proofs.Ytholgbdfflabhaa.PTk
open Go.RowKit Go.Proofs.YtholgbdfflabhaaW.PrintWords Go.Proofs.YtholgbdfflabhaaW.PrintLast Go.Proofs.YtholgbdfflabhaaW.PrintMore
attribute [local go_sem] max2_int min2_int max_two min_two max_three min_three max_four min_four
open Go.Proofs.Ytholgbdfflabhaa.Opn Go.Proofs.Ytholgbdfflabhaa.Giv

attribute [local go_sem high] eqA29
/-! ### parterrelaw03_TokenParts: function 4 -/
mutual
def parterrelaw03_TokenParts.j0 : Nat → List Int → List Int → Bool → Option (Bool)
 | 0, _, _, _ => none
 | k + 1, x0, x1, x24 => if x24 = true then ((parterrelaw03_lives.f k).bind fun t215 => (some t215)) else ((token_Tokens.f k x0).bind fun bt216 => ((token_Tokens.f k x1).bind fun bt221 => ((some (([] : List Int) : List Int)).bind fun y226 => (if y226.length + x0.length < 140737488355328 then ((some (y226 ++ x0 : List Int)).bind fun y229 => (if y229.length + 2 < 140737488355328 then ((some (y229 ++ bytesOf (⟨#[10, 10]⟩ : ByteArray) : List Int)).bind fun y232 => (if y232.length + x1.length < 140737488355328 then ((token_Tokens.f k (y232 ++ x1)).bind fun bt238 => (if bt216.2.2 = 0 then (if bt221.2.2 = 0 then (if bt238.2.2 = 0 then (parterrelaw03_TokenParts.j1 k x0 bt216.1 bt221.1 bt238.1 ((bt238.1.length : Int) != (wrap64 ((wrap64 ((bt216.1.length : Int) + (bt221.1.length : Int))) - 1)))) else (parterrelaw03_TokenParts.j1 k x0 bt216.1 bt221.1 bt238.1 true)) else (if bt238.2.2 = bt221.2.2 then (if bt238.2.1 = (wrap64 ((wrap64 (bt221.2.1 + (x0.length : Int))) + 2)) then ((parterrelaw03_lives.f k).bind fun t244 => (some t244)) else (none)) else (none))) else ((parterrelaw03_lives.f k).bind fun t243 => (some t243)))) else (none))) else (none))) else (none)))))
def parterrelaw03_TokenParts.j1 : Nat → List Int → List (S29) → List (S29) → List (S29) → Bool → Option (Bool)
 | 0, _, _, _, _, _ => none
 | k + 1, x0, x5, x8, x11, x81 => if x81 = true then (none) else (parterrelaw03_TokenParts.l0 k x0 x5 x8 x11 (x11.length : Int) 0)
def parterrelaw03_TokenParts.l0 : Nat → List Int → List (S29) → List (S29) → List (S29) → Int → Int → Option (Bool)
 | 0, _, _, _, _, _, _ => none
 | k + 1, x0, x5, x8, x82, x83, x84 => if x84 < x83 then (if 0 ≤ x84 then (if x84 < (x82.length : Int) then (if x84 < (wrap64 ((x5.length : Int) - 1)) then (if x84 < (x5.length : Int) then (if (!(((rd_T29 x82 x84).f0) == ((rd_T29 x5 x84).f0)) || (!(((rd_T29 x82 x84).f1) == ((rd_T29 x5 x84).f1)) || (!((((rd_T29 x82 x84).f2).toList) == (((rd_T29 x5 x84).f2).toList)) || (!((((rd_T29 x82 x84).f3).toList) == (((rd_T29 x5 x84).f3).toList)))))) = true then (none) else (parterrelaw03_TokenParts.l0 k x0 x5 x8 x82 x83 (wrap64 (x84 + 1)))) else (none)) else (if 0 ≤ (wrap64 ((wrap64 (x84 - (x5.length : Int))) + 1)) then (if (wrap64 ((wrap64 (x84 - (x5.length : Int))) + 1)) < (x8.length : Int) then (if (!(((rd_T29 x82 x84).f0) == ((rd_T29 x8 (wrap64 ((wrap64 (x84 - (x5.length : Int))) + 1))).f0)) || (!(((rd_T29 x82 x84).f1) == (wrap64 (((rd_T29 x8 (wrap64 ((wrap64 (x84 - (x5.length : Int))) + 1))).f1) + (wrap64 ((x0.length : Int) + 2))))) || (!((((rd_T29 x82 x84).f2).toList) == (((rd_T29 x8 (wrap64 ((wrap64 (x84 - (x5.length : Int))) + 1))).f2).toList)) || (!((((rd_T29 x82 x84).f3).toList) == (((rd_T29 x8 (wrap64 ((wrap64 (x84 - (x5.length : Int))) + 1))).f3).toList)))))) = true then (none) else (parterrelaw03_TokenParts.l0 k x0 x5 x8 x82 x83 (wrap64 (x84 + 1)))) else (none)) else (none))) else (none)) else (none)) else ((parterrelaw03_lives.f k).bind fun t245 => (some t245))
end
def parterrelaw03_TokenParts.f (k : Nat) (l0 : List Int) (l1 : List Int) : Option (Bool) := if (l0.length : Int) > 2000 then (parterrelaw03_TokenParts.j0 k l0 l1 true) else (parterrelaw03_TokenParts.j0 k l0 l1 (decide ((l1.length : Int) > 2000)))
theorem parterrelaw03_TokenParts.mono_l : ∀ k, (∀ y0 y1 y2, LeO (parterrelaw03_TokenParts.j0 k y0 y1 y2) (parterrelaw03_TokenParts.j0 (k + 1) y0 y1 y2)) ∧ (∀ y0 y1 y2 y3 y4, LeO (parterrelaw03_TokenParts.j1 k y0 y1 y2 y3 y4) (parterrelaw03_TokenParts.j1 (k + 1) y0 y1 y2 y3 y4)) ∧ (∀ y0 y1 y2 y3 y4 y5, LeO (parterrelaw03_TokenParts.l0 k y0 y1 y2 y3 y4 y5) (parterrelaw03_TokenParts.l0 (k + 1) y0 y1 y2 y3 y4 y5))
 | 0 => ⟨fun _ _ _ r h => by simp [parterrelaw03_TokenParts.j0] at h, fun _ _ _ _ _ r h => by simp [parterrelaw03_TokenParts.j1] at h, fun _ _ _ _ _ _ r h => by simp [parterrelaw03_TokenParts.l0] at h⟩
 | k + 1 => by
  obtain ⟨ih0, ih1, ih2⟩ := parterrelaw03_TokenParts.mono_l k
  refine ⟨?_, ?_, ?_⟩
  ·intro y0 y1 y2
   unfold parterrelaw03_TokenParts.j0
   repeat' first
   | (with_reducible exact ih0 _ _ _)
   | (with_reducible exact ih1 _ _ _ _ _)
   | (with_reducible exact ih2 _ _ _ _ _ _)
   | (with_reducible exact parterrelaw03_lives.mono _)
   | (with_reducible exact token_Tokens.mono _ _)
   | (with_reducible exact LeO.refl _)
   | (with_reducible exact LeO.none _)
   | (with_reducible refine LeO.ite ?_ ?_)
   | (with_reducible refine LeO.bind ?_ (fun _ => ?_))
  ·intro y0 y1 y2 y3 y4
   unfold parterrelaw03_TokenParts.j1
   repeat' first
   | (with_reducible exact ih0 _ _ _)
   | (with_reducible exact ih1 _ _ _ _ _)
   | (with_reducible exact ih2 _ _ _ _ _ _)
   | (with_reducible exact parterrelaw03_lives.mono _)
   | (with_reducible exact token_Tokens.mono _ _)
   | (with_reducible exact LeO.refl _)
   | (with_reducible exact LeO.none _)
   | (with_reducible refine LeO.ite ?_ ?_)
   | (with_reducible refine LeO.bind ?_ (fun _ => ?_))
  ·intro y0 y1 y2 y3 y4 y5
   unfold parterrelaw03_TokenParts.l0
   repeat' first
   | (with_reducible exact ih0 _ _ _)
   | (with_reducible exact ih1 _ _ _ _ _)
   | (with_reducible exact ih2 _ _ _ _ _ _)
   | (with_reducible exact parterrelaw03_lives.mono _)
   | (with_reducible exact token_Tokens.mono _ _)
   | (with_reducible exact LeO.refl _)
   | (with_reducible exact LeO.none _)
   | (with_reducible refine LeO.ite ?_ ?_)
   | (with_reducible refine LeO.bind ?_ (fun _ => ?_))
theorem parterrelaw03_TokenParts.mono : ∀ a0 a1 k, LeO (parterrelaw03_TokenParts.f k a0 a1) (parterrelaw03_TokenParts.f (k + 1) a0 a1) := by
 intro a0 a1 k
 obtain ⟨ih0, ih1, ih2⟩ := parterrelaw03_TokenParts.mono_l k
 unfold parterrelaw03_TokenParts.f
 repeat' first
   | (with_reducible exact ih0 _ _ _)
   | (with_reducible exact ih1 _ _ _ _ _)
   | (with_reducible exact ih2 _ _ _ _ _ _)
   | (with_reducible exact parterrelaw03_lives.mono _)
   | (with_reducible exact token_Tokens.mono _ _)
   | (with_reducible exact LeO.refl _)
   | (with_reducible exact LeO.none _)
   | (with_reducible refine LeO.ite ?_ ?_)
   | (with_reducible refine LeO.bind ?_ (fun _ => ?_))
set_option maxHeartbeats 8000000 in
set_option maxRecDepth 100000 in
theorem parterrelaw03_TokenParts.calls (k : Nat) (A0 : Option Addr) (c0 : Nat) (l0 : List Int) (A1 : Option Addr) (c1 : Nat) (l1 : List Int) (r : Bool) (w : World) (hr0 : Kd.C (Kd.int .u8) w A0 l0.length l0) (hc0 : l0.length ≤ c0) (hr1 : Kd.C (Kd.int .u8) w A1 l1.length l1) (hc1 : l1.length ≤ c1) (h : parterrelaw03_TokenParts.f k l0 l1 = some r) (htab : Ml w) :
  Calls Try.prog 4 #[.slice A0 l0.length c0, .slice A1 l1.length c1] w fun e w' => e = .returned (.bool r) ∧ Below w.heap.size w w' := by
 have HTB := Aside0.mk htab
 clear htab
 have hu29 := Try.underlying29
 have HR0 := Aside0.mk hr0
 have HC0 := Aside0.mk hc0
 clear hr0 hc0
 have HR1 := Aside0.mk hr1
 have HC1 := Aside0.mk hc1
 clear hr1 hc1
 have HB := Aside0.mk (Below.refl w.heap.size w)
 have H : (if (l0.length : Int) > 2000 then (parterrelaw03_TokenParts.j0 k l0 l1 true) else (parterrelaw03_TokenParts.j0 k l0 l1 (decide ((l1.length : Int) > 2000)))) = some r := h
 clear h
 have HC3 := Aside0.mk H
 clear H
 go_enter Try.func4, Try.ntmps4
 go_upto_region 1 with (fail)
 go_cut [24] (fun v24 wc => ∃ (kq : Nat) (x24_2 : Bool), v24 = .bool x24_2 ∧ Aside0 (parterrelaw03_TokenParts.j0 kq l0 l1 x24_2 = some r) ∧ Aside0 (kq ≤ k) ∧ Aside0 (Below w.heap.size w wc))
 case first =>
  have H := HC3.out
  clear HC3
  by_cases c4 : (l0.length : Int) > 2000
  ·rw [if_pos c4] at H
   have c4b0 : decide (2000 < (l0.length : Int)) = true := decide_eq_true c4
   have c4b1 : decide (2000 < l0.length) = true := decide_eq_true (by omega)
   clear c4
   (first | rw [c4b0] | (simp only [i64_w, i32_w]; rw [c4b0]) | skip)
   have H' := Aside0.mk H
   clear H
   go_wp2
   go_meet
   case rel => exact ⟨_, (true), rfs_, (by first | exact H' | (subst_vars; exact H')), ⟨ole_⟩, ⟨bel_⟩⟩
  ·rw [if_neg c4] at H
   have c4b0 : decide (2000 < (l0.length : Int)) = false := decide_eq_false c4
   have c4b1 : decide (2000 < l0.length) = false := decide_eq_false (by omega)
   clear c4
   (first | rw [c4b0] | (simp only [i64_w, i32_w]; rw [c4b0]) | skip)
   have H' := Aside0.mk H
   clear H
   go_wp2
   go_meet
   case rel => exact ⟨_, (decide ((l1.length : Int) > 2000)), rfs_, (by first | exact H' | (subst_vars; exact H')), ⟨ole_⟩, ⟨bel_⟩⟩
 case rest =>
  clear HC3
  try clear c1
  try clear p2
  try clear c4
  try clear c4b0
  try clear c4b1
  obtain ⟨kq, x24_2, rfl, HA, HJ2, HB⟩ := hcut
  cases kq with
  | zero => exact absurd HA.out (by simp [parterrelaw03_TokenParts.j0])
  | succ kj2 =>
   have H := HA.out
   clear HA
   simp only [parterrelaw03_TokenParts.j0] at H
   by_cases c5 : x24_2 = true
   ·subst c5
    rw [if_pos rfl] at H
    replace H := Option.bind_eq_some_iff.mp H
    obtain ⟨t215, A60, H⟩ := H
    try dsimp only at H
    have A6 := Aside0.mk A60
    clear A60
    obtain rfl := Option.some.inj H
    go_wp2_with (first | ((with_reducible refine gate_callee (f := 5) rfl ?_); refine goesL_ (some 25) rfl rfl Try.func5 (by kernel_rfl) rfl #[] rfl goa_ ?_; (with_reducible refine (parterrelaw03_lives.calls kj2  t215 _ A6.out (Ml.below HTB.out bel_)).mono ?_); rintro e w7 ⟨rfl, hb⟩; refine ⟨_, rfl, ?_⟩; have n0_ := Aside0.mk (below_step bel_ hb); clear HB; have HB := n0_; clear n0_; clear hb))
    go_ret
    exact ⟨rsl_, bel_⟩
   ·replace c5 := Bool.eq_false_iff.mpr c5
    subst c5
    rw [if_neg (show ¬ (false = true) by decide)] at H
    replace H := Option.bind_eq_some_iff.mp H
    obtain ⟨⟨t216, t217, t218⟩, A80, H⟩ := H
    try dsimp only at H
    have A8 := Aside0.mk A80
    clear A80
    replace H := Option.bind_eq_some_iff.mp H
    obtain ⟨⟨t221, t222, t223⟩, A90, H⟩ := H
    try dsimp only at H
    have A9 := Aside0.mk A90
    clear A90
    obtain ⟨y226, hy226⟩ : ∃ y_ : List Int, y_ = (([] : List Int)) := ⟨_, rfl⟩
    replace H : (if y226.length + l0.length < 140737488355328 then ((some (y226 ++ l0 : List Int)).bind fun y229 => (if y229.length + 2 < 140737488355328 then ((some (y229 ++ bytesOf (⟨#[10, 10]⟩ : ByteArray) : List Int)).bind fun y232 => (if y232.length + l1.length < 140737488355328 then ((token_Tokens.f kj2 (y232 ++ l1)).bind fun bt238 => (if t218 = 0 then (if t223 = 0 then (if bt238.2.2 = 0 then (parterrelaw03_TokenParts.j1 kj2 l0 t216 t221 bt238.1 ((bt238.1.length : Int) != (wrap64 ((wrap64 ((t216.length : Int) + (t221.length : Int))) - 1)))) else (parterrelaw03_TokenParts.j1 kj2 l0 t216 t221 bt238.1 true)) else (if bt238.2.2 = t223 then (if bt238.2.1 = (wrap64 ((wrap64 (t222 + (l0.length : Int))) + 2)) then ((parterrelaw03_lives.f kj2).bind fun t244 => (some t244)) else (none)) else (none))) else ((parterrelaw03_lives.f kj2).bind fun t243 => (some t243)))) else (none))) else (none))) else (none)) = some r := by first | (rw [hy226]; with_reducible exact H) | (have H2_ := (Option.bind_some _ _).symm.trans H; rw [hy226]; with_reducible exact H2_) | (have H2_ := (Option.bind_some _ _).symm.trans H; with_reducible exact H2_) | with_reducible exact H | (rw [hy226]; exact H) | exact H
    have Ny226 := Aside0.mk hy226
    clear hy226
    by_cases c10 : y226.length + l0.length < 140737488355328
    ·rw [if_pos c10] at H
     have LMc10 := Aside0.mk c10
     clear c10
     obtain ⟨y229, hy229⟩ : ∃ y_ : List Int, y_ = (y226 ++ l0) := ⟨_, rfl⟩
     replace H : (if y229.length + 2 < 140737488355328 then ((some (y229 ++ bytesOf (⟨#[10, 10]⟩ : ByteArray) : List Int)).bind fun y232 => (if y232.length + l1.length < 140737488355328 then ((token_Tokens.f kj2 (y232 ++ l1)).bind fun bt238 => (if t218 = 0 then (if t223 = 0 then (if bt238.2.2 = 0 then (parterrelaw03_TokenParts.j1 kj2 l0 t216 t221 bt238.1 ((bt238.1.length : Int) != (wrap64 ((wrap64 ((t216.length : Int) + (t221.length : Int))) - 1)))) else (parterrelaw03_TokenParts.j1 kj2 l0 t216 t221 bt238.1 true)) else (if bt238.2.2 = t223 then (if bt238.2.1 = (wrap64 ((wrap64 (t222 + (l0.length : Int))) + 2)) then ((parterrelaw03_lives.f kj2).bind fun t244 => (some t244)) else (none)) else (none))) else ((parterrelaw03_lives.f kj2).bind fun t243 => (some t243)))) else (none))) else (none)) = some r := by first | (rw [hy229]; with_reducible exact H) | (have H2_ := (Option.bind_some _ _).symm.trans H; rw [hy229]; with_reducible exact H2_) | (have H2_ := (Option.bind_some _ _).symm.trans H; with_reducible exact H2_) | with_reducible exact H | (rw [hy229]; exact H) | exact H
     have Ny229 := Aside0.mk hy229
     clear hy229
     by_cases c11 : y229.length + 2 < 140737488355328
     ·rw [if_pos c11] at H
      have LMc11 := Aside0.mk c11
      clear c11
      obtain ⟨y232, hy232⟩ : ∃ y_ : List Int, y_ = (y229 ++ bytesOf (⟨#[10, 10]⟩ : ByteArray)) := ⟨_, rfl⟩
      replace H : (if y232.length + l1.length < 140737488355328 then ((token_Tokens.f kj2 (y232 ++ l1)).bind fun bt238 => (if t218 = 0 then (if t223 = 0 then (if bt238.2.2 = 0 then (parterrelaw03_TokenParts.j1 kj2 l0 t216 t221 bt238.1 ((bt238.1.length : Int) != (wrap64 ((wrap64 ((t216.length : Int) + (t221.length : Int))) - 1)))) else (parterrelaw03_TokenParts.j1 kj2 l0 t216 t221 bt238.1 true)) else (if bt238.2.2 = t223 then (if bt238.2.1 = (wrap64 ((wrap64 (t222 + (l0.length : Int))) + 2)) then ((parterrelaw03_lives.f kj2).bind fun t244 => (some t244)) else (none)) else (none))) else ((parterrelaw03_lives.f kj2).bind fun t243 => (some t243)))) else (none)) = some r := by first | (rw [hy232]; with_reducible exact H) | (have H2_ := (Option.bind_some _ _).symm.trans H; rw [hy232]; with_reducible exact H2_) | (have H2_ := (Option.bind_some _ _).symm.trans H; with_reducible exact H2_) | with_reducible exact H | (rw [hy232]; exact H) | exact H
      have Ny232 := Aside0.mk hy232
      clear hy232
      by_cases c12 : y232.length + l1.length < 140737488355328
      ·rw [if_pos c12] at H
       have LMc12 := Aside0.mk c12
       clear c12
       obtain ⟨y235, hy235⟩ : ∃ y_ : List Int, y_ = (y232 ++ l1) := ⟨_, rfl⟩
       replace H : ((token_Tokens.f kj2 y235).bind fun bt238 => (if t218 = 0 then (if t223 = 0 then (if bt238.2.2 = 0 then (parterrelaw03_TokenParts.j1 kj2 l0 t216 t221 bt238.1 ((bt238.1.length : Int) != (wrap64 ((wrap64 ((t216.length : Int) + (t221.length : Int))) - 1)))) else (parterrelaw03_TokenParts.j1 kj2 l0 t216 t221 bt238.1 true)) else (if bt238.2.2 = t223 then (if bt238.2.1 = (wrap64 ((wrap64 (t222 + (l0.length : Int))) + 2)) then ((parterrelaw03_lives.f kj2).bind fun t244 => (some t244)) else (none)) else (none))) else ((parterrelaw03_lives.f kj2).bind fun t243 => (some t243)))) = some r := by first | (rw [hy235]; with_reducible exact H) | (have H2_ := (Option.bind_some _ _).symm.trans H; rw [hy235]; with_reducible exact H2_) | (have H2_ := (Option.bind_some _ _).symm.trans H; with_reducible exact H2_) | with_reducible exact H | (rw [hy235]; exact H) | exact H
       have Ny235 := Aside0.mk hy235
       clear hy235
       replace H := Option.bind_eq_some_iff.mp H
       obtain ⟨⟨t238, t239, t240⟩, A130, H⟩ := H
       try dsimp only at H
       have A13 := Aside0.mk A130
       clear A130
       by_cases c14 : t218 = 0
       ·rw [if_pos c14] at H
        have c14b0 : (t218 == 0) = true := beq_iff_eq.mpr c14
        have c14b1 : (t218 != 0) = false := bne_eq_false_iff_eq.mpr c14
        clear c14
        by_cases c15 : t223 = 0
        ·rw [if_pos c15] at H
         have c15b0 : (t223 == 0) = true := beq_iff_eq.mpr c15
         have c15b1 : (t223 != 0) = false := bne_eq_false_iff_eq.mpr c15
         clear c15
         have HC16 := Aside0.mk H
         clear H
         go_upto_region 10 with (first | ((with_reducible refine gate_callee (f := 6) rfl ?_); refine goesL_ (some 28) rfl rfl Try.func6 (by kernel_rfl) rfl #[.slice A0 l0.length c0] rfl goa_ ?_; (with_reducible refine (token_Tokens.calls kj2 _ _ l0 t216 t217 t218 _ ?side1 ?side2 A8.out (Ml.below HTB.out bel_)).mono ?_); (case side1 => repeat (first | exact (Kd.C_below HR0.out HB.out) | (with_reducible refine Kd.C_alloc ?_ _) | (with_reducible refine Kd.C_drewN ?_ _) | (with_reducible refine Kd.C_drew ?_))); (case side2 => exact HC0.out); rintro e w17 ⟨v219, rfl, ho0, hb⟩; refine ⟨_, rfl, ?_⟩; have n0_ := Aside0.mk (Kd.R_lower ho0 (below_size bel_)); have n1_ := Aside0.mk (below_step bel_ hb); clear HB; have HO220 := n0_; have HB := n1_; clear n0_ n1_; (try clear hb); (try clear hb2); (try clear hk); (try clear hi); (try clear ho0)) | ((with_reducible refine gate_callee (f := 6) rfl ?_); refine goesL_ (some 34) rfl rfl Try.func6 (by kernel_rfl) rfl #[.slice A1 l1.length c1] rfl goa_ ?_; (with_reducible refine (token_Tokens.calls kj2 _ _ l1 t221 t222 t223 _ ?side1 ?side2 A9.out (Ml.below HTB.out bel_)).mono ?_); (case side1 => repeat (first | exact (Kd.C_below HR1.out HB.out) | (with_reducible refine Kd.C_alloc ?_ _) | (with_reducible refine Kd.C_drewN ?_ _) | (with_reducible refine Kd.C_drew ?_))); (case side2 => exact HC1.out); rintro e w18 ⟨v224, rfl, ho0, hb⟩; refine ⟨_, rfl, ?_⟩; have n0_ := Aside0.mk (Kd.R_elder' (by (with_reducible repeat (first | apply Kd.R_alloc | apply Kd.R_drewN | apply Kd.R_drew)); exact HO220.out) (Kd.R_base ho0) hb); have n1_ := Aside0.mk (Kd.R_lower (Kd.R_new' ho0 (Kd.R_lt (by (with_reducible repeat (first | apply Kd.R_alloc | apply Kd.R_drewN | apply Kd.R_drew)); exact HO220.out))) (below_size bel_)); have n2_ := Aside0.mk (below_step bel_ hb); clear HO220; clear HB; have HO220 := n0_; have HO225 := n1_; have HB := n2_; clear n0_ n1_ n2_; (try clear hb); (try clear hb2); (try clear hk); (try clear hi); (try clear ho0)) | ((with_reducible refine gate_dst (N := 39) rfl ?_); (try (refine gate_guard (by rfl) ?_; dsimp only)); refine Kd.R_lit (Kd.int .u8) _ 5 ?hg (N := 39) ?hd (xs := ([] : List Int)) (inner := []) (ok := fun _ => True) (okp := fun _ => True) ?hr ?hp (fun _ hk => hk) trivial (Below.refl _ _) (Nat.le_refl _) (by simp) ?_; (case hd => rfl); (case hg => rfl); (case hr => first | (go_simp; done) | (go_simp; rfl)); (case hp => exact (Reps.none _ _)); intro v227 w19 ho20 hb hg_ hnew_; clear hg_ hnew_; (first | rw [← Ny226.out] at ho20 | (simp only [Int.reduceToNat] at ho20; rw [← Ny226.out] at ho20)); have n0_ := Aside0.mk (Kd.R_below (by (with_reducible repeat (first | apply Kd.R_alloc | apply Kd.R_drewN | apply Kd.R_drew)); exact HO220.out) hb); have n1_ := Aside0.mk (Kd.R_below (by (with_reducible repeat (first | apply Kd.R_alloc | apply Kd.R_drewN | apply Kd.R_drew)); exact HO225.out) hb); have n2_ := Aside0.mk (Kd.R_lower ho20 (below_size bel_)); have n3_ := Aside0.mk (below_step bel_ hb); clear HO220; clear HO225; clear HB; have HO220 := n0_; have HO225 := n1_; have HO228 := n2_; have HB := n3_; clear n0_ n1_ n2_ n3_; clear hb ho20) | ((with_reducible refine gate_builtin (b := .append) (xs := #[.tmp 39, .tmp 40]) rfl ?_); (try (refine gate_guard (by rfl) ?_; dsimp only)); at_builtin; refine Kd.R_append_rows (Kd.int .u8) (w0 := w) w.heap.size rfl (.tmp 39) (.tmp 40) 22 5 (.int .u8 0) 1 rfl Try.underlying22 info5 rfl (by decide) (by omega) v227 y226 l0 _ _ _ (fun _ => True) (fun _ => False) rfl rfl ?aO ?aR (fun _ _ h => h) (fun _ h => h.elim) ?aF ?aB ?aS ?aL ?_; (case aR => repeat (first | exact (Kd.C_below HR0.out HB.out) | (with_reducible refine Kd.C_alloc ?_ _) | (with_reducible refine Kd.C_drewN ?_ _) | (with_reducible refine Kd.C_drew ?_))); (case aB => exact bel_); (case aF => exact (fun _ _ => trivial)); (case aO => exact (by (with_reducible repeat (first | apply Kd.R_alloc | apply Kd.R_drewN | apply Kd.R_drew)); exact HO228.out)); (case aS => exact (below_size bel_)); (case aL => have := LMc10.out; omega); intro v230 w21 ho hb hg hat; rw [← Ny229.out] at ho; have n0_ := Aside0.mk (Kd.R_over' (by (with_reducible repeat (first | apply Kd.R_alloc | apply Kd.R_drewN | apply Kd.R_drew)); exact HO220.out) (Kd.R_typed (by (with_reducible repeat (first | apply Kd.R_alloc | apply Kd.R_drewN | apply Kd.R_drew)); exact HO228.out)) (by decide) hg); have n1_ := Aside0.mk (Kd.R_over' (by (with_reducible repeat (first | apply Kd.R_alloc | apply Kd.R_drewN | apply Kd.R_drew)); exact HO225.out) (Kd.R_typed (by (with_reducible repeat (first | apply Kd.R_alloc | apply Kd.R_drewN | apply Kd.R_drew)); exact HO228.out)) (by decide) hg); have n2_ := Aside0.mk (hb); have n3_ := Aside0.mk (ho); clear HO220; clear HO225; clear HB; clear HO228; have HO220 := n0_; have HO225 := n1_; have HB := n2_; have HO231 := n3_; clear n0_ n1_ n2_ n3_; clear ho hb hg hat) | (at_builtin; refine print_append_str (w0 := w) w.heap.size rfl (.tmp 41) _ 22 9 5 rfl Try.underlying22 Try.underlying9 info5 v230 y229 (⟨#[10, 10]⟩ : ByteArray) rfl rfl ?aO ?aB ?aS ?aL ?_; (case aB => exact bel_); (case aO => exact (Kd.own_of_R (by (with_reducible repeat (first | apply Kd.R_alloc | apply Kd.R_drewN | apply Kd.R_drew)); exact HO231.out))); (case aS => exact (below_size bel_)); (case aL => have := LMc11.out; have hz_ : ((⟨#[10, 10]⟩ : ByteArray)).size = 2 := rfl; omega); intro v233 w22 ho0 hb hg; have ho := Kd.R_of_own (h1 := fun _ => rfl) (ok := fun _ => True) ho0 (fun _ _ => trivial); clear ho0; have hat := True.intro; rw [← Ny232.out] at ho; change Kd.R (Kd.int .u8) 5 w22 w.heap.size (fun _ => True) v233 y232 at ho; have n0_ := Aside0.mk (Kd.R_over' (by (with_reducible repeat (first | apply Kd.R_alloc | apply Kd.R_drewN | apply Kd.R_drew)); exact HO220.out) (Kd.R_typed (by (with_reducible repeat (first | apply Kd.R_alloc | apply Kd.R_drewN | apply Kd.R_drew)); exact HO231.out)) (by decide) hg); have n1_ := Aside0.mk (Kd.R_over' (by (with_reducible repeat (first | apply Kd.R_alloc | apply Kd.R_drewN | apply Kd.R_drew)); exact HO225.out) (Kd.R_typed (by (with_reducible repeat (first | apply Kd.R_alloc | apply Kd.R_drewN | apply Kd.R_drew)); exact HO231.out)) (by decide) hg); have n2_ := Aside0.mk (hb); have n3_ := Aside0.mk (ho); clear HO220; clear HO225; clear HB; clear HO231; have HO220 := n0_; have HO225 := n1_; have HB := n2_; have HO234 := n3_; clear n0_ n1_ n2_ n3_; clear ho hb hg hat) | ((with_reducible refine gate_builtin (b := .append) (xs := #[.tmp 42, .tmp 43]) rfl ?_); (try (refine gate_guard (by rfl) ?_; dsimp only)); at_builtin; refine Kd.R_append_rows (Kd.int .u8) (w0 := w) w.heap.size rfl (.tmp 42) (.tmp 43) 22 5 (.int .u8 0) 1 rfl Try.underlying22 info5 rfl (by decide) (by omega) v233 y232 l1 _ _ _ (fun _ => True) (fun _ => False) rfl rfl ?aO ?aR (fun _ _ h => h) (fun _ h => h.elim) ?aF ?aB ?aS ?aL ?_; (case aR => repeat (first | exact (Kd.C_below HR1.out HB.out) | (with_reducible refine Kd.C_alloc ?_ _) | (with_reducible refine Kd.C_drewN ?_ _) | (with_reducible refine Kd.C_drew ?_))); (case aB => exact bel_); (case aF => exact (fun _ _ => trivial)); (case aO => exact (by (with_reducible repeat (first | apply Kd.R_alloc | apply Kd.R_drewN | apply Kd.R_drew)); exact HO234.out)); (case aS => exact (below_size bel_)); (case aL => have := LMc12.out; omega); intro v236 w23 ho hb hg hat; rw [← Ny235.out] at ho; have n0_ := Aside0.mk (Kd.R_over' (by (with_reducible repeat (first | apply Kd.R_alloc | apply Kd.R_drewN | apply Kd.R_drew)); exact HO220.out) (Kd.R_typed (by (with_reducible repeat (first | apply Kd.R_alloc | apply Kd.R_drewN | apply Kd.R_drew)); exact HO234.out)) (by decide) hg); have n1_ := Aside0.mk (Kd.R_over' (by (with_reducible repeat (first | apply Kd.R_alloc | apply Kd.R_drewN | apply Kd.R_drew)); exact HO225.out) (Kd.R_typed (by (with_reducible repeat (first | apply Kd.R_alloc | apply Kd.R_drewN | apply Kd.R_drew)); exact HO234.out)) (by decide) hg); have n2_ := Aside0.mk (hb); have n3_ := Aside0.mk (ho); clear HO220; clear HO225; clear HB; clear HO234; have HO220 := n0_; have HO225 := n1_; have HB := n2_; have HO237 := n3_; clear n0_ n1_ n2_ n3_; clear ho hb hg hat; obtain ⟨Ao24, co24, eo24⟩ := Kd.R_slice HO237.out; subst eo24) | ((with_reducible refine gate_callee (f := 6) rfl ?_); refine goesL_ (some 45) rfl rfl Try.func6 (by kernel_rfl) rfl #[.slice Ao24 y235.length co24] rfl goa_ ?_; (with_reducible refine (token_Tokens.calls kj2 _ _ y235 t238 t239 t240 _ ?side1 ?side2 A13.out (Ml.below HTB.out bel_)).mono ?_); (case side1 => repeat (first | exact (Kd.R_reads' HO237.out).2.2 | (with_reducible refine Kd.C_alloc ?_ _) | (with_reducible refine Kd.C_drewN ?_ _) | (with_reducible refine Kd.C_drew ?_))); (case side2 => exact (Kd.R_reads' HO237.out).2.1); rintro e w25 ⟨v241, rfl, ho0, hb⟩; refine ⟨_, rfl, ?_⟩; have n0_ := Aside0.mk (Kd.R_elder' (by (with_reducible repeat (first | apply Kd.R_alloc | apply Kd.R_drewN | apply Kd.R_drew)); exact HO220.out) (Kd.R_base ho0) hb); have n1_ := Aside0.mk (Kd.R_elder' (by (with_reducible repeat (first | apply Kd.R_alloc | apply Kd.R_drewN | apply Kd.R_drew)); exact HO225.out) (Kd.R_base ho0) hb); have n2_ := Aside0.mk (Kd.R_below (by (with_reducible repeat (first | apply Kd.R_alloc | apply Kd.R_drewN | apply Kd.R_drew)); exact HO237.out) hb); have n3_ := Aside0.mk (Kd.R_lower (Kd.R_new' (Kd.R_new' ho0 (Kd.R_lt (by (with_reducible repeat (first | apply Kd.R_alloc | apply Kd.R_drewN | apply Kd.R_drew)); exact HO220.out))) (Kd.R_lt (by (with_reducible repeat (first | apply Kd.R_alloc | apply Kd.R_drewN | apply Kd.R_drew)); exact HO225.out))) (below_size bel_)); have n4_ := Aside0.mk (below_step bel_ hb); clear HO220; clear HO225; clear HO237; clear HB; have HO220 := n0_; have HO225 := n1_; have HO237 := n2_; have HO242 := n3_; have HB := n4_; clear n0_ n1_ n2_ n3_ n4_; (try clear hb); (try clear hb2); (try clear hk); (try clear hi); (try clear ho0)))
         (try simp only [Act.put, List.setIfInBounds_toArray, List.set_cons_zero, List.set_cons_succ])
         go_cut [81] (fun v81 wc => ∃ (kq : Nat) (x81_15 : Bool), v81 = .bool x81_15 ∧ Aside0 (parterrelaw03_TokenParts.j1 kq l0 t216 t221 t238 x81_15 = some r) ∧ Aside0 (kq ≤ kj2) ∧ Aside0 (Kd.R k29 29 wc w.heap.size (fun k_ => some k_ ≠ (v224 : Value).ownBlock ∧ some k_ ≠ (v241 : Value).ownBlock) v219 t216) ∧ Aside0 (Kd.R k29 29 wc w.heap.size (fun k_ => some k_ ≠ (v219 : Value).ownBlock ∧ some k_ ≠ (v241 : Value).ownBlock) v224 t221) ∧ Aside0 (Kd.R k29 29 wc w.heap.size (fun k_ => some k_ ≠ (v219 : Value).ownBlock ∧ some k_ ≠ (v224 : Value).ownBlock) v241 t238) ∧ Aside0 (Below w.heap.size w wc))
         case first =>
          have H := HC16.out
          clear HC16
          by_cases c26 : t240 = 0
          ·rw [if_pos c26] at H
           have c26b0 : (t240 == 0) = true := beq_iff_eq.mpr c26
           have c26b1 : (t240 != 0) = false := bne_eq_false_iff_eq.mpr c26
           clear c26
           (first | rw [c26b0] | (simp only [i64_w, i32_w]; rw [c26b0]) | skip)
           have H' := Aside0.mk H
           clear H
           obtain ⟨Ao27, co27, eo27⟩ := Kd.R_slice HO242.out
           subst eo27
           obtain ⟨Ao28, co28, eo28⟩ := Kd.R_slice HO220.out
           subst eo28
           obtain ⟨Ao29, co29, eo29⟩ := Kd.R_slice HO225.out
           subst eo29
           go_wp2
           go_meet
           case rel => exact ⟨_, (((t238.length : Int) != (wrap64 ((wrap64 ((t216.length : Int) + (t221.length : Int))) - 1)))), rfs_, H', ⟨by have := HJ2.out; first | omega | exact Nat.le_refl _⟩, ⟨by (with_reducible repeat (first | apply Kd.R_alloc | apply Kd.R_drewN | apply Kd.R_drew)); exact Kd.R_mono HO220.out (fun _ hk => ⟨hk.1.2, hk.2⟩)⟩, ⟨by (with_reducible repeat (first | apply Kd.R_alloc | apply Kd.R_drewN | apply Kd.R_drew)); exact Kd.R_mono HO225.out (fun _ hk => ⟨hk.1.2, hk.2⟩)⟩, ⟨by (with_reducible repeat (first | apply Kd.R_alloc | apply Kd.R_drewN | apply Kd.R_drew)); exact Kd.R_mono HO242.out (fun _ hk => ⟨hk.1.2, hk.2⟩)⟩, ⟨bel_⟩⟩
          ·rw [if_neg c26] at H
           have c26b0 : (t240 == 0) = false := beq_eq_false_iff_ne.mpr c26
           have c26b1 : (t240 != 0) = true := bne_iff_ne.mpr c26
           (first | rw [c26b0] | (simp only [i64_w, i32_w]; rw [c26b0]) | skip)
           have H' := Aside0.mk H
           clear H
           go_wp2
           go_meet
           case rel => exact ⟨_, (true), rfs_, H', ⟨by have := HJ2.out; first | omega | exact Nat.le_refl _⟩, ⟨by (with_reducible repeat (first | apply Kd.R_alloc | apply Kd.R_drewN | apply Kd.R_drew)); exact Kd.R_mono HO220.out (fun _ hk => ⟨hk.1.2, hk.2⟩)⟩, ⟨by (with_reducible repeat (first | apply Kd.R_alloc | apply Kd.R_drewN | apply Kd.R_drew)); exact Kd.R_mono HO225.out (fun _ hk => ⟨hk.1.2, hk.2⟩)⟩, ⟨by (with_reducible repeat (first | apply Kd.R_alloc | apply Kd.R_drewN | apply Kd.R_drew)); exact Kd.R_mono HO242.out (fun _ hk => ⟨hk.1.2, hk.2⟩)⟩, ⟨bel_⟩⟩
         case rest =>
          clear HC16
          try clear c1
          try clear c2
          try clear p2
          try clear c4
          try clear c4b0
          try clear c4b1
          try clear c5
          try clear c6
          try clear p6
          try clear c10
          try clear c11
          try clear c12
          try clear c14
          try clear c14b0
          try clear c14b1
          try clear c15
          try clear c15b0
          try clear c15b1
          try clear c26
          try clear c26b0
          try clear c26b1
          try clear p2
          obtain ⟨kq, x81_15, rfl, HA, HJ15, HO_5, HO_8, HO_11, HB⟩ := hcut
          cases kq with
          | zero => exact absurd HA.out (by simp [parterrelaw03_TokenParts.j1])
          | succ kj15 =>
           have H := HA.out
           clear HA
           simp only [parterrelaw03_TokenParts.j1] at H
           by_cases c30 : x81_15 = true
           ·subst c30
            rw [if_pos rfl] at H
            exact absurd H (by simp)
           ·replace c30 := Bool.eq_false_iff.mpr c30
            subst c30
            rw [if_neg (show ¬ (false = true) by decide)] at H
            have H' := Aside0.mk H
            clear H
            obtain ⟨Ao31, co31, eo31⟩ := Kd.R_slice HO_11.out
            subst eo31
            go_wp2
            go_loopg [84] kj15 (fun kq v84 w' => ∃ (x84_3 : Int), v84 = .int .i64 x84_3 ∧ Aside0 (parterrelaw03_TokenParts.l0 kq l0 t216 t221 t238 (t238.length : Int) x84_3 = some r) ∧ Aside0 (kq ≤ kj15) ∧ Aside0 (Kd.R k29 29 w' w.heap.size (fun k_ => some k_ ≠ (v224 : Value).ownBlock ∧ some k_ ≠ ((.slice Ao31 t238.length co31) : Value).ownBlock) v219 t216) ∧ Aside0 (Kd.R k29 29 w' w.heap.size (fun k_ => some k_ ≠ (v219 : Value).ownBlock ∧ some k_ ≠ ((.slice Ao31 t238.length co31) : Value).ownBlock) v224 t221) ∧ Aside0 (Kd.R k29 29 w' w.heap.size (fun k_ => some k_ ≠ (v219 : Value).ownBlock ∧ some k_ ≠ (v224 : Value).ownBlock) (.slice Ao31 t238.length co31) t238) ∧ Aside0 (Below w.heap.size w w'))
            case atStart => exact ⟨(0), rfs_, H', ⟨Nat.le_refl _⟩, ⟨by (with_reducible repeat (first | apply Kd.R_alloc | apply Kd.R_drewN | apply Kd.R_drew)); exact HO_5.out⟩, ⟨by (with_reducible repeat (first | apply Kd.R_alloc | apply Kd.R_drewN | apply Kd.R_drew)); exact HO_8.out⟩, ⟨by (with_reducible repeat (first | apply Kd.R_alloc | apply Kd.R_drewN | apply Kd.R_drew)); exact HO_11.out⟩, ⟨bel_⟩⟩
            case round =>
             clear H'
             try clear c1
             try clear c2
             try clear p2
             try clear c3
             try clear c4
             try clear c4b0
             try clear c4b1
             try clear c5
             try clear c6
             try clear p6
             try clear c10
             try clear c11
             try clear c12
             try clear c14
             try clear c14b0
             try clear c14b1
             try clear c15
             try clear c15b0
             try clear c15b1
             try clear c26
             try clear c26b0
             try clear c26b1
             try clear c30
             try clear p2
             try clear p6
             obtain ⟨x84_3, rfl, HA, HK3, HO_5, HO_8, HO_82, HB⟩ := hrel
             cases gk with
             | zero => exact absurd HA.out (by simp [parterrelaw03_TokenParts.l0])
             | succ k3 =>
              have H := HA.out
              clear HA
              simp only [parterrelaw03_TokenParts.l0] at H
              by_cases c32 : x84_3 < (t238.length : Int)
              ·rw [if_pos c32] at H
               have c32b0 : decide (x84_3 < (t238.length : Int)) = true := decide_eq_true c32
               clear c32
               by_cases c33 : 0 ≤ x84_3
               ·rw [if_pos c33] at H
                have c33b0 : decide (0 ≤ x84_3) = true := decide_eq_true c33
                clear c33
                by_cases c34 : x84_3 < (t238.length : Int)
                ·rw [if_pos c34] at H
                 have c34b0 : decide (x84_3 < (t238.length : Int)) = true := decide_eq_true c34
                 clear c34
                 by_cases c35 : x84_3 < (wrap64 ((t216.length : Int) - 1))
                 ·rw [if_pos c35] at H
                  have c35b0 : decide (x84_3 < (wrap64 ((t216.length : Int) - 1))) = true := decide_eq_true c35
                  clear c35
                  by_cases c36 : x84_3 < (t216.length : Int)
                  ·rw [if_pos c36] at H
                   have c36b0 : decide (x84_3 < (t216.length : Int)) = true := decide_eq_true c36
                   clear c36
                   by_cases c37 : (!(((rd_T29 t238 x84_3).f0) == ((rd_T29 t216 x84_3).f0)) || (!(((rd_T29 t238 x84_3).f1) == ((rd_T29 t216 x84_3).f1)) || (!((((rd_T29 t238 x84_3).f2).toList) == (((rd_T29 t216 x84_3).f2).toList)) || (!((((rd_T29 t238 x84_3).f3).toList) == (((rd_T29 t216 x84_3).f3).toList)))))) = true
                   ·rw [if_pos c37] at H
                    exact absurd H (by simp)
                   ·rw [if_neg c37] at H
                    have c37b0 : (!(((rd_T29 t238 x84_3).f0) == ((rd_T29 t216 x84_3).f0)) || (!(((rd_T29 t238 x84_3).f1) == ((rd_T29 t216 x84_3).f1)) || (!((((rd_T29 t238 x84_3).f2).toList) == (((rd_T29 t216 x84_3).f2).toList)) || (!((((rd_T29 t238 x84_3).f3).toList) == (((rd_T29 t216 x84_3).f3).toList)))))) = false := by simpa using c37
                    clear c37
                    have H' := Aside0.mk H
                    clear H
                    have p246 : 0 ≤ (x84_3 : Int) := of_decide_eq_true (by first | (with_reducible assumption) | assumption)
                    have q246 : x84_3 < (t238.length : Int) := of_decide_eq_true (by first | (with_reducible assumption) | assumption)
                    obtain ⟨ad246, e246, hx246_0, hx246_1, hx246_2, hx246_3⟩ := at_T29 (Kd.R_reads' HO_82.out).2.2 x84_3 p246 q246
                    cases e246
                    replace p246 := eq_true p246
                    replace q246 := eq_true q246
                    go_wp2_with (first | ((with_reducible refine gate_dst (N := 15) rfl ?_); (try (refine gate_guard (by rfl) ?_; dsimp only)); refine box_event ?hg (N := 15) ?hd (cs := #[.int .i64 0, .int .i64 0, .string (⟨#[]⟩ : ByteArray), .string (⟨#[]⟩ : ByteArray)]) (t := 29) ?hr ?_; (case hd => rfl); (case hg => rfl); (case hr => first | (go_simp; done) | (go_simp; rfl)); intro gb247 hg w38 hbox hb; have n0_ := Aside0.mk (Kd.R_below (Kd.R_elderB (by (with_reducible repeat (first | apply Kd.R_alloc | apply Kd.R_drewN | apply Kd.R_drew)); exact HO_5.out) gb247 (Nat.le_of_eq hg.symm)) hb); have n1_ := Aside0.mk (Kd.R_below (Kd.R_elderB (by (with_reducible repeat (first | apply Kd.R_alloc | apply Kd.R_drewN | apply Kd.R_drew)); exact HO_8.out) gb247 (Nat.le_of_eq hg.symm)) hb); have n2_ := Aside0.mk (Kd.R_below (Kd.R_elderB (by (with_reducible repeat (first | apply Kd.R_alloc | apply Kd.R_drewN | apply Kd.R_drew)); exact HO_82.out) gb247 (Nat.le_of_eq hg.symm)) hb); have n3_ := Aside0.mk (below_step bel_ hb); have n4_ := Aside0.mk (hbox); have n5_ := Aside0.mk ((bsz_ hg : w.heap.size ≤ gb247)); have n6_ := Aside0.mk ((bsz_ hg : w.heap.size ≤ gb247)); clear HO_5; clear HO_8; clear HO_82; clear HB; have HO_5 := n0_; have HO_8 := n1_; have HO_82 := n2_; have HB := n3_; have BK247 := n4_; have GW247 := n5_; have GE247 := n6_; clear n0_ n1_ n2_ n3_ n4_ n5_ n6_; clear hb hbox hg; have hcz39_0 : w38.cell? ⟨gb247, 0, none⟩ = some (.int .i64 0) := (blk_cell BK247.out 0).trans rfl; have hcz39_1 : w38.cell? ⟨gb247, 1, none⟩ = some (.int .i64 0) := (blk_cell BK247.out 1).trans rfl; have hcz39_2 : w38.cell? ⟨gb247, 2, none⟩ = some (.string (⟨#[]⟩ : ByteArray)) := (blk_cell BK247.out 2).trans rfl; have hcz39_3 : w38.cell? ⟨gb247, 3, none⟩ = some (.string (⟨#[]⟩ : ByteArray)) := (blk_cell BK247.out 3).trans rfl; have hfz39_0 := blk_frozen BK247.out 0; have hfz39_1 := blk_frozen BK247.out 1; have hfz39_2 := blk_frozen BK247.out 2; have hfz39_3 := blk_frozen BK247.out 3) | ((with_reducible refine gate_dst (N := 16) rfl ?_); (try (refine gate_guard (by rfl) ?_; dsimp only)); refine box_event ?hg (N := 16) ?hd (cs := #[.int .i64 0, .int .i64 0, .string (⟨#[]⟩ : ByteArray), .string (⟨#[]⟩ : ByteArray)]) (t := 29) ?hr ?_; (case hd => rfl); (case hg => rfl); (case hr => first | (go_simp; done) | (go_simp; rfl)); intro gb248 hg w40 hbox hb; have n0_ := Aside0.mk (Kd.R_below (Kd.R_elderB (by (with_reducible repeat (first | apply Kd.R_alloc | apply Kd.R_drewN | apply Kd.R_drew)); exact (Kd.R_mono (Kd.R_far (p := ⟨gb247, 3, none⟩) (Kd.R_far (p := ⟨gb247, 2, none⟩) (Kd.R_far (p := ⟨gb247, 1, none⟩) (Kd.R_far (p := ⟨gb247, 0, none⟩) (Kd.R_mono HO_5.out (fun k_ hk => (⟨hk, hk.2⟩ : _ ∧ k_ ≠ gb247))) (fun _ hk => hk.2) (.int .i64 ((rd_T29 t238 x84_3).f0))) (fun _ hk => hk.2) (.int .i64 ((rd_T29 t238 x84_3).f1))) (fun _ hk => hk.2) (.string ((rd_T29 t238 x84_3).f2))) (fun _ hk => hk.2) (.string ((rd_T29 t238 x84_3).f3))) (fun _ h_ => h_.1))) gb248 (Nat.le_of_eq hg.symm)) hb); have n1_ := Aside0.mk (Kd.R_below (Kd.R_elderB (by (with_reducible repeat (first | apply Kd.R_alloc | apply Kd.R_drewN | apply Kd.R_drew)); exact (Kd.R_mono (Kd.R_far (p := ⟨gb247, 3, none⟩) (Kd.R_far (p := ⟨gb247, 2, none⟩) (Kd.R_far (p := ⟨gb247, 1, none⟩) (Kd.R_far (p := ⟨gb247, 0, none⟩) (Kd.R_mono HO_8.out (fun k_ hk => (⟨hk, hk.2⟩ : _ ∧ k_ ≠ gb247))) (fun _ hk => hk.2) (.int .i64 ((rd_T29 t238 x84_3).f0))) (fun _ hk => hk.2) (.int .i64 ((rd_T29 t238 x84_3).f1))) (fun _ hk => hk.2) (.string ((rd_T29 t238 x84_3).f2))) (fun _ hk => hk.2) (.string ((rd_T29 t238 x84_3).f3))) (fun _ h_ => h_.1))) gb248 (Nat.le_of_eq hg.symm)) hb); have n2_ := Aside0.mk (Kd.R_below (Kd.R_elderB (by (with_reducible repeat (first | apply Kd.R_alloc | apply Kd.R_drewN | apply Kd.R_drew)); exact (Kd.R_mono (Kd.R_far (p := ⟨gb247, 3, none⟩) (Kd.R_far (p := ⟨gb247, 2, none⟩) (Kd.R_far (p := ⟨gb247, 1, none⟩) (Kd.R_far (p := ⟨gb247, 0, none⟩) (Kd.R_mono HO_82.out (fun k_ hk => (⟨hk, hk.2⟩ : _ ∧ k_ ≠ gb247))) (fun _ hk => hk.2) (.int .i64 ((rd_T29 t238 x84_3).f0))) (fun _ hk => hk.2) (.int .i64 ((rd_T29 t238 x84_3).f1))) (fun _ hk => hk.2) (.string ((rd_T29 t238 x84_3).f2))) (fun _ hk => hk.2) (.string ((rd_T29 t238 x84_3).f3))) (fun _ h_ => h_.1))) gb248 (Nat.le_of_eq hg.symm)) hb); have n3_ := Aside0.mk (blk_below (g := gb247) (o := .cells #[.int .i64 ((rd_T29 t238 x84_3).f0), .int .i64 ((rd_T29 t238 x84_3).f1), .string ((rd_T29 t238 x84_3).f2), .string ((rd_T29 t238 x84_3).f3)] 29 (0, 0)) (by (with_reducible repeat (first | refine blk_drewN ?_ _ | refine blk_drew ?_ | refine blk_alloc ?_ _)); refine blk_put (cs := #[.int .i64 ((rd_T29 t238 x84_3).f0), .int .i64 ((rd_T29 t238 x84_3).f1), .string ((rd_T29 t238 x84_3).f2), .string (⟨#[]⟩ : ByteArray)]) ?_ 3 _ rfl; (with_reducible repeat (first | refine blk_drewN ?_ _ | refine blk_drew ?_ | refine blk_alloc ?_ _)); refine blk_put (cs := #[.int .i64 ((rd_T29 t238 x84_3).f0), .int .i64 ((rd_T29 t238 x84_3).f1), .string (⟨#[]⟩ : ByteArray), .string (⟨#[]⟩ : ByteArray)]) ?_ 2 _ rfl; (with_reducible repeat (first | refine blk_drewN ?_ _ | refine blk_drew ?_ | refine blk_alloc ?_ _)); refine blk_put (cs := #[.int .i64 ((rd_T29 t238 x84_3).f0), .int .i64 0, .string (⟨#[]⟩ : ByteArray), .string (⟨#[]⟩ : ByteArray)]) ?_ 1 _ rfl; (with_reducible repeat (first | refine blk_drewN ?_ _ | refine blk_drew ?_ | refine blk_alloc ?_ _)); refine blk_put (cs := #[.int .i64 0, .int .i64 0, .string (⟨#[]⟩ : ByteArray), .string (⟨#[]⟩ : ByteArray)]) ?_ 0 _ rfl; (with_reducible repeat (first | refine blk_drewN ?_ _ | refine blk_drew ?_ | refine blk_alloc ?_ _)); exact BK247.out) hb); have n4_ := Aside0.mk (below_step bel_ hb); have n5_ := Aside0.mk (hbox); have n6_ := Aside0.mk ((bsz_ hg : w.heap.size ≤ gb248)); have n7_ := Aside0.mk ((bsz_ hg : w.heap.size ≤ gb248)); have n8_ := Aside0.mk ((by rw [hg]; exact Nat.ne_of_lt (blk_lt (g := gb247) (o := .cells #[.int .i64 ((rd_T29 t238 x84_3).f0), .int .i64 ((rd_T29 t238 x84_3).f1), .string ((rd_T29 t238 x84_3).f2), .string ((rd_T29 t238 x84_3).f3)] 29 (0, 0)) (by (with_reducible repeat (first | refine blk_drewN ?_ _ | refine blk_drew ?_ | refine blk_alloc ?_ _)); refine blk_put (cs := #[.int .i64 ((rd_T29 t238 x84_3).f0), .int .i64 ((rd_T29 t238 x84_3).f1), .string ((rd_T29 t238 x84_3).f2), .string (⟨#[]⟩ : ByteArray)]) ?_ 3 _ rfl; (with_reducible repeat (first | refine blk_drewN ?_ _ | refine blk_drew ?_ | refine blk_alloc ?_ _)); refine blk_put (cs := #[.int .i64 ((rd_T29 t238 x84_3).f0), .int .i64 ((rd_T29 t238 x84_3).f1), .string (⟨#[]⟩ : ByteArray), .string (⟨#[]⟩ : ByteArray)]) ?_ 2 _ rfl; (with_reducible repeat (first | refine blk_drewN ?_ _ | refine blk_drew ?_ | refine blk_alloc ?_ _)); refine blk_put (cs := #[.int .i64 ((rd_T29 t238 x84_3).f0), .int .i64 0, .string (⟨#[]⟩ : ByteArray), .string (⟨#[]⟩ : ByteArray)]) ?_ 1 _ rfl; (with_reducible repeat (first | refine blk_drewN ?_ _ | refine blk_drew ?_ | refine blk_alloc ?_ _)); refine blk_put (cs := #[.int .i64 0, .int .i64 0, .string (⟨#[]⟩ : ByteArray), .string (⟨#[]⟩ : ByteArray)]) ?_ 0 _ rfl; (with_reducible repeat (first | refine blk_drewN ?_ _ | refine blk_drew ?_ | refine blk_alloc ?_ _)); exact BK247.out)) : gb247 ≠ gb248)); have n9_ := Aside0.mk ((by rw [hg]; exact Nat.ne_of_gt (blk_lt (g := gb247) (o := .cells #[.int .i64 ((rd_T29 t238 x84_3).f0), .int .i64 ((rd_T29 t238 x84_3).f1), .string ((rd_T29 t238 x84_3).f2), .string ((rd_T29 t238 x84_3).f3)] 29 (0, 0)) (by (with_reducible repeat (first | refine blk_drewN ?_ _ | refine blk_drew ?_ | refine blk_alloc ?_ _)); refine blk_put (cs := #[.int .i64 ((rd_T29 t238 x84_3).f0), .int .i64 ((rd_T29 t238 x84_3).f1), .string ((rd_T29 t238 x84_3).f2), .string (⟨#[]⟩ : ByteArray)]) ?_ 3 _ rfl; (with_reducible repeat (first | refine blk_drewN ?_ _ | refine blk_drew ?_ | refine blk_alloc ?_ _)); refine blk_put (cs := #[.int .i64 ((rd_T29 t238 x84_3).f0), .int .i64 ((rd_T29 t238 x84_3).f1), .string (⟨#[]⟩ : ByteArray), .string (⟨#[]⟩ : ByteArray)]) ?_ 2 _ rfl; (with_reducible repeat (first | refine blk_drewN ?_ _ | refine blk_drew ?_ | refine blk_alloc ?_ _)); refine blk_put (cs := #[.int .i64 ((rd_T29 t238 x84_3).f0), .int .i64 0, .string (⟨#[]⟩ : ByteArray), .string (⟨#[]⟩ : ByteArray)]) ?_ 1 _ rfl; (with_reducible repeat (first | refine blk_drewN ?_ _ | refine blk_drew ?_ | refine blk_alloc ?_ _)); refine blk_put (cs := #[.int .i64 0, .int .i64 0, .string (⟨#[]⟩ : ByteArray), .string (⟨#[]⟩ : ByteArray)]) ?_ 0 _ rfl; (with_reducible repeat (first | refine blk_drewN ?_ _ | refine blk_drew ?_ | refine blk_alloc ?_ _)); exact BK247.out)) : gb248 ≠ gb247)); clear HO_5; clear HO_8; clear HO_82; clear BK247; clear HB; have HO_5 := n0_; have HO_8 := n1_; have HO_82 := n2_; have BK247 := n3_; have HB := n4_; have BK248 := n5_; have GW248 := n6_; have GE248 := n7_; have NB247_248 := n8_; have NB248_247 := n9_; clear n0_ n1_ n2_ n3_ n4_ n5_ n6_ n7_ n8_ n9_; clear hb hbox hg; obtain ⟨Ao41, co41, eo41⟩ := Kd.R_slice HO_5.out; subst eo41; have p249 : 0 ≤ (x84_3 : Int) := of_decide_eq_true (by first | (with_reducible assumption) | assumption); have q249 : x84_3 < (t216.length : Int) := of_decide_eq_true (by first | (with_reducible assumption) | assumption); obtain ⟨ad249, e249, hx249_0, hx249_1, hx249_2, hx249_3⟩ := at_T29 (Kd.R_reads' HO_5.out).2.2 x84_3 p249 q249; cases e249; replace p249 := eq_true p249; replace q249 := eq_true q249; have hnb42 := NB248_247.out; have hnc42 := NB247_248.out; have hcz43_0 : w40.cell? ⟨gb248, 0, none⟩ = some (.int .i64 0) := (blk_cell BK248.out 0).trans rfl; have hcz43_1 : w40.cell? ⟨gb248, 1, none⟩ = some (.int .i64 0) := (blk_cell BK248.out 1).trans rfl; have hcz43_2 : w40.cell? ⟨gb248, 2, none⟩ = some (.string (⟨#[]⟩ : ByteArray)) := (blk_cell BK248.out 2).trans rfl; have hcz43_3 : w40.cell? ⟨gb248, 3, none⟩ = some (.string (⟨#[]⟩ : ByteArray)) := (blk_cell BK248.out 3).trans rfl; have hfz43_0 := blk_frozen BK248.out 0; have hfz43_1 := blk_frozen BK248.out 1; have hfz43_2 := blk_frozen BK248.out 2; have hfz43_3 := blk_frozen BK248.out 3; have hcz44_0 : w40.cell? ⟨gb247, 0, none⟩ = some (.int .i64 ((rd_T29 t238 x84_3).f0)) := (blk_cell BK247.out 0).trans rfl; have hcz44_1 : w40.cell? ⟨gb247, 1, none⟩ = some (.int .i64 ((rd_T29 t238 x84_3).f1)) := (blk_cell BK247.out 1).trans rfl; have hcz44_2 : w40.cell? ⟨gb247, 2, none⟩ = some (.string ((rd_T29 t238 x84_3).f2)) := (blk_cell BK247.out 2).trans rfl; have hcz44_3 : w40.cell? ⟨gb247, 3, none⟩ = some (.string ((rd_T29 t238 x84_3).f3)) := (blk_cell BK247.out 3).trans rfl; have hfz44_0 := blk_frozen BK247.out 0; have hfz44_1 := blk_frozen BK247.out 1; have hfz44_2 := blk_frozen BK247.out 2; have hfz44_3 := blk_frozen BK247.out 3))
                    go_roundg k3
                    case measure => have := HJ2.out; have := HJ15.out; have := HK3.out; omega
                    case rel => exact ⟨(wrap64 (x84_3 + 1)), rfs_, H', ⟨by have := HJ2.out; have := HJ15.out; have := HK3.out; omega⟩, ⟨by (with_reducible repeat (first | apply Kd.R_alloc | apply Kd.R_drewN | apply Kd.R_drew)); exact Kd.R_mono (Kd.R_far (p := ⟨gb248, 3, none⟩) (Kd.R_far (p := ⟨gb248, 2, none⟩) (Kd.R_far (p := ⟨gb248, 1, none⟩) (Kd.R_far (p := ⟨gb248, 0, none⟩) (Kd.R_mono HO_5.out (fun k_ hk => (⟨hk, hk.2⟩ : _ ∧ k_ ≠ gb248))) (fun _ hk => hk.2) (.int .i64 ((rd_T29 t216 x84_3).f0))) (fun _ hk => hk.2) (.int .i64 ((rd_T29 t216 x84_3).f1))) (fun _ hk => hk.2) (.string ((rd_T29 t216 x84_3).f2))) (fun _ hk => hk.2) (.string ((rd_T29 t216 x84_3).f3))) (fun _ hk => ⟨hk.1.1.1.1, hk.1.1.1.2⟩)⟩, ⟨by (with_reducible repeat (first | apply Kd.R_alloc | apply Kd.R_drewN | apply Kd.R_drew)); exact Kd.R_mono (Kd.R_far (p := ⟨gb248, 3, none⟩) (Kd.R_far (p := ⟨gb248, 2, none⟩) (Kd.R_far (p := ⟨gb248, 1, none⟩) (Kd.R_far (p := ⟨gb248, 0, none⟩) (Kd.R_mono HO_8.out (fun k_ hk => (⟨hk, hk.2⟩ : _ ∧ k_ ≠ gb248))) (fun _ hk => hk.2) (.int .i64 ((rd_T29 t216 x84_3).f0))) (fun _ hk => hk.2) (.int .i64 ((rd_T29 t216 x84_3).f1))) (fun _ hk => hk.2) (.string ((rd_T29 t216 x84_3).f2))) (fun _ hk => hk.2) (.string ((rd_T29 t216 x84_3).f3))) (fun _ hk => ⟨hk.1.1.1.1, hk.1.1.1.2⟩)⟩, ⟨by (with_reducible repeat (first | apply Kd.R_alloc | apply Kd.R_drewN | apply Kd.R_drew)); exact Kd.R_mono (Kd.R_far (p := ⟨gb248, 3, none⟩) (Kd.R_far (p := ⟨gb248, 2, none⟩) (Kd.R_far (p := ⟨gb248, 1, none⟩) (Kd.R_far (p := ⟨gb248, 0, none⟩) (Kd.R_mono HO_82.out (fun k_ hk => (⟨hk, hk.2⟩ : _ ∧ k_ ≠ gb248))) (fun _ hk => hk.2) (.int .i64 ((rd_T29 t216 x84_3).f0))) (fun _ hk => hk.2) (.int .i64 ((rd_T29 t216 x84_3).f1))) (fun _ hk => hk.2) (.string ((rd_T29 t216 x84_3).f2))) (fun _ hk => hk.2) (.string ((rd_T29 t216 x84_3).f3))) (fun _ hk => ⟨hk.1.1.1.1, hk.1.1.1.2⟩)⟩, ⟨bel_⟩⟩
                  ·rw [if_neg c36] at H
                   exact absurd H (by simp)
                 ·rw [if_neg c35] at H
                  have c35b0 : decide (x84_3 < (wrap64 ((t216.length : Int) - 1))) = false := decide_eq_false c35
                  clear c35
                  obtain ⟨ji45, hji45⟩ : ∃ j_ : Int, (wrap64 ((wrap64 (x84_3 - (t216.length : Int))) + 1)) = j_ := ⟨_, rfl⟩
                  replace H : (if 0 ≤ (ji45) then (if (ji45) < (t221.length : Int) then (if (!(((rd_T29 t238 x84_3).f0) == ((rd_T29 t221 (ji45)).f0)) || (!(((rd_T29 t238 x84_3).f1) == (wrap64 (((rd_T29 t221 (ji45)).f1) + (wrap64 ((l0.length : Int) + 2))))) || (!((((rd_T29 t238 x84_3).f2).toList) == (((rd_T29 t221 (ji45)).f2).toList)) || (!((((rd_T29 t238 x84_3).f3).toList) == (((rd_T29 t221 (ji45)).f3).toList)))))) = true then (none) else (parterrelaw03_TokenParts.l0 k3 l0 t216 t221 t238 (t238.length : Int) (wrap64 (x84_3 + 1)))) else (none)) else (none)) = some r := by first | (rw [hji45] at H; exact H) | (simp only [hji45] at H ⊢; exact H)
                  have hji45w : (IntKind.i64.wrap ((wrap64 (x84_3 - (t216.length : Int))) + 1)) = ji45 := (i64_w _).trans hji45
                  by_cases c46 : 0 ≤ (ji45)
                  ·rw [if_pos c46] at H
                   have c46b0 : decide (0 ≤ (ji45)) = true := decide_eq_true c46
                   clear c46
                   by_cases c47 : (ji45) < (t221.length : Int)
                   ·rw [if_pos c47] at H
                    have c47b0 : decide ((ji45) < (t221.length : Int)) = true := decide_eq_true c47
                    clear c47
                    by_cases c48 : (!(((rd_T29 t238 x84_3).f0) == ((rd_T29 t221 (ji45)).f0)) || (!(((rd_T29 t238 x84_3).f1) == (wrap64 (((rd_T29 t221 (ji45)).f1) + (wrap64 ((l0.length : Int) + 2))))) || (!((((rd_T29 t238 x84_3).f2).toList) == (((rd_T29 t221 (ji45)).f2).toList)) || (!((((rd_T29 t238 x84_3).f3).toList) == (((rd_T29 t221 (ji45)).f3).toList)))))) = true
                    ·rw [if_pos c48] at H
                     exact absurd H (by simp)
                    ·rw [if_neg c48] at H
                     have c48b0 : (!(((rd_T29 t238 x84_3).f0) == ((rd_T29 t221 (ji45)).f0)) || (!(((rd_T29 t238 x84_3).f1) == (wrap64 (((rd_T29 t221 (ji45)).f1) + (wrap64 ((l0.length : Int) + 2))))) || (!((((rd_T29 t238 x84_3).f2).toList) == (((rd_T29 t221 (ji45)).f2).toList)) || (!((((rd_T29 t238 x84_3).f3).toList) == (((rd_T29 t221 (ji45)).f3).toList)))))) = false := by simpa using c48
                     clear c48
                     have H' := Aside0.mk H
                     clear H
                     have p246 : 0 ≤ (x84_3 : Int) := of_decide_eq_true (by first | (with_reducible assumption) | assumption)
                     have q246 : x84_3 < (t238.length : Int) := of_decide_eq_true (by first | (with_reducible assumption) | assumption)
                     obtain ⟨ad246, e246, hx246_0, hx246_1, hx246_2, hx246_3⟩ := at_T29 (Kd.R_reads' HO_82.out).2.2 x84_3 p246 q246
                     cases e246
                     replace p246 := eq_true p246
                     replace q246 := eq_true q246
                     go_upto_region 20 with (first | ((with_reducible refine gate_dst (N := 15) rfl ?_); (try (refine gate_guard (by rfl) ?_; dsimp only)); refine box_event ?hg (N := 15) ?hd (cs := #[.int .i64 0, .int .i64 0, .string (⟨#[]⟩ : ByteArray), .string (⟨#[]⟩ : ByteArray)]) (t := 29) ?hr ?_; (case hd => rfl); (case hg => rfl); (case hr => first | (go_simp; done) | (go_simp; rfl)); intro gb247 hg w49 hbox hb; have n0_ := Aside0.mk (Kd.R_below (Kd.R_elderB (by (with_reducible repeat (first | apply Kd.R_alloc | apply Kd.R_drewN | apply Kd.R_drew)); exact HO_5.out) gb247 (Nat.le_of_eq hg.symm)) hb); have n1_ := Aside0.mk (Kd.R_below (Kd.R_elderB (by (with_reducible repeat (first | apply Kd.R_alloc | apply Kd.R_drewN | apply Kd.R_drew)); exact HO_8.out) gb247 (Nat.le_of_eq hg.symm)) hb); have n2_ := Aside0.mk (Kd.R_below (Kd.R_elderB (by (with_reducible repeat (first | apply Kd.R_alloc | apply Kd.R_drewN | apply Kd.R_drew)); exact HO_82.out) gb247 (Nat.le_of_eq hg.symm)) hb); have n3_ := Aside0.mk (below_step bel_ hb); have n4_ := Aside0.mk (hbox); have n5_ := Aside0.mk ((bsz_ hg : w.heap.size ≤ gb247)); have n6_ := Aside0.mk ((bsz_ hg : w.heap.size ≤ gb247)); clear HO_5; clear HO_8; clear HO_82; clear HB; have HO_5 := n0_; have HO_8 := n1_; have HO_82 := n2_; have HB := n3_; have BK247 := n4_; have GW247 := n5_; have GE247 := n6_; clear n0_ n1_ n2_ n3_ n4_ n5_ n6_; clear hb hbox hg; have hcz50_0 : w49.cell? ⟨gb247, 0, none⟩ = some (.int .i64 0) := (blk_cell BK247.out 0).trans rfl; have hcz50_1 : w49.cell? ⟨gb247, 1, none⟩ = some (.int .i64 0) := (blk_cell BK247.out 1).trans rfl; have hcz50_2 : w49.cell? ⟨gb247, 2, none⟩ = some (.string (⟨#[]⟩ : ByteArray)) := (blk_cell BK247.out 2).trans rfl; have hcz50_3 : w49.cell? ⟨gb247, 3, none⟩ = some (.string (⟨#[]⟩ : ByteArray)) := (blk_cell BK247.out 3).trans rfl; have hfz50_0 := blk_frozen BK247.out 0; have hfz50_1 := blk_frozen BK247.out 1; have hfz50_2 := blk_frozen BK247.out 2; have hfz50_3 := blk_frozen BK247.out 3) | ((with_reducible refine gate_dst (N := 16) rfl ?_); (try (refine gate_guard (by rfl) ?_; dsimp only)); refine box_event ?hg (N := 16) ?hd (cs := #[.int .i64 0, .int .i64 0, .string (⟨#[]⟩ : ByteArray), .string (⟨#[]⟩ : ByteArray)]) (t := 29) ?hr ?_; (case hd => rfl); (case hg => rfl); (case hr => first | (go_simp; done) | (go_simp; rfl)); intro gb248 hg w51 hbox hb; have n0_ := Aside0.mk (Kd.R_below (Kd.R_elderB (by (with_reducible repeat (first | apply Kd.R_alloc | apply Kd.R_drewN | apply Kd.R_drew)); exact (Kd.R_mono (Kd.R_far (p := ⟨gb247, 3, none⟩) (Kd.R_far (p := ⟨gb247, 2, none⟩) (Kd.R_far (p := ⟨gb247, 1, none⟩) (Kd.R_far (p := ⟨gb247, 0, none⟩) (Kd.R_mono HO_5.out (fun k_ hk => (⟨hk, hk.2⟩ : _ ∧ k_ ≠ gb247))) (fun _ hk => hk.2) (.int .i64 ((rd_T29 t238 x84_3).f0))) (fun _ hk => hk.2) (.int .i64 ((rd_T29 t238 x84_3).f1))) (fun _ hk => hk.2) (.string ((rd_T29 t238 x84_3).f2))) (fun _ hk => hk.2) (.string ((rd_T29 t238 x84_3).f3))) (fun _ h_ => h_.1))) gb248 (Nat.le_of_eq hg.symm)) hb); have n1_ := Aside0.mk (Kd.R_below (Kd.R_elderB (by (with_reducible repeat (first | apply Kd.R_alloc | apply Kd.R_drewN | apply Kd.R_drew)); exact (Kd.R_mono (Kd.R_far (p := ⟨gb247, 3, none⟩) (Kd.R_far (p := ⟨gb247, 2, none⟩) (Kd.R_far (p := ⟨gb247, 1, none⟩) (Kd.R_far (p := ⟨gb247, 0, none⟩) (Kd.R_mono HO_8.out (fun k_ hk => (⟨hk, hk.2⟩ : _ ∧ k_ ≠ gb247))) (fun _ hk => hk.2) (.int .i64 ((rd_T29 t238 x84_3).f0))) (fun _ hk => hk.2) (.int .i64 ((rd_T29 t238 x84_3).f1))) (fun _ hk => hk.2) (.string ((rd_T29 t238 x84_3).f2))) (fun _ hk => hk.2) (.string ((rd_T29 t238 x84_3).f3))) (fun _ h_ => h_.1))) gb248 (Nat.le_of_eq hg.symm)) hb); have n2_ := Aside0.mk (Kd.R_below (Kd.R_elderB (by (with_reducible repeat (first | apply Kd.R_alloc | apply Kd.R_drewN | apply Kd.R_drew)); exact (Kd.R_mono (Kd.R_far (p := ⟨gb247, 3, none⟩) (Kd.R_far (p := ⟨gb247, 2, none⟩) (Kd.R_far (p := ⟨gb247, 1, none⟩) (Kd.R_far (p := ⟨gb247, 0, none⟩) (Kd.R_mono HO_82.out (fun k_ hk => (⟨hk, hk.2⟩ : _ ∧ k_ ≠ gb247))) (fun _ hk => hk.2) (.int .i64 ((rd_T29 t238 x84_3).f0))) (fun _ hk => hk.2) (.int .i64 ((rd_T29 t238 x84_3).f1))) (fun _ hk => hk.2) (.string ((rd_T29 t238 x84_3).f2))) (fun _ hk => hk.2) (.string ((rd_T29 t238 x84_3).f3))) (fun _ h_ => h_.1))) gb248 (Nat.le_of_eq hg.symm)) hb); have n3_ := Aside0.mk (blk_below (g := gb247) (o := .cells #[.int .i64 ((rd_T29 t238 x84_3).f0), .int .i64 ((rd_T29 t238 x84_3).f1), .string ((rd_T29 t238 x84_3).f2), .string ((rd_T29 t238 x84_3).f3)] 29 (0, 0)) (by (with_reducible repeat (first | refine blk_drewN ?_ _ | refine blk_drew ?_ | refine blk_alloc ?_ _)); refine blk_put (cs := #[.int .i64 ((rd_T29 t238 x84_3).f0), .int .i64 ((rd_T29 t238 x84_3).f1), .string ((rd_T29 t238 x84_3).f2), .string (⟨#[]⟩ : ByteArray)]) ?_ 3 _ rfl; (with_reducible repeat (first | refine blk_drewN ?_ _ | refine blk_drew ?_ | refine blk_alloc ?_ _)); refine blk_put (cs := #[.int .i64 ((rd_T29 t238 x84_3).f0), .int .i64 ((rd_T29 t238 x84_3).f1), .string (⟨#[]⟩ : ByteArray), .string (⟨#[]⟩ : ByteArray)]) ?_ 2 _ rfl; (with_reducible repeat (first | refine blk_drewN ?_ _ | refine blk_drew ?_ | refine blk_alloc ?_ _)); refine blk_put (cs := #[.int .i64 ((rd_T29 t238 x84_3).f0), .int .i64 0, .string (⟨#[]⟩ : ByteArray), .string (⟨#[]⟩ : ByteArray)]) ?_ 1 _ rfl; (with_reducible repeat (first | refine blk_drewN ?_ _ | refine blk_drew ?_ | refine blk_alloc ?_ _)); refine blk_put (cs := #[.int .i64 0, .int .i64 0, .string (⟨#[]⟩ : ByteArray), .string (⟨#[]⟩ : ByteArray)]) ?_ 0 _ rfl; (with_reducible repeat (first | refine blk_drewN ?_ _ | refine blk_drew ?_ | refine blk_alloc ?_ _)); exact BK247.out) hb); have n4_ := Aside0.mk (below_step bel_ hb); have n5_ := Aside0.mk (hbox); have n6_ := Aside0.mk ((bsz_ hg : w.heap.size ≤ gb248)); have n7_ := Aside0.mk ((bsz_ hg : w.heap.size ≤ gb248)); have n8_ := Aside0.mk ((by rw [hg]; exact Nat.ne_of_lt (blk_lt (g := gb247) (o := .cells #[.int .i64 ((rd_T29 t238 x84_3).f0), .int .i64 ((rd_T29 t238 x84_3).f1), .string ((rd_T29 t238 x84_3).f2), .string ((rd_T29 t238 x84_3).f3)] 29 (0, 0)) (by (with_reducible repeat (first | refine blk_drewN ?_ _ | refine blk_drew ?_ | refine blk_alloc ?_ _)); refine blk_put (cs := #[.int .i64 ((rd_T29 t238 x84_3).f0), .int .i64 ((rd_T29 t238 x84_3).f1), .string ((rd_T29 t238 x84_3).f2), .string (⟨#[]⟩ : ByteArray)]) ?_ 3 _ rfl; (with_reducible repeat (first | refine blk_drewN ?_ _ | refine blk_drew ?_ | refine blk_alloc ?_ _)); refine blk_put (cs := #[.int .i64 ((rd_T29 t238 x84_3).f0), .int .i64 ((rd_T29 t238 x84_3).f1), .string (⟨#[]⟩ : ByteArray), .string (⟨#[]⟩ : ByteArray)]) ?_ 2 _ rfl; (with_reducible repeat (first | refine blk_drewN ?_ _ | refine blk_drew ?_ | refine blk_alloc ?_ _)); refine blk_put (cs := #[.int .i64 ((rd_T29 t238 x84_3).f0), .int .i64 0, .string (⟨#[]⟩ : ByteArray), .string (⟨#[]⟩ : ByteArray)]) ?_ 1 _ rfl; (with_reducible repeat (first | refine blk_drewN ?_ _ | refine blk_drew ?_ | refine blk_alloc ?_ _)); refine blk_put (cs := #[.int .i64 0, .int .i64 0, .string (⟨#[]⟩ : ByteArray), .string (⟨#[]⟩ : ByteArray)]) ?_ 0 _ rfl; (with_reducible repeat (first | refine blk_drewN ?_ _ | refine blk_drew ?_ | refine blk_alloc ?_ _)); exact BK247.out)) : gb247 ≠ gb248)); have n9_ := Aside0.mk ((by rw [hg]; exact Nat.ne_of_gt (blk_lt (g := gb247) (o := .cells #[.int .i64 ((rd_T29 t238 x84_3).f0), .int .i64 ((rd_T29 t238 x84_3).f1), .string ((rd_T29 t238 x84_3).f2), .string ((rd_T29 t238 x84_3).f3)] 29 (0, 0)) (by (with_reducible repeat (first | refine blk_drewN ?_ _ | refine blk_drew ?_ | refine blk_alloc ?_ _)); refine blk_put (cs := #[.int .i64 ((rd_T29 t238 x84_3).f0), .int .i64 ((rd_T29 t238 x84_3).f1), .string ((rd_T29 t238 x84_3).f2), .string (⟨#[]⟩ : ByteArray)]) ?_ 3 _ rfl; (with_reducible repeat (first | refine blk_drewN ?_ _ | refine blk_drew ?_ | refine blk_alloc ?_ _)); refine blk_put (cs := #[.int .i64 ((rd_T29 t238 x84_3).f0), .int .i64 ((rd_T29 t238 x84_3).f1), .string (⟨#[]⟩ : ByteArray), .string (⟨#[]⟩ : ByteArray)]) ?_ 2 _ rfl; (with_reducible repeat (first | refine blk_drewN ?_ _ | refine blk_drew ?_ | refine blk_alloc ?_ _)); refine blk_put (cs := #[.int .i64 ((rd_T29 t238 x84_3).f0), .int .i64 0, .string (⟨#[]⟩ : ByteArray), .string (⟨#[]⟩ : ByteArray)]) ?_ 1 _ rfl; (with_reducible repeat (first | refine blk_drewN ?_ _ | refine blk_drew ?_ | refine blk_alloc ?_ _)); refine blk_put (cs := #[.int .i64 0, .int .i64 0, .string (⟨#[]⟩ : ByteArray), .string (⟨#[]⟩ : ByteArray)]) ?_ 0 _ rfl; (with_reducible repeat (first | refine blk_drewN ?_ _ | refine blk_drew ?_ | refine blk_alloc ?_ _)); exact BK247.out)) : gb248 ≠ gb247)); clear HO_5; clear HO_8; clear HO_82; clear BK247; clear HB; have HO_5 := n0_; have HO_8 := n1_; have HO_82 := n2_; have BK247 := n3_; have HB := n4_; have BK248 := n5_; have GW248 := n6_; have GE248 := n7_; have NB247_248 := n8_; have NB248_247 := n9_; clear n0_ n1_ n2_ n3_ n4_ n5_ n6_ n7_ n8_ n9_; clear hb hbox hg; obtain ⟨Ao52, co52, eo52⟩ := Kd.R_slice HO_5.out; subst eo52; obtain ⟨Ao53, co53, eo53⟩ := Kd.R_slice HO_8.out; subst eo53; have p250 : 0 ≤ ((ji45) : Int) := of_decide_eq_true (by first | (with_reducible assumption) | assumption); have q250 : (ji45) < (t221.length : Int) := of_decide_eq_true (by first | (with_reducible assumption) | assumption); obtain ⟨ad250, e250, hx250_0, hx250_1, hx250_2, hx250_3⟩ := at_T29 (Kd.R_reads' HO_8.out).2.2 (ji45) p250 q250; cases e250; replace p250 := eq_true p250; replace q250 := eq_true q250; have hnb54 := NB248_247.out; have hnc54 := NB247_248.out; have hcz55_0 : w51.cell? ⟨gb248, 0, none⟩ = some (.int .i64 0) := (blk_cell BK248.out 0).trans rfl; have hcz55_1 : w51.cell? ⟨gb248, 1, none⟩ = some (.int .i64 0) := (blk_cell BK248.out 1).trans rfl; have hcz55_2 : w51.cell? ⟨gb248, 2, none⟩ = some (.string (⟨#[]⟩ : ByteArray)) := (blk_cell BK248.out 2).trans rfl; have hcz55_3 : w51.cell? ⟨gb248, 3, none⟩ = some (.string (⟨#[]⟩ : ByteArray)) := (blk_cell BK248.out 3).trans rfl; have hfz55_0 := blk_frozen BK248.out 0; have hfz55_1 := blk_frozen BK248.out 1; have hfz55_2 := blk_frozen BK248.out 2; have hfz55_3 := blk_frozen BK248.out 3; have hcz56_0 : w51.cell? ⟨gb247, 0, none⟩ = some (.int .i64 ((rd_T29 t238 x84_3).f0)) := (blk_cell BK247.out 0).trans rfl; have hcz56_1 : w51.cell? ⟨gb247, 1, none⟩ = some (.int .i64 ((rd_T29 t238 x84_3).f1)) := (blk_cell BK247.out 1).trans rfl; have hcz56_2 : w51.cell? ⟨gb247, 2, none⟩ = some (.string ((rd_T29 t238 x84_3).f2)) := (blk_cell BK247.out 2).trans rfl; have hcz56_3 : w51.cell? ⟨gb247, 3, none⟩ = some (.string ((rd_T29 t238 x84_3).f3)) := (blk_cell BK247.out 3).trans rfl; have hfz56_0 := blk_frozen BK247.out 0; have hfz56_1 := blk_frozen BK247.out 1; have hfz56_2 := blk_frozen BK247.out 2; have hfz56_3 := blk_frozen BK247.out 3))
                     generalize hw6_ : (World.setCell (World.setCell (World.setCell (World.setCell (World.setCell w51 ⟨gb248, 0, none⟩ (.int .i64 ((rd_T29 t221 (ji45)).f0))) ⟨gb248, 1, none⟩ (.int .i64 ((rd_T29 t221 (ji45)).f1))) ⟨gb248, 2, none⟩ (.string ((rd_T29 t221 (ji45)).f2))) ⟨gb248, 3, none⟩ (.string ((rd_T29 t221 (ji45)).f3))) ⟨gb248, 1, none⟩ (.int .i64 (wrap64 (((rd_T29 t221 (ji45)).f1) + (wrap64 ((l0.length : Int) + 2)))))) = w6_
                     have hcb_ : w6_.heap[gb248]? = some (.cells #[.int .i64 ((rd_T29 t221 (ji45)).f0), .int .i64 (wrap64 (((rd_T29 t221 (ji45)).f1) + (wrap64 ((l0.length : Int) + 2)))), .string ((rd_T29 t221 (ji45)).f2), .string ((rd_T29 t221 (ji45)).f3)] 29 (0, 0)) := by rw [← hw6_]; exact blk_put (cs := #[.int .i64 ((rd_T29 t221 (ji45)).f0), .int .i64 ((rd_T29 t221 (ji45)).f1), .string ((rd_T29 t221 (ji45)).f2), .string ((rd_T29 t221 (ji45)).f3)]) (blk_put (cs := #[.int .i64 ((rd_T29 t221 (ji45)).f0), .int .i64 ((rd_T29 t221 (ji45)).f1), .string ((rd_T29 t221 (ji45)).f2), .string (⟨#[]⟩ : ByteArray)]) (blk_put (cs := #[.int .i64 ((rd_T29 t221 (ji45)).f0), .int .i64 ((rd_T29 t221 (ji45)).f1), .string (⟨#[]⟩ : ByteArray), .string (⟨#[]⟩ : ByteArray)]) (blk_put (cs := #[.int .i64 ((rd_T29 t221 (ji45)).f0), .int .i64 0, .string (⟨#[]⟩ : ByteArray), .string (⟨#[]⟩ : ByteArray)]) (blk_put BK248.out 0 _ rfl) 1 _ rfl) 2 _ rfl) 3 _ rfl) 1 _ rfl
                     have hca_ : w6_.heap[gb247]? = some (.cells #[.int .i64 ((rd_T29 t238 x84_3).f0), .int .i64 ((rd_T29 t238 x84_3).f1), .string ((rd_T29 t238 x84_3).f2), .string ((rd_T29 t238 x84_3).f3)] 29 (0, 0)) := by rw [← hw6_]; exact blk_far (blk_far (blk_far (blk_far (blk_far BK247.out NB247_248.out _) NB247_248.out _) NB247_248.out _) NB247_248.out _) NB247_248.out _
                     clear hcz55_0 hcz55_1 hcz55_2 hcz55_3 hcz56_0 hcz56_1 hcz56_2 hcz56_3
                     have hcy_0 : w6_.cell? ⟨gb248, 0, none⟩ = some (.int .i64 ((rd_T29 t221 (ji45)).f0)) := (blk_cell hcb_ 0).trans rfl
                     have hcy_1 : w6_.cell? ⟨gb248, 1, none⟩ = some (.int .i64 (wrap64 (((rd_T29 t221 (ji45)).f1) + (wrap64 ((l0.length : Int) + 2))))) := (blk_cell hcb_ 1).trans rfl
                     have hcy_2 : w6_.cell? ⟨gb248, 2, none⟩ = some (.string ((rd_T29 t221 (ji45)).f2)) := (blk_cell hcb_ 2).trans rfl
                     have hcy_3 : w6_.cell? ⟨gb248, 3, none⟩ = some (.string ((rd_T29 t221 (ji45)).f3)) := (blk_cell hcb_ 3).trans rfl
                     have hcx_0 : w6_.cell? ⟨gb247, 0, none⟩ = some (.int .i64 ((rd_T29 t238 x84_3).f0)) := (blk_cell hca_ 0).trans rfl
                     have hcx_1 : w6_.cell? ⟨gb247, 1, none⟩ = some (.int .i64 ((rd_T29 t238 x84_3).f1)) := (blk_cell hca_ 1).trans rfl
                     have hcx_2 : w6_.cell? ⟨gb247, 2, none⟩ = some (.string ((rd_T29 t238 x84_3).f2)) := (blk_cell hca_ 2).trans rfl
                     have hcx_3 : w6_.cell? ⟨gb247, 3, none⟩ = some (.string ((rd_T29 t238 x84_3).f3)) := (blk_cell hca_ 3).trans rfl
                     have HW6_ := Aside0.mk hw6_
                     clear hw6_ hca_ hcb_
                     go_wp2
                     obtain rfl := HW6_.out
                     go_roundg k3
                     case measure => have := HJ2.out; have := HJ15.out; have := HK3.out; omega
                     case rel => exact ⟨(wrap64 (x84_3 + 1)), rfs_, H', ⟨by have := HJ2.out; have := HJ15.out; have := HK3.out; omega⟩, ⟨by (with_reducible repeat (first | apply Kd.R_alloc | apply Kd.R_drewN | apply Kd.R_drew)); exact Kd.R_mono (Kd.R_far (p := ⟨gb248, 1, none⟩) (Kd.R_far (p := ⟨gb248, 3, none⟩) (Kd.R_far (p := ⟨gb248, 2, none⟩) (Kd.R_far (p := ⟨gb248, 1, none⟩) (Kd.R_far (p := ⟨gb248, 0, none⟩) (Kd.R_mono HO_5.out (fun k_ hk => (⟨hk, hk.2⟩ : _ ∧ k_ ≠ gb248))) (fun _ hk => hk.2) (.int .i64 ((rd_T29 t221 (ji45)).f0))) (fun _ hk => hk.2) (.int .i64 ((rd_T29 t221 (ji45)).f1))) (fun _ hk => hk.2) (.string ((rd_T29 t221 (ji45)).f2))) (fun _ hk => hk.2) (.string ((rd_T29 t221 (ji45)).f3))) (fun _ hk => hk.2) (.int .i64 (wrap64 (((rd_T29 t221 (ji45)).f1) + (wrap64 ((l0.length : Int) + 2)))))) (fun _ hk => ⟨hk.1.1.1.1, hk.1.1.1.2⟩)⟩, ⟨by (with_reducible repeat (first | apply Kd.R_alloc | apply Kd.R_drewN | apply Kd.R_drew)); exact Kd.R_mono (Kd.R_far (p := ⟨gb248, 1, none⟩) (Kd.R_far (p := ⟨gb248, 3, none⟩) (Kd.R_far (p := ⟨gb248, 2, none⟩) (Kd.R_far (p := ⟨gb248, 1, none⟩) (Kd.R_far (p := ⟨gb248, 0, none⟩) (Kd.R_mono HO_8.out (fun k_ hk => (⟨hk, hk.2⟩ : _ ∧ k_ ≠ gb248))) (fun _ hk => hk.2) (.int .i64 ((rd_T29 t221 (ji45)).f0))) (fun _ hk => hk.2) (.int .i64 ((rd_T29 t221 (ji45)).f1))) (fun _ hk => hk.2) (.string ((rd_T29 t221 (ji45)).f2))) (fun _ hk => hk.2) (.string ((rd_T29 t221 (ji45)).f3))) (fun _ hk => hk.2) (.int .i64 (wrap64 (((rd_T29 t221 (ji45)).f1) + (wrap64 ((l0.length : Int) + 2)))))) (fun _ hk => ⟨hk.1.1.1.1, hk.1.1.1.2⟩)⟩, ⟨by (with_reducible repeat (first | apply Kd.R_alloc | apply Kd.R_drewN | apply Kd.R_drew)); exact Kd.R_mono (Kd.R_far (p := ⟨gb248, 1, none⟩) (Kd.R_far (p := ⟨gb248, 3, none⟩) (Kd.R_far (p := ⟨gb248, 2, none⟩) (Kd.R_far (p := ⟨gb248, 1, none⟩) (Kd.R_far (p := ⟨gb248, 0, none⟩) (Kd.R_mono HO_82.out (fun k_ hk => (⟨hk, hk.2⟩ : _ ∧ k_ ≠ gb248))) (fun _ hk => hk.2) (.int .i64 ((rd_T29 t221 (ji45)).f0))) (fun _ hk => hk.2) (.int .i64 ((rd_T29 t221 (ji45)).f1))) (fun _ hk => hk.2) (.string ((rd_T29 t221 (ji45)).f2))) (fun _ hk => hk.2) (.string ((rd_T29 t221 (ji45)).f3))) (fun _ hk => hk.2) (.int .i64 (wrap64 (((rd_T29 t221 (ji45)).f1) + (wrap64 ((l0.length : Int) + 2)))))) (fun _ hk => ⟨hk.1.1.1.1, hk.1.1.1.2⟩)⟩, ⟨bel_⟩⟩
                   ·rw [if_neg c47] at H
                    exact absurd H (by simp)
                  ·rw [if_neg c46] at H
                   exact absurd H (by simp)
                ·rw [if_neg c34] at H
                 exact absurd H (by simp)
               ·rw [if_neg c33] at H
                exact absurd H (by simp)
              ·rw [if_neg c32] at H
               have c32b0 : decide (x84_3 < (t238.length : Int)) = false := decide_eq_false c32
               clear c32
               replace H := Option.bind_eq_some_iff.mp H
               obtain ⟨t245, A570, H⟩ := H
               try dsimp only at H
               have A57 := Aside0.mk A570
               clear A570
               obtain rfl := Option.some.inj H
               go_wp2_with (first | ((with_reducible refine gate_callee (f := 5) rfl ?_); refine goesL_ (some 117) rfl rfl Try.func5 (by kernel_rfl) rfl #[] rfl goa_ ?_; (with_reducible refine (parterrelaw03_lives.calls k3  t245 _ A57.out (Ml.below HTB.out bel_)).mono ?_); rintro e w58 ⟨rfl, hb⟩; refine ⟨_, rfl, ?_⟩; have n0_ := Aside0.mk (Kd.R_below (by (with_reducible repeat (first | apply Kd.R_alloc | apply Kd.R_drewN | apply Kd.R_drew)); exact HO_5.out) hb); have n1_ := Aside0.mk (Kd.R_below (by (with_reducible repeat (first | apply Kd.R_alloc | apply Kd.R_drewN | apply Kd.R_drew)); exact HO_8.out) hb); have n2_ := Aside0.mk (Kd.R_below (by (with_reducible repeat (first | apply Kd.R_alloc | apply Kd.R_drewN | apply Kd.R_drew)); exact HO_82.out) hb); have n3_ := Aside0.mk (below_step bel_ hb); clear HO_5; clear HO_8; clear HO_82; clear HB; have HO_5 := n0_; have HO_8 := n1_; have HO_82 := n2_; have HB := n3_; clear n0_ n1_ n2_ n3_; clear hb))
               go_ret
               exact ⟨rsl_, bel_⟩
        ·rw [if_neg c15] at H
         have c15b0 : (t223 == 0) = false := beq_eq_false_iff_ne.mpr c15
         have c15b1 : (t223 != 0) = true := bne_iff_ne.mpr c15
         by_cases c59 : t240 = t223
         ·rw [if_pos c59] at H
          have c59b0 : (t240 == t223) = true := beq_iff_eq.mpr c59
          have c59b1 : (t240 != t223) = false := bne_eq_false_iff_eq.mpr c59
          clear c59
          by_cases c60 : t239 = (wrap64 ((wrap64 (t222 + (l0.length : Int))) + 2))
          ·rw [if_pos c60] at H
           have c60b0 : (t239 == (wrap64 ((wrap64 (t222 + (l0.length : Int))) + 2))) = true := beq_iff_eq.mpr c60
           have c60b1 : (t239 != (wrap64 ((wrap64 (t222 + (l0.length : Int))) + 2))) = false := bne_eq_false_iff_eq.mpr c60
           clear c60
           replace H := Option.bind_eq_some_iff.mp H
           obtain ⟨t244, A610, H⟩ := H
           try dsimp only at H
           have A61 := Aside0.mk A610
           clear A610
           obtain rfl := Option.some.inj H
           go_wp2_with (first | ((with_reducible refine gate_callee (f := 6) rfl ?_); refine goesL_ (some 28) rfl rfl Try.func6 (by kernel_rfl) rfl #[.slice A0 l0.length c0] rfl goa_ ?_; (with_reducible refine (token_Tokens.calls kj2 _ _ l0 t216 t217 t218 _ ?side1 ?side2 A8.out (Ml.below HTB.out bel_)).mono ?_); (case side1 => repeat (first | exact (Kd.C_below HR0.out HB.out) | (with_reducible refine Kd.C_alloc ?_ _) | (with_reducible refine Kd.C_drewN ?_ _) | (with_reducible refine Kd.C_drew ?_))); (case side2 => exact HC0.out); rintro e w62 ⟨v219, rfl, ho0, hb⟩; refine ⟨_, rfl, ?_⟩; have n0_ := Aside0.mk (Kd.R_lower ho0 (below_size bel_)); have n1_ := Aside0.mk (below_step bel_ hb); clear HB; have HO220 := n0_; have HB := n1_; clear n0_ n1_; (try clear hb); (try clear hb2); (try clear hk); (try clear hi); (try clear ho0)) | ((with_reducible refine gate_callee (f := 6) rfl ?_); refine goesL_ (some 34) rfl rfl Try.func6 (by kernel_rfl) rfl #[.slice A1 l1.length c1] rfl goa_ ?_; (with_reducible refine (token_Tokens.calls kj2 _ _ l1 t221 t222 t223 _ ?side1 ?side2 A9.out (Ml.below HTB.out bel_)).mono ?_); (case side1 => repeat (first | exact (Kd.C_below HR1.out HB.out) | (with_reducible refine Kd.C_alloc ?_ _) | (with_reducible refine Kd.C_drewN ?_ _) | (with_reducible refine Kd.C_drew ?_))); (case side2 => exact HC1.out); rintro e w63 ⟨v224, rfl, ho0, hb⟩; refine ⟨_, rfl, ?_⟩; have n0_ := Aside0.mk (Kd.R_elder' (by (with_reducible repeat (first | apply Kd.R_alloc | apply Kd.R_drewN | apply Kd.R_drew)); exact HO220.out) (Kd.R_base ho0) hb); have n1_ := Aside0.mk (Kd.R_lower (Kd.R_new' ho0 (Kd.R_lt (by (with_reducible repeat (first | apply Kd.R_alloc | apply Kd.R_drewN | apply Kd.R_drew)); exact HO220.out))) (below_size bel_)); have n2_ := Aside0.mk (below_step bel_ hb); clear HO220; clear HB; have HO220 := n0_; have HO225 := n1_; have HB := n2_; clear n0_ n1_ n2_; (try clear hb); (try clear hb2); (try clear hk); (try clear hi); (try clear ho0)) | ((with_reducible refine gate_dst (N := 39) rfl ?_); (try (refine gate_guard (by rfl) ?_; dsimp only)); refine Kd.R_lit (Kd.int .u8) _ 5 ?hg (N := 39) ?hd (xs := ([] : List Int)) (inner := []) (ok := fun _ => True) (okp := fun _ => True) ?hr ?hp (fun _ hk => hk) trivial (Below.refl _ _) (Nat.le_refl _) (by simp) ?_; (case hd => rfl); (case hg => rfl); (case hr => first | (go_simp; done) | (go_simp; rfl)); (case hp => exact (Reps.none _ _)); intro v227 w64 ho65 hb hg_ hnew_; clear hg_ hnew_; (first | rw [← Ny226.out] at ho65 | (simp only [Int.reduceToNat] at ho65; rw [← Ny226.out] at ho65)); have n0_ := Aside0.mk (Kd.R_below (by (with_reducible repeat (first | apply Kd.R_alloc | apply Kd.R_drewN | apply Kd.R_drew)); exact HO220.out) hb); have n1_ := Aside0.mk (Kd.R_below (by (with_reducible repeat (first | apply Kd.R_alloc | apply Kd.R_drewN | apply Kd.R_drew)); exact HO225.out) hb); have n2_ := Aside0.mk (Kd.R_lower ho65 (below_size bel_)); have n3_ := Aside0.mk (below_step bel_ hb); clear HO220; clear HO225; clear HB; have HO220 := n0_; have HO225 := n1_; have HO228 := n2_; have HB := n3_; clear n0_ n1_ n2_ n3_; clear hb ho65) | ((with_reducible refine gate_builtin (b := .append) (xs := #[.tmp 39, .tmp 40]) rfl ?_); (try (refine gate_guard (by rfl) ?_; dsimp only)); at_builtin; refine Kd.R_append_rows (Kd.int .u8) (w0 := w) w.heap.size rfl (.tmp 39) (.tmp 40) 22 5 (.int .u8 0) 1 rfl Try.underlying22 info5 rfl (by decide) (by omega) v227 y226 l0 _ _ _ (fun _ => True) (fun _ => False) rfl rfl ?aO ?aR (fun _ _ h => h) (fun _ h => h.elim) ?aF ?aB ?aS ?aL ?_; (case aR => repeat (first | exact (Kd.C_below HR0.out HB.out) | (with_reducible refine Kd.C_alloc ?_ _) | (with_reducible refine Kd.C_drewN ?_ _) | (with_reducible refine Kd.C_drew ?_))); (case aB => exact bel_); (case aF => exact (fun _ _ => trivial)); (case aO => exact (by (with_reducible repeat (first | apply Kd.R_alloc | apply Kd.R_drewN | apply Kd.R_drew)); exact HO228.out)); (case aS => exact (below_size bel_)); (case aL => have := LMc10.out; omega); intro v230 w66 ho hb hg hat; rw [← Ny229.out] at ho; have n0_ := Aside0.mk (Kd.R_over' (by (with_reducible repeat (first | apply Kd.R_alloc | apply Kd.R_drewN | apply Kd.R_drew)); exact HO220.out) (Kd.R_typed (by (with_reducible repeat (first | apply Kd.R_alloc | apply Kd.R_drewN | apply Kd.R_drew)); exact HO228.out)) (by decide) hg); have n1_ := Aside0.mk (Kd.R_over' (by (with_reducible repeat (first | apply Kd.R_alloc | apply Kd.R_drewN | apply Kd.R_drew)); exact HO225.out) (Kd.R_typed (by (with_reducible repeat (first | apply Kd.R_alloc | apply Kd.R_drewN | apply Kd.R_drew)); exact HO228.out)) (by decide) hg); have n2_ := Aside0.mk (hb); have n3_ := Aside0.mk (ho); clear HO220; clear HO225; clear HB; clear HO228; have HO220 := n0_; have HO225 := n1_; have HB := n2_; have HO231 := n3_; clear n0_ n1_ n2_ n3_; clear ho hb hg hat) | (at_builtin; refine print_append_str (w0 := w) w.heap.size rfl (.tmp 41) _ 22 9 5 rfl Try.underlying22 Try.underlying9 info5 v230 y229 (⟨#[10, 10]⟩ : ByteArray) rfl rfl ?aO ?aB ?aS ?aL ?_; (case aB => exact bel_); (case aO => exact (Kd.own_of_R (by (with_reducible repeat (first | apply Kd.R_alloc | apply Kd.R_drewN | apply Kd.R_drew)); exact HO231.out))); (case aS => exact (below_size bel_)); (case aL => have := LMc11.out; have hz_ : ((⟨#[10, 10]⟩ : ByteArray)).size = 2 := rfl; omega); intro v233 w67 ho0 hb hg; have ho := Kd.R_of_own (h1 := fun _ => rfl) (ok := fun _ => True) ho0 (fun _ _ => trivial); clear ho0; have hat := True.intro; rw [← Ny232.out] at ho; change Kd.R (Kd.int .u8) 5 w67 w.heap.size (fun _ => True) v233 y232 at ho; have n0_ := Aside0.mk (Kd.R_over' (by (with_reducible repeat (first | apply Kd.R_alloc | apply Kd.R_drewN | apply Kd.R_drew)); exact HO220.out) (Kd.R_typed (by (with_reducible repeat (first | apply Kd.R_alloc | apply Kd.R_drewN | apply Kd.R_drew)); exact HO231.out)) (by decide) hg); have n1_ := Aside0.mk (Kd.R_over' (by (with_reducible repeat (first | apply Kd.R_alloc | apply Kd.R_drewN | apply Kd.R_drew)); exact HO225.out) (Kd.R_typed (by (with_reducible repeat (first | apply Kd.R_alloc | apply Kd.R_drewN | apply Kd.R_drew)); exact HO231.out)) (by decide) hg); have n2_ := Aside0.mk (hb); have n3_ := Aside0.mk (ho); clear HO220; clear HO225; clear HB; clear HO231; have HO220 := n0_; have HO225 := n1_; have HB := n2_; have HO234 := n3_; clear n0_ n1_ n2_ n3_; clear ho hb hg hat) | ((with_reducible refine gate_builtin (b := .append) (xs := #[.tmp 42, .tmp 43]) rfl ?_); (try (refine gate_guard (by rfl) ?_; dsimp only)); at_builtin; refine Kd.R_append_rows (Kd.int .u8) (w0 := w) w.heap.size rfl (.tmp 42) (.tmp 43) 22 5 (.int .u8 0) 1 rfl Try.underlying22 info5 rfl (by decide) (by omega) v233 y232 l1 _ _ _ (fun _ => True) (fun _ => False) rfl rfl ?aO ?aR (fun _ _ h => h) (fun _ h => h.elim) ?aF ?aB ?aS ?aL ?_; (case aR => repeat (first | exact (Kd.C_below HR1.out HB.out) | (with_reducible refine Kd.C_alloc ?_ _) | (with_reducible refine Kd.C_drewN ?_ _) | (with_reducible refine Kd.C_drew ?_))); (case aB => exact bel_); (case aF => exact (fun _ _ => trivial)); (case aO => exact (by (with_reducible repeat (first | apply Kd.R_alloc | apply Kd.R_drewN | apply Kd.R_drew)); exact HO234.out)); (case aS => exact (below_size bel_)); (case aL => have := LMc12.out; omega); intro v236 w68 ho hb hg hat; rw [← Ny235.out] at ho; have n0_ := Aside0.mk (Kd.R_over' (by (with_reducible repeat (first | apply Kd.R_alloc | apply Kd.R_drewN | apply Kd.R_drew)); exact HO220.out) (Kd.R_typed (by (with_reducible repeat (first | apply Kd.R_alloc | apply Kd.R_drewN | apply Kd.R_drew)); exact HO234.out)) (by decide) hg); have n1_ := Aside0.mk (Kd.R_over' (by (with_reducible repeat (first | apply Kd.R_alloc | apply Kd.R_drewN | apply Kd.R_drew)); exact HO225.out) (Kd.R_typed (by (with_reducible repeat (first | apply Kd.R_alloc | apply Kd.R_drewN | apply Kd.R_drew)); exact HO234.out)) (by decide) hg); have n2_ := Aside0.mk (hb); have n3_ := Aside0.mk (ho); clear HO220; clear HO225; clear HB; clear HO234; have HO220 := n0_; have HO225 := n1_; have HB := n2_; have HO237 := n3_; clear n0_ n1_ n2_ n3_; clear ho hb hg hat; obtain ⟨Ao69, co69, eo69⟩ := Kd.R_slice HO237.out; subst eo69) | ((with_reducible refine gate_callee (f := 6) rfl ?_); refine goesL_ (some 45) rfl rfl Try.func6 (by kernel_rfl) rfl #[.slice Ao69 y235.length co69] rfl goa_ ?_; (with_reducible refine (token_Tokens.calls kj2 _ _ y235 t238 t239 t240 _ ?side1 ?side2 A13.out (Ml.below HTB.out bel_)).mono ?_); (case side1 => repeat (first | exact (Kd.R_reads' HO237.out).2.2 | (with_reducible refine Kd.C_alloc ?_ _) | (with_reducible refine Kd.C_drewN ?_ _) | (with_reducible refine Kd.C_drew ?_))); (case side2 => exact (Kd.R_reads' HO237.out).2.1); rintro e w70 ⟨v241, rfl, ho0, hb⟩; refine ⟨_, rfl, ?_⟩; have n0_ := Aside0.mk (Kd.R_elder' (by (with_reducible repeat (first | apply Kd.R_alloc | apply Kd.R_drewN | apply Kd.R_drew)); exact HO220.out) (Kd.R_base ho0) hb); have n1_ := Aside0.mk (Kd.R_elder' (by (with_reducible repeat (first | apply Kd.R_alloc | apply Kd.R_drewN | apply Kd.R_drew)); exact HO225.out) (Kd.R_base ho0) hb); have n2_ := Aside0.mk (Kd.R_below (by (with_reducible repeat (first | apply Kd.R_alloc | apply Kd.R_drewN | apply Kd.R_drew)); exact HO237.out) hb); have n3_ := Aside0.mk (Kd.R_lower (Kd.R_new' (Kd.R_new' ho0 (Kd.R_lt (by (with_reducible repeat (first | apply Kd.R_alloc | apply Kd.R_drewN | apply Kd.R_drew)); exact HO220.out))) (Kd.R_lt (by (with_reducible repeat (first | apply Kd.R_alloc | apply Kd.R_drewN | apply Kd.R_drew)); exact HO225.out))) (below_size bel_)); have n4_ := Aside0.mk (below_step bel_ hb); clear HO220; clear HO225; clear HO237; clear HB; have HO220 := n0_; have HO225 := n1_; have HO237 := n2_; have HO242 := n3_; have HB := n4_; clear n0_ n1_ n2_ n3_ n4_; (try clear hb); (try clear hb2); (try clear hk); (try clear hi); (try clear ho0)) | (go_at_call 5; (with_reducible refine (parterrelaw03_lives.calls kj2  t244 _ A61.out (Ml.below HTB.out bel_)).mono ?_); rintro e w71 ⟨rfl, hb⟩; have n0_ := Aside0.mk (Kd.R_below (by (with_reducible repeat (first | apply Kd.R_alloc | apply Kd.R_drewN | apply Kd.R_drew)); exact HO220.out) hb); have n1_ := Aside0.mk (Kd.R_below (by (with_reducible repeat (first | apply Kd.R_alloc | apply Kd.R_drewN | apply Kd.R_drew)); exact HO225.out) hb); have n2_ := Aside0.mk (Kd.R_below (by (with_reducible repeat (first | apply Kd.R_alloc | apply Kd.R_drewN | apply Kd.R_drew)); exact HO237.out) hb); have n3_ := Aside0.mk (Kd.R_below (by (with_reducible repeat (first | apply Kd.R_alloc | apply Kd.R_drewN | apply Kd.R_drew)); exact HO242.out) hb); have n4_ := Aside0.mk (below_step bel_ hb); clear HO220; clear HO225; clear HO237; clear HO242; clear HB; have HO220 := n0_; have HO225 := n1_; have HO237 := n2_; have HO242 := n3_; have HB := n4_; clear n0_ n1_ n2_ n3_ n4_; clear hb))
           go_ret
           exact ⟨rsl_, bel_⟩
          ·rw [if_neg c60] at H
           exact absurd H (by simp)
         ·rw [if_neg c59] at H
          exact absurd H (by simp)
       ·rw [if_neg c14] at H
        have c14b0 : (t218 == 0) = false := beq_eq_false_iff_ne.mpr c14
        have c14b1 : (t218 != 0) = true := bne_iff_ne.mpr c14
        replace H := Option.bind_eq_some_iff.mp H
        obtain ⟨t243, A720, H⟩ := H
        try dsimp only at H
        have A72 := Aside0.mk A720
        clear A720
        obtain rfl := Option.some.inj H
        go_wp2_with (first | ((with_reducible refine gate_callee (f := 6) rfl ?_); refine goesL_ (some 28) rfl rfl Try.func6 (by kernel_rfl) rfl #[.slice A0 l0.length c0] rfl goa_ ?_; (with_reducible refine (token_Tokens.calls kj2 _ _ l0 t216 t217 t218 _ ?side1 ?side2 A8.out (Ml.below HTB.out bel_)).mono ?_); (case side1 => repeat (first | exact (Kd.C_below HR0.out HB.out) | (with_reducible refine Kd.C_alloc ?_ _) | (with_reducible refine Kd.C_drewN ?_ _) | (with_reducible refine Kd.C_drew ?_))); (case side2 => exact HC0.out); rintro e w73 ⟨v219, rfl, ho0, hb⟩; refine ⟨_, rfl, ?_⟩; have n0_ := Aside0.mk (Kd.R_lower ho0 (below_size bel_)); have n1_ := Aside0.mk (below_step bel_ hb); clear HB; have HO220 := n0_; have HB := n1_; clear n0_ n1_; (try clear hb); (try clear hb2); (try clear hk); (try clear hi); (try clear ho0)) | ((with_reducible refine gate_callee (f := 6) rfl ?_); refine goesL_ (some 34) rfl rfl Try.func6 (by kernel_rfl) rfl #[.slice A1 l1.length c1] rfl goa_ ?_; (with_reducible refine (token_Tokens.calls kj2 _ _ l1 t221 t222 t223 _ ?side1 ?side2 A9.out (Ml.below HTB.out bel_)).mono ?_); (case side1 => repeat (first | exact (Kd.C_below HR1.out HB.out) | (with_reducible refine Kd.C_alloc ?_ _) | (with_reducible refine Kd.C_drewN ?_ _) | (with_reducible refine Kd.C_drew ?_))); (case side2 => exact HC1.out); rintro e w74 ⟨v224, rfl, ho0, hb⟩; refine ⟨_, rfl, ?_⟩; have n0_ := Aside0.mk (Kd.R_elder' (by (with_reducible repeat (first | apply Kd.R_alloc | apply Kd.R_drewN | apply Kd.R_drew)); exact HO220.out) (Kd.R_base ho0) hb); have n1_ := Aside0.mk (Kd.R_lower (Kd.R_new' ho0 (Kd.R_lt (by (with_reducible repeat (first | apply Kd.R_alloc | apply Kd.R_drewN | apply Kd.R_drew)); exact HO220.out))) (below_size bel_)); have n2_ := Aside0.mk (below_step bel_ hb); clear HO220; clear HB; have HO220 := n0_; have HO225 := n1_; have HB := n2_; clear n0_ n1_ n2_; (try clear hb); (try clear hb2); (try clear hk); (try clear hi); (try clear ho0)) | ((with_reducible refine gate_dst (N := 39) rfl ?_); (try (refine gate_guard (by rfl) ?_; dsimp only)); refine Kd.R_lit (Kd.int .u8) _ 5 ?hg (N := 39) ?hd (xs := ([] : List Int)) (inner := []) (ok := fun _ => True) (okp := fun _ => True) ?hr ?hp (fun _ hk => hk) trivial (Below.refl _ _) (Nat.le_refl _) (by simp) ?_; (case hd => rfl); (case hg => rfl); (case hr => first | (go_simp; done) | (go_simp; rfl)); (case hp => exact (Reps.none _ _)); intro v227 w75 ho76 hb hg_ hnew_; clear hg_ hnew_; (first | rw [← Ny226.out] at ho76 | (simp only [Int.reduceToNat] at ho76; rw [← Ny226.out] at ho76)); have n0_ := Aside0.mk (Kd.R_below (by (with_reducible repeat (first | apply Kd.R_alloc | apply Kd.R_drewN | apply Kd.R_drew)); exact HO220.out) hb); have n1_ := Aside0.mk (Kd.R_below (by (with_reducible repeat (first | apply Kd.R_alloc | apply Kd.R_drewN | apply Kd.R_drew)); exact HO225.out) hb); have n2_ := Aside0.mk (Kd.R_lower ho76 (below_size bel_)); have n3_ := Aside0.mk (below_step bel_ hb); clear HO220; clear HO225; clear HB; have HO220 := n0_; have HO225 := n1_; have HO228 := n2_; have HB := n3_; clear n0_ n1_ n2_ n3_; clear hb ho76) | ((with_reducible refine gate_builtin (b := .append) (xs := #[.tmp 39, .tmp 40]) rfl ?_); (try (refine gate_guard (by rfl) ?_; dsimp only)); at_builtin; refine Kd.R_append_rows (Kd.int .u8) (w0 := w) w.heap.size rfl (.tmp 39) (.tmp 40) 22 5 (.int .u8 0) 1 rfl Try.underlying22 info5 rfl (by decide) (by omega) v227 y226 l0 _ _ _ (fun _ => True) (fun _ => False) rfl rfl ?aO ?aR (fun _ _ h => h) (fun _ h => h.elim) ?aF ?aB ?aS ?aL ?_; (case aR => repeat (first | exact (Kd.C_below HR0.out HB.out) | (with_reducible refine Kd.C_alloc ?_ _) | (with_reducible refine Kd.C_drewN ?_ _) | (with_reducible refine Kd.C_drew ?_))); (case aB => exact bel_); (case aF => exact (fun _ _ => trivial)); (case aO => exact (by (with_reducible repeat (first | apply Kd.R_alloc | apply Kd.R_drewN | apply Kd.R_drew)); exact HO228.out)); (case aS => exact (below_size bel_)); (case aL => have := LMc10.out; omega); intro v230 w77 ho hb hg hat; rw [← Ny229.out] at ho; have n0_ := Aside0.mk (Kd.R_over' (by (with_reducible repeat (first | apply Kd.R_alloc | apply Kd.R_drewN | apply Kd.R_drew)); exact HO220.out) (Kd.R_typed (by (with_reducible repeat (first | apply Kd.R_alloc | apply Kd.R_drewN | apply Kd.R_drew)); exact HO228.out)) (by decide) hg); have n1_ := Aside0.mk (Kd.R_over' (by (with_reducible repeat (first | apply Kd.R_alloc | apply Kd.R_drewN | apply Kd.R_drew)); exact HO225.out) (Kd.R_typed (by (with_reducible repeat (first | apply Kd.R_alloc | apply Kd.R_drewN | apply Kd.R_drew)); exact HO228.out)) (by decide) hg); have n2_ := Aside0.mk (hb); have n3_ := Aside0.mk (ho); clear HO220; clear HO225; clear HB; clear HO228; have HO220 := n0_; have HO225 := n1_; have HB := n2_; have HO231 := n3_; clear n0_ n1_ n2_ n3_; clear ho hb hg hat) | (at_builtin; refine print_append_str (w0 := w) w.heap.size rfl (.tmp 41) _ 22 9 5 rfl Try.underlying22 Try.underlying9 info5 v230 y229 (⟨#[10, 10]⟩ : ByteArray) rfl rfl ?aO ?aB ?aS ?aL ?_; (case aB => exact bel_); (case aO => exact (Kd.own_of_R (by (with_reducible repeat (first | apply Kd.R_alloc | apply Kd.R_drewN | apply Kd.R_drew)); exact HO231.out))); (case aS => exact (below_size bel_)); (case aL => have := LMc11.out; have hz_ : ((⟨#[10, 10]⟩ : ByteArray)).size = 2 := rfl; omega); intro v233 w78 ho0 hb hg; have ho := Kd.R_of_own (h1 := fun _ => rfl) (ok := fun _ => True) ho0 (fun _ _ => trivial); clear ho0; have hat := True.intro; rw [← Ny232.out] at ho; change Kd.R (Kd.int .u8) 5 w78 w.heap.size (fun _ => True) v233 y232 at ho; have n0_ := Aside0.mk (Kd.R_over' (by (with_reducible repeat (first | apply Kd.R_alloc | apply Kd.R_drewN | apply Kd.R_drew)); exact HO220.out) (Kd.R_typed (by (with_reducible repeat (first | apply Kd.R_alloc | apply Kd.R_drewN | apply Kd.R_drew)); exact HO231.out)) (by decide) hg); have n1_ := Aside0.mk (Kd.R_over' (by (with_reducible repeat (first | apply Kd.R_alloc | apply Kd.R_drewN | apply Kd.R_drew)); exact HO225.out) (Kd.R_typed (by (with_reducible repeat (first | apply Kd.R_alloc | apply Kd.R_drewN | apply Kd.R_drew)); exact HO231.out)) (by decide) hg); have n2_ := Aside0.mk (hb); have n3_ := Aside0.mk (ho); clear HO220; clear HO225; clear HB; clear HO231; have HO220 := n0_; have HO225 := n1_; have HB := n2_; have HO234 := n3_; clear n0_ n1_ n2_ n3_; clear ho hb hg hat) | ((with_reducible refine gate_builtin (b := .append) (xs := #[.tmp 42, .tmp 43]) rfl ?_); (try (refine gate_guard (by rfl) ?_; dsimp only)); at_builtin; refine Kd.R_append_rows (Kd.int .u8) (w0 := w) w.heap.size rfl (.tmp 42) (.tmp 43) 22 5 (.int .u8 0) 1 rfl Try.underlying22 info5 rfl (by decide) (by omega) v233 y232 l1 _ _ _ (fun _ => True) (fun _ => False) rfl rfl ?aO ?aR (fun _ _ h => h) (fun _ h => h.elim) ?aF ?aB ?aS ?aL ?_; (case aR => repeat (first | exact (Kd.C_below HR1.out HB.out) | (with_reducible refine Kd.C_alloc ?_ _) | (with_reducible refine Kd.C_drewN ?_ _) | (with_reducible refine Kd.C_drew ?_))); (case aB => exact bel_); (case aF => exact (fun _ _ => trivial)); (case aO => exact (by (with_reducible repeat (first | apply Kd.R_alloc | apply Kd.R_drewN | apply Kd.R_drew)); exact HO234.out)); (case aS => exact (below_size bel_)); (case aL => have := LMc12.out; omega); intro v236 w79 ho hb hg hat; rw [← Ny235.out] at ho; have n0_ := Aside0.mk (Kd.R_over' (by (with_reducible repeat (first | apply Kd.R_alloc | apply Kd.R_drewN | apply Kd.R_drew)); exact HO220.out) (Kd.R_typed (by (with_reducible repeat (first | apply Kd.R_alloc | apply Kd.R_drewN | apply Kd.R_drew)); exact HO234.out)) (by decide) hg); have n1_ := Aside0.mk (Kd.R_over' (by (with_reducible repeat (first | apply Kd.R_alloc | apply Kd.R_drewN | apply Kd.R_drew)); exact HO225.out) (Kd.R_typed (by (with_reducible repeat (first | apply Kd.R_alloc | apply Kd.R_drewN | apply Kd.R_drew)); exact HO234.out)) (by decide) hg); have n2_ := Aside0.mk (hb); have n3_ := Aside0.mk (ho); clear HO220; clear HO225; clear HB; clear HO234; have HO220 := n0_; have HO225 := n1_; have HB := n2_; have HO237 := n3_; clear n0_ n1_ n2_ n3_; clear ho hb hg hat; obtain ⟨Ao80, co80, eo80⟩ := Kd.R_slice HO237.out; subst eo80) | ((with_reducible refine gate_callee (f := 6) rfl ?_); refine goesL_ (some 45) rfl rfl Try.func6 (by kernel_rfl) rfl #[.slice Ao80 y235.length co80] rfl goa_ ?_; (with_reducible refine (token_Tokens.calls kj2 _ _ y235 t238 t239 t240 _ ?side1 ?side2 A13.out (Ml.below HTB.out bel_)).mono ?_); (case side1 => repeat (first | exact (Kd.R_reads' HO237.out).2.2 | (with_reducible refine Kd.C_alloc ?_ _) | (with_reducible refine Kd.C_drewN ?_ _) | (with_reducible refine Kd.C_drew ?_))); (case side2 => exact (Kd.R_reads' HO237.out).2.1); rintro e w81 ⟨v241, rfl, ho0, hb⟩; refine ⟨_, rfl, ?_⟩; have n0_ := Aside0.mk (Kd.R_elder' (by (with_reducible repeat (first | apply Kd.R_alloc | apply Kd.R_drewN | apply Kd.R_drew)); exact HO220.out) (Kd.R_base ho0) hb); have n1_ := Aside0.mk (Kd.R_elder' (by (with_reducible repeat (first | apply Kd.R_alloc | apply Kd.R_drewN | apply Kd.R_drew)); exact HO225.out) (Kd.R_base ho0) hb); have n2_ := Aside0.mk (Kd.R_below (by (with_reducible repeat (first | apply Kd.R_alloc | apply Kd.R_drewN | apply Kd.R_drew)); exact HO237.out) hb); have n3_ := Aside0.mk (Kd.R_lower (Kd.R_new' (Kd.R_new' ho0 (Kd.R_lt (by (with_reducible repeat (first | apply Kd.R_alloc | apply Kd.R_drewN | apply Kd.R_drew)); exact HO220.out))) (Kd.R_lt (by (with_reducible repeat (first | apply Kd.R_alloc | apply Kd.R_drewN | apply Kd.R_drew)); exact HO225.out))) (below_size bel_)); have n4_ := Aside0.mk (below_step bel_ hb); clear HO220; clear HO225; clear HO237; clear HB; have HO220 := n0_; have HO225 := n1_; have HO237 := n2_; have HO242 := n3_; have HB := n4_; clear n0_ n1_ n2_ n3_ n4_; (try clear hb); (try clear hb2); (try clear hk); (try clear hi); (try clear ho0)) | ((with_reducible refine gate_callee (f := 5) rfl ?_); refine goesL_ (some 51) rfl rfl Try.func5 (by kernel_rfl) rfl #[] rfl goa_ ?_; (with_reducible refine (parterrelaw03_lives.calls kj2  t243 _ A72.out (Ml.below HTB.out bel_)).mono ?_); rintro e w82 ⟨rfl, hb⟩; refine ⟨_, rfl, ?_⟩; have n0_ := Aside0.mk (Kd.R_below (by (with_reducible repeat (first | apply Kd.R_alloc | apply Kd.R_drewN | apply Kd.R_drew)); exact HO220.out) hb); have n1_ := Aside0.mk (Kd.R_below (by (with_reducible repeat (first | apply Kd.R_alloc | apply Kd.R_drewN | apply Kd.R_drew)); exact HO225.out) hb); have n2_ := Aside0.mk (Kd.R_below (by (with_reducible repeat (first | apply Kd.R_alloc | apply Kd.R_drewN | apply Kd.R_drew)); exact HO237.out) hb); have n3_ := Aside0.mk (Kd.R_below (by (with_reducible repeat (first | apply Kd.R_alloc | apply Kd.R_drewN | apply Kd.R_drew)); exact HO242.out) hb); have n4_ := Aside0.mk (below_step bel_ hb); clear HO220; clear HO225; clear HO237; clear HO242; clear HB; have HO220 := n0_; have HO225 := n1_; have HO237 := n2_; have HO242 := n3_; have HB := n4_; clear n0_ n1_ n2_ n3_ n4_; clear hb))
        go_ret
        exact ⟨rsl_, bel_⟩
      ·rw [if_neg c12] at H
       exact absurd H (by simp)
     ·rw [if_neg c11] at H
      exact absurd H (by simp)
    ·rw [if_neg c10] at H
     exact absurd H (by simp)

/-- THE ONE PURE STATEMENT of parterrelaw03_TokenParts. -/
def parterrelaw03_TokenParts.Pure : Prop := ∀ (l0 : List Int) (l1 : List Int), gSl 1 (gInt .u8) l0 → gSl 1 (gInt .u8) l1 → ∃ k, parterrelaw03_TokenParts.f k l0 l1 = some true

end Go.Proofs.Ytholgbdfflabhaa.PTk
end
section
/- The lexer's functions as functions of the bytes that are left: escapes, identifiers, quoted texts, blanks, words. Conditions: texts of at most 1000000 bytes. -/
namespace Go.Proofs.Ytholgbdfflabhaa.Tkl
open Go.RowKit Go.Proofs.YtholgbdfflabhaaW.PrintWords Go.Proofs.YtholgbdfflabhaaW.PrintMore Go.Proofs.Ytholgbdfflabhaa.Evs Go.Proofs.Ytholgbdfflabhaa.Opn Go.Proofs.Ytholgbdfflabhaa.PTk

/-! ### What is left of a text -/
structure Rs (s : ByteArray) (p : Nat) (L : List UInt8) : Prop where
  le : p ≤ s.size
  eq : s.data.toList.drop p = L
abbrev mkB (L : List UInt8) : ByteArray := ⟨L.toArray⟩
section
variable {s : ByteArray} {p : Nat} {c : UInt8} {L R : List UInt8}
theorem Rs.len (h : Rs s p L) : p + L.length = s.size := by
  have h1 := h.le
  rw [← h.eq, List.length_drop, data_length]
  omega
theorem Rs.drop (h : Rs s p L) {n : Nat} (hn : n ≤ L.length) : Rs s (p + n) (L.drop n) :=
  ⟨by have := h.len; omega, by rw [← h.eq, List.drop_drop]⟩
theorem Rs.tail (h : Rs s p (c :: R)) : Rs s (p + 1) R := h.drop (n := 1) (by simp)
theorem Rs.lt (h : Rs s p (c :: R)) : p < s.size := by
  have := h.len
  simp at this
  omega
theorem Rs.nil (h : Rs s p []) : p = s.size := by
  have := h.len
  simpa using this
theorem Rs.byte (h : Rs s p (c :: R)) : bt s (p : Int) = (c.toNat : Int) := by
  have h1 := h.lt
  have h2 : s.data.toList[p]? = some c := by
    have := congrArg (fun l => l[0]?) h.eq
    simpa using this
  obtain ⟨h3, h4⟩ := List.getElem?_eq_some_iff.1 h2
  rw [← bt_at s (p : Int) (by simpa using h1), ← h4]
  simp
  rfl
theorem Rs.ext (h : Rs s p L) : s.extract p s.size = mkB L := by
  apply Go.WideShapes.bytes_inj
  have h1 : s.data.size = s.size := rfl
  rw [ByteArray.data_extract, Array.toList_extract, List.extract_eq_take_drop, h.eq]
  exact List.take_of_length_le (by have := h.len; omega)
theorem Rs.sub (h : Rs s p L) (n : Nat) : s.extract p (p + n) = mkB (L.take n) := by
  apply Go.WideShapes.bytes_inj
  rw [ByteArray.data_extract, Array.toList_extract, List.extract_eq_take_drop, h.eq, (by omega : p + n - p = n)]
theorem Rs.whole (L : List UInt8) : Rs (mkB L) 0 L := ⟨Nat.zero_le _, by simp⟩
theorem mk_size (L : List UInt8) : (mkB L).size = L.length := by
  show L.toArray.size = _
  simp
theorem mk_data (s : ByteArray) : mkB s.data.toList = s := by
  apply Go.WideShapes.bytes_inj
  simp
end

/-! ### The 256 bytes -/
def lett (c : UInt8) : Bool := (token_Letter.f (c.toNat : Int)).getD false
def blnk (c : UInt8) : Bool := (token_blank.f (c.toNat : Int)).getD false
def fd (c : UInt8) : Bool := (token_feed.f (c.toNat : Int)).getD false
def inn (c : UInt8) : Bool := (token_lexer_ident_1.f (c.toNat : Int)).getD false
def hexv (c : UInt8) : Int := (token_hex.f 3 (c.toNat : Int)).getD 0
def fine (c : Int) : Bool := (token_Letter.f c).isSome && ((token_blank.f c).isSome && ((token_feed.f c).isSome && ((token_lexer_ident_1.f c).isSome && ((token_hex.f 3 c).map (fun t => decide (-1 ≤ t ∧ t ≤ 15)) == some true))))
theorem fine_all : (List.range 256).all (fun n => fine (n : Int)) = true := by decide +kernel
theorem some_getD {α : Type} {o : Option α} {d : α} (h : o.isSome = true) : o = some (o.getD d) := by
  obtain ⟨x, rfl⟩ := Option.isSome_iff_exists.1 h
  rfl
theorem bytes (c : UInt8) : token_Letter.f (c.toNat : Int) = some (lett c) ∧ token_blank.f (c.toNat : Int) = some (blnk c) ∧ token_feed.f (c.toNat : Int) = some (fd c) ∧ token_lexer_ident_1.f (c.toNat : Int) = some (inn c) ∧ Ev (fun k => token_hex.f k (c.toNat : Int)) (hexv c) ∧ -1 ≤ hexv c ∧ hexv c ≤ 15 := by
  have h := List.all_eq_true.1 fine_all c.toNat (List.mem_range.2 c.toNat_lt)
  simp only [fine, Bool.and_eq_true, beq_iff_eq] at h
  obtain ⟨h1, h2, h3, h4, h5⟩ := h
  obtain ⟨v, e, hv⟩ := Option.map_eq_some_iff.1 h5
  have hv := of_decide_eq_true hv
  have e1 : hexv c = v := by unfold hexv; rw [e]; rfl
  rw [e1]
  exact ⟨some_getD h1, some_getD h2, some_getD h3, some_getD h4, Ev.of (token_hex.mono _) e, hv.1, hv.2⟩

/-! ### A character's bytes -/
def chr (m : Int) : List Int := if m < 128 then [m] else if m < 2048 then [192 + m / 64, 128 + m % 64] else if m < 65536 then [224 + m / 4096, 128 + m / 64 % 64, 128 + m % 64] else [240 + m / 262144, 128 + m / 4096 % 64, 128 + m / 64 % 64, 128 + m % 64]
theorem or192 (y : Int) (h0 : 0 ≤ y) (h1 : y < 32) : Go.bits .or .u8 192 y = 192 + y := by
  have h : (List.range 32).all (fun n => decide (Go.bits .or .u8 192 (n : Int) = 192 + (n : Int))) = true := by decide +kernel
  have := of_decide_eq_true (List.all_eq_true.1 h y.toNat (List.mem_range.2 (by omega)))
  rwa [Int.toNat_of_nonneg h0] at this
theorem or224 (y : Int) (h0 : 0 ≤ y) (h1 : y < 16) : Go.bits .or .u8 224 y = 224 + y := by
  have h : (List.range 16).all (fun n => decide (Go.bits .or .u8 224 (n : Int) = 224 + (n : Int))) = true := by decide +kernel
  have := of_decide_eq_true (List.all_eq_true.1 h y.toNat (List.mem_range.2 (by omega)))
  rwa [Int.toNat_of_nonneg h0] at this
theorem or240 (y : Int) (h0 : 0 ≤ y) (h1 : y < 8) : Go.bits .or .u8 240 y = 240 + y := by
  have h : (List.range 8).all (fun n => decide (Go.bits .or .u8 240 (n : Int) = 240 + (n : Int))) = true := by decide +kernel
  have := of_decide_eq_true (List.all_eq_true.1 h y.toNat (List.mem_range.2 (by omega)))
  rwa [Int.toNat_of_nonneg h0] at this
theorem append_ev (m : Int) (h0 : 0 < m) (h1 : m ≤ 1114111) (h2 : ¬ (55296 ≤ m ∧ m ≤ 57343)) : Ev (fun k => utf8_AppendRune.f k ([] : List Int) m) (chr m) := by
  have hm : m % 4294967296 = m := by omega
  simp only [utf8_AppendRune.f, hm]
  unfold chr
  refine ev_ite (fun c => ?_) (fun c => ?_)
  · rw [if_pos (by omega : m < 128)]
    refine ev_pos (by simp) (ev_eq ?_)
    rw [List.nil_append, (by omega : m % 256 = m)]
  · rw [if_neg (by omega : ¬ m < 128)]
    refine ev_bind_some ?_
    simp only [utf8_appendRuneNonASCII.f, hm]
    refine ev_ite (fun c1 => ?_) (fun c1 => ?_)
    · rw [if_pos (by omega : m < 2048)]
      refine ev_bind ev_some (ev_pos (by simp) (ev_eq ?_))
      rw [List.nil_append, (by omega : m / 64 % 256 = m / 64), or192 _ (by omega) (by omega)]
    · rw [if_neg (by omega : ¬ m < 2048)]
      have j3 : m < 65536 → Ev (fun k => utf8_appendRuneNonASCII.j0 k ([] : List Int) m m true) [224 + m / 4096, 128 + m / 64 % 64, 128 + m % 64] := fun h => by
        refine ev_step ?_
        simp only [utf8_appendRuneNonASCII.j0]
        refine ev_pos trivial (ev_bind ev_some (ev_pos (by simp) (ev_eq ?_)))
        rw [List.nil_append, (by omega : m / 4096 % 256 = m / 4096), or224 _ (by omega) (by omega)]
      have j4 : 65535 < m → Ev (fun k => utf8_appendRuneNonASCII.j0 k ([] : List Int) m m false) [240 + m / 262144, 128 + m / 4096 % 64, 128 + m / 64 % 64, 128 + m % 64] := fun h => by
        refine ev_step ?_
        simp only [utf8_appendRuneNonASCII.j0]
        refine ev_neg (by decide) (ev_pos (by omega) (ev_pos (by omega) (ev_bind ev_some (ev_pos (by simp) (ev_eq ?_)))))
        rw [List.nil_append, (by omega : m / 262144 % 256 = m / 262144), or240 _ (by omega) (by omega)]
      refine ev_ite (fun c2 => ?_) (fun c2 => ?_)
      · rw [if_pos (by omega : m < 65536), decide_eq_true c2]
        exact j3 (by omega)
      · refine ev_pos (by omega) ?_
        by_cases c3 : m < 65536
        · rw [if_pos c3, decide_eq_true (by omega : m ≤ 65535)]
          exact j3 c3
        · rw [if_neg c3, decide_eq_false (by omega : ¬ m ≤ 65535)]
          exact j4 (by omega)
def real (n : Int) : Int := if n = 0 ∨ (55296 ≤ n ∧ n ≤ 57343) ∨ n > 1114111 then 65533 else n
theorem real_fine (n : Int) (h0 : 0 ≤ n) : 0 < real n ∧ real n ≤ 1114111 ∧ ¬ (55296 ≤ real n ∧ real n ≤ 57343) := by
  unfold real
  split <;> omega
theorem character_ev (n : Int) (h0 : 0 ≤ n) : Ev (fun k => token_character.f k n) (strOfNums (chr (real n))) := by
  have hl : Ev (fun k => utf8_AppendRune.f k ([] : List Int) 65533) (chr 65533) := append_ev 65533 (by decide) (by decide) (by decide)
  simp only [token_character.f]
  refine ev_ite (fun c => ?_) (fun c => ?_)
  · have e : real n = 65533 := by unfold real; rw [if_pos (Or.inl c)]
    rw [e]
    exact ev_bind hl ev_some
  · have j0 : ∀ b : Bool, (b = true ↔ 55296 ≤ n ∧ n ≤ 57343) → Ev (fun k => token_character.j0 k n b) (strOfNums (chr (real n))) := fun b hb => by
      refine ev_step ?_
      simp only [token_character.j0]
      refine ev_ite (fun c1 => ?_) (fun c1 => ?_)
      · have e : real n = 65533 := by unfold real; rw [if_pos (Or.inr (Or.inl (hb.1 c1)))]
        rw [e]
        exact ev_bind hl ev_some
      · refine ev_ite (fun c2 => ?_) (fun c2 => ?_)
        · have e : real n = 65533 := by unfold real; rw [if_pos (Or.inr (Or.inr c2))]
          rw [e]
          exact ev_bind hl ev_some
        · have e : real n = n := by
            unfold real
            rw [if_neg]
            rintro (h | h | h)
            · exact c h
            · exact c1 (hb.2 h)
            · exact c2 h
          have hr := real_fine n h0
          rw [e] at hr ⊢
          have ew : wrap32 n = n := by unfold wrap32; omega
          rw [ew]
          exact ev_bind (append_ev n hr.1 hr.2.1 hr.2.2) ev_some
    refine ev_ite (fun c1 => j0 _ ?_) (fun c1 => j0 _ ?_)
    · rw [decide_eq_true_eq]
      exact ⟨fun h => ⟨c1, h⟩, fun h => h.2⟩
    · constructor
      · intro h
        cases h
      · intro h
        exact absurd h.1 c1
/-- A character's bytes, as a list. -/
def chrL (n : Int) : List UInt8 := (strOfNums (chr (real n))).data.toList
theorem chrL_mk (n : Int) : mkB (chrL n) = strOfNums (chr (real n)) := mk_data _
theorem chrL_len (n : Int) : (chrL n).length ≤ 4 := by
  unfold chrL strOfNums chr
  simp only []
  split
  · simp
  · split
    · simp
    · split <;> simp

/-! ### An escape -/
def hd (g : UInt8 → Bool) : List UInt8 → Bool
  | [] => false
  | c :: _ => g c
/-- Hex digits at the beginning: their value, and how many there are. -/
def hx : Nat → List UInt8 → Int → Int × Nat
  | 0, _, n => (n, 0)
  | _ + 1, [], n => (n, 0)
  | d + 1, c :: L, n => if hexv c < 0 then (n, 0) else ((hx d L (n * 16 + hexv c)).1, (hx d L (n * 16 + hexv c)).2 + 1)
/-- An escape at the beginning: what it means, and how many bytes it has. -/
def escL : List UInt8 → Option (List UInt8 × Nat)
  | b :: c :: R => if b = 92 ∧ fd c = false then (if (hx 6 (c :: R) 0).2 = 0 then some ([c], 2) else some (chrL (hx 6 (c :: R) 0).1, (hx 6 (c :: R) 0).2 + 1 + if hd blnk ((c :: R).drop (hx 6 (c :: R) 0).2) = true then 1 else 0)) else none
  | _ => none
theorem hx_bd : ∀ (d : Nat) (L : List UInt8) (n : Int), 0 ≤ n → 0 ≤ (hx d L n).1 ∧ (hx d L n).2 ≤ d ∧ (hx d L n).2 ≤ L.length
  | 0, L, n, h => by
    simp only [hx]
    exact ⟨h, Nat.le_refl _, Nat.zero_le _⟩
  | d + 1, [], n, h => by
    simp only [hx]
    exact ⟨h, Nat.zero_le _, Nat.le_refl _⟩
  | d + 1, c :: L, n, h => by
    simp only [hx]
    split
    · exact ⟨h, Nat.zero_le _, Nat.zero_le _⟩
    · have h1 := (bytes c).2.2.2.2.2
      obtain ⟨a, b, e⟩ := hx_bd d L (n * 16 + hexv c) (by omega)
      refine ⟨a, Nat.succ_le_succ b, ?_⟩
      simp only [List.length_cons]
      omega
theorem hd_some {g : UInt8 → Bool} {L : List UInt8} (h : hd g L = true) : ∃ c R, L = c :: R ∧ g c = true := by
  cases L with
  | nil => cases h
  | cons c R => exact ⟨c, R, rfl, h⟩
theorem escL_bd {L : List UInt8} {r : List UInt8 × Nat} (h : escL L = some r) : 2 ≤ r.2 ∧ r.2 ≤ L.length ∧ r.1.length ≤ 4 := by
  match L, h with
  | b :: c :: R, h =>
    simp only [escL] at h
    obtain ⟨_, h2, h3⟩ := hx_bd 6 (c :: R) 0 (by decide)
    split at h
    · split at h
      · obtain rfl := Option.some.inj h
        simp
      · rename_i hk
        obtain rfl := Option.some.inj h
        refine ⟨by simp only []; omega, ?_, chrL_len _⟩
        simp only [List.length_cons] at h3 ⊢
        split
        · rename_i hb
          obtain ⟨x, X, hx1, _⟩ := hd_some hb
          have := congrArg List.length hx1
          simp only [List.length_drop, List.length_cons] at this
          omega
        · omega
    · cases h
section
variable {s : ByteArray} {p : Nat} {c : UInt8} {L R : List UInt8}
theorem j2_ev (hs : s.size ≤ 1000000) {b : UInt8} (h : Rs s p (b :: c :: R)) (n : Int) (hn : 0 ≤ n) (kk : Nat) (hk : kk ≤ (c :: R).length) (hk6 : kk ≤ 6) :
    Ev (fun k => token_Hex.j2 k s (p : Int) n (kk : Int)) (if kk = 0 then (mkB [c], (2 : Int)) else (mkB (chrL n), ((kk + 1 + if hd blnk ((c :: R).drop kk) = true then 1 else 0 : Nat) : Int))) := by
  have hl := h.len
  have hc := character_ev n hn
  rw [← chrL_mk] at hc
  have hl2 : p + ((c :: R).length + 1) = s.size := hl
  have e1 : wrap64 ((p : Int) + 1) = (p : Int) + 1 := w64 (by omega) (by omega)
  have e2 : wrap64 ((p : Int) + 2) = (p : Int) + 2 := w64 (by omega) (by omega)
  have e3 : wrap64 ((p : Int) + 1 + (kk : Int)) = ((p + 1 + kk : Nat) : Int) := by
    rw [w64 (by omega) (by omega)]
    omega
  have e4 : wrap64 (wrap64 (((p + 1 + kk : Nat) : Int) + 1) - (p : Int)) = ((kk + 2 : Nat) : Int) := by
    rw [w64 (x := ((p + 1 + kk : Nat) : Int) + 1) (by omega) (by omega), w64 (by omega) (by omega)]
    omega
  have e5 : wrap64 (((p + 1 + kk : Nat) : Int) - (p : Int)) = ((kk + 1 : Nat) : Int) := by
    rw [w64 (by omega) (by omega)]
    omega
  refine ev_step ?_
  simp only [token_Hex.j2, e1, e2, e3, e4, e5]
  by_cases c0 : kk = 0
  · subst c0
    rw [if_pos rfl]
    refine ev_pos rfl (ev_pos (by omega) (ev_pos (by omega) (ev_pos (by simp at hl2; omega) (ev_eq ?_))))
    have := h.tail.sub 1
    rw [show ((p : Int) + 1).toNat = p + 1 by omega, show ((p : Int) + 2).toNat = p + 1 + 1 by omega, this]
    rfl
  · rw [if_neg c0]
    refine ev_neg (by omega) ?_
    have hr : Rs s (p + 1 + kk) ((c :: R).drop kk) := h.tail.drop hk
    cases hq : (c :: R).drop kk with
    | nil =>
      rw [hq] at hr
      refine ev_neg (by have := hr.nil; omega) (ev_bind hc (ev_eq ?_))
      rfl
    | cons x X =>
      rw [hq] at hr
      refine ev_pos (by have := hr.lt; omega) (ev_pos (by omega) ?_)
      rw [hr.byte]
      refine ev_bindc (bytes x).2.1 ?_
      show Ev _ (mkB (chrL n), ((kk + 1 + if blnk x = true then 1 else 0 : Nat) : Int))
      by_cases hb : blnk x = true
      · rw [if_pos hb]
        exact ev_pos hb (ev_bind hc (ev_eq rfl))
      · rw [if_neg hb]
        exact ev_neg hb (ev_bind hc (ev_eq rfl))
theorem drop_add {α : Type} {l r : List α} {x : α} {n : Nat} (h : l.drop n = x :: r) : l.drop (n + 1) = r := by
  rw [← List.drop_drop, h]
  rfl
theorem l0_ev (hs : s.size ≤ 1000000) {b : UInt8} (h : Rs s p (b :: c :: R)) : ∀ (d kk : Nat) (n : Int), kk + d = 6 → kk ≤ (c :: R).length → 0 ≤ n → (n + 1) * 16 ^ d ≤ 16 ^ 6 →
    ∀ t : Int × Nat, t = hx d ((c :: R).drop kk) n →
    Ev (fun k => token_Hex.l0 k s (p : Int) n (kk : Int) (kk : Int)) (if kk + t.2 = 0 then (mkB [c], (2 : Int)) else (mkB (chrL t.1), ((kk + t.2 + 1 + if hd blnk ((c :: R).drop (kk + t.2)) = true then 1 else 0 : Nat) : Int))) := by
  intro d
  induction d with
  | zero =>
    intro kk n hd hk hn hb t ht
    simp only [hx] at ht
    subst ht
    refine ev_step ?_
    simp only [token_Hex.l0]
    exact ev_neg (by omega) (j2_ev hs h n hn kk hk (by omega))
  | succ d ih =>
    intro kk n hd hk hn hb t ht
    have HB := Aside0.mk hb
    clear hb
    have hk6 : kk ≤ 6 := Nat.le.intro hd
    have hl := h.len
    have hl2 : p + ((c :: R).length + 1) = s.size := hl
    have e1 : wrap64 ((p : Int) + 1) = (p : Int) + 1 := w64 (by omega) (by omega)
    have e3 : wrap64 ((p : Int) + 1 + (kk : Int)) = ((p + 1 + kk : Nat) : Int) := by
      rw [w64 (by omega) (by omega)]
      omega
    have e7 : wrap64 ((kk : Int) + 1) = ((kk + 1 : Nat) : Int) := by
      rw [w64 (by omega) (by omega)]
      omega
    have hr : Rs s (p + 1 + kk) ((c :: R).drop kk) := h.tail.drop hk
    have hj := j2_ev hs h n hn kk hk hk6
    refine ev_step ?_
    simp only [token_Hex.l0, e1, e3, e7]
    cases hq : (c :: R).drop kk with
    | nil =>
      rw [hq] at hr ht
      simp only [hx] at ht
      subst ht
      exact ev_pos (by omega) (ev_pos (by have := hr.nil; omega) hj)
    | cons x X =>
      rw [hq] at hr ht
      obtain ⟨_, _, _, _, hv, hv0, hv1⟩ := bytes x
      have hlt := hr.lt
      simp only [hx] at ht
      rw [hr.byte]
      refine ev_pos (by omega) (ev_neg (by omega) (ev_pos (by omega) (ev_pos (by omega) (ev_bind hv ?_))))
      by_cases c2 : hexv x < 0
      · rw [if_pos c2] at ht
        subst ht
        exact ev_pos c2 hj
      · rw [if_neg c2] at ht
        have hq2 := drop_add hq
        have hlk : kk + 1 ≤ (c :: R).length := by
          have := congrArg List.length hq
          simp only [List.length_drop, List.length_cons] at this ⊢
          omega
        have hq3 : (16 : Int) ^ (d + 1) = 16 * 16 ^ d := by rw [Int.pow_succ, Int.mul_comm]
        have hp : 0 < (16 : Int) ^ d := Int.pow_pos (by decide)
        have hb' : (n * 16 + hexv x + 1) * 16 ^ d ≤ 16 ^ 6 := by
          refine Int.le_trans ?_ HB.out
          rw [hq3, ← Int.mul_assoc]
          exact Int.mul_le_mul_of_nonneg_right (by omega) (Int.le_of_lt hp)
        have hlim : n * 16 + hexv x + 1 ≤ 16 ^ 6 := by
          refine Int.le_trans ?_ hb'
          have h3 : (n * 16 + hexv x + 1) * 1 ≤ (n * 16 + hexv x + 1) * 16 ^ d := Int.mul_le_mul_of_nonneg_left (by omega) (by omega)
          rwa [Int.mul_one] at h3
        have hlim' : n * 16 + hexv x + 1 ≤ 16777216 := hlim
        have e8 : wrap64 (wrap64 (n * 16) + hexv x) = n * 16 + hexv x := by rw [w64 (x := n * 16) (by omega) (by omega), w64 (by omega) (by omega)]
        have hi := ih (kk + 1) (n * 16 + hexv x) (by omega) hlk (by omega) hb' _ (by rw [hq2])
        refine ev_neg c2 (ev_bind hv ?_)
        rw [e8]
        have ea : kk + t.2 = kk + 1 + (hx d X (n * 16 + hexv x)).2 := by
          rw [ht]
          simp only []
          omega
        rw [ea, ht]
        exact hi
theorem hex_ev (hs : s.size ≤ 1000000) (h : Rs s p L) : Ev (fun k => token_Hex.f k s (p : Int)) (match escL L with | some r => (mkB r.1, (r.2 : Int)) | none => (mkB [], 0)) := by
  have hl := h.len
  have e0 : wrap64 ((s.size : Int) - 2) = (s.size : Int) - 2 := w64 (by omega) (by omega)
  have e1 : wrap64 ((p : Int) + 1) = ((p + 1 : Nat) : Int) := by
    rw [w64 (by omega) (by omega)]
    omega
  have jt : Ev (fun k => token_Hex.j0 k s (p : Int) true) (mkB [], (0 : Int)) := ev_step (by simp only [token_Hex.j0]; exact ev_pos (by trivial) ev_some)
  simp only [token_Hex.f, e0, e1]
  refine ev_neg (by omega) ?_
  match L, h with
  | [], h =>
    simp only [escL]
    exact ev_pos (by simp at hl; omega) jt
  | [b], h =>
    simp only [escL]
    exact ev_pos (by simp at hl; omega) jt
  | b :: c :: R, h =>
    simp only [List.length_cons] at hl
    refine ev_neg (by omega) (ev_pos (by omega) (ev_pos (by omega) ?_))
    rw [h.byte, h.tail.byte]
    simp only [escL]
    by_cases hb : b = 92
    · subst hb
      refine ev_pos rfl (ev_pos (by omega) (ev_pos (by omega) (ev_bindc (bytes c).2.2.1 (ev_step ?_))))
      simp only [token_Hex.j0]
      by_cases hf : fd c = true
      · rw [if_neg (by rw [hf]; simp)]
        exact ev_pos hf ev_some
      · have hf' : fd c = false := by simpa using hf
        rw [if_pos (show True ∧ fd c = false from ⟨trivial, hf'⟩)]
        refine ev_neg hf ?_
        have := l0_ev hs h 6 0 0 (by decide) (Nat.zero_le _) (by decide) (by decide) _ rfl
        simp only [Nat.zero_add, List.drop_zero] at this
        refine ev_cast this ?_
        by_cases hz : (hx 6 (c :: R) 0).2 = 0
        · rw [if_pos hz, if_pos hz]
          rfl
        · rw [if_neg hz, if_neg hz]
    · rw [if_neg (by simp [hb])]
      refine ev_neg ?_ jt
      intro e
      exact hb (UInt8.toNat_inj.1 (by have : (b.toNat : Int) = 92 := e; show b.toNat = 92; omega))
end
end Go.Proofs.Ytholgbdfflabhaa.Tkl
end
section
/- The lexer as a function of the bytes that are left, second part: identifiers, quoted texts, blanks, words, all words. Conditions: texts of at most 1000000 bytes (all words: 60000). -/
namespace Go.Proofs.Ytholgbdfflabhaa.Tkl
open Go.RowKit Go.Proofs.YtholgbdfflabhaaW.PrintWords Go.Proofs.YtholgbdfflabhaaW.PrintMore Go.Proofs.Ytholgbdfflabhaa.Evs Go.Proofs.Ytholgbdfflabhaa.Opn Go.Proofs.Ytholgbdfflabhaa.PTk Go.Proofs.Ytholgbdfflabhaa.Giv

/-- An escape whose second byte is not 0. -/
def escZ (L : List UInt8) : Option (List UInt8 × Nat) := match escL L with
  | some r => if hd (fun c => c != 0) (L.drop 1) = true then some r else none
  | none => none
theorem escZ_some {L : List UInt8} {r : List UInt8 × Nat} (h : escZ L = some r) : escL L = some r ∧ hd (fun c => c != 0) (L.drop 1) = true := by
  unfold escZ at h
  split at h
  · rename_i r' e
    split at h
    · rename_i h0
      rw [e, Option.some.inj h]
      exact ⟨rfl, h0⟩
    · cases h
  · cases h
theorem escZ_bd {L : List UInt8} {r : List UInt8 × Nat} (h : escZ L = some r) : 2 ≤ r.2 ∧ r.2 ≤ L.length ∧ r.1.length ≤ 4 := escL_bd (escZ_some h).1
def begL (L : List UInt8) : Bool := if hd (fun c => c == 45) L = true then (hd (fun c => c == 45) (L.drop 1) || (hd lett (L.drop 1) || (escZ (L.drop 1)).isSome)) else (hd lett L || (escZ L).isSome)
/-- An identifier: what it means, how many bytes it has. -/
def idL : Nat → List UInt8 → List UInt8 × Nat
  | 0, _ => ([], 0)
  | n + 1, L => if hd inn L = true then (L.take 1 ++ (idL n (L.drop 1)).1, (idL n (L.drop 1)).2 + 1) else match escZ L with
    | some r => (r.1 ++ (idL n (L.drop r.2)).1, r.2 + (idL n (L.drop r.2)).2)
    | none => ([], 0)
/-- A quoted text behind its first sign: what it means, how many bytes it has. -/
def qL : Nat → Int → List UInt8 → Option (List UInt8 × Nat)
  | 0, _, _ => none
  | _ + 1, _, [] => none
  | n + 1, e, c :: R => if (c.toNat : Int) = e then some ([], 1) else if fd c = true then none else if c = 0 then none else if c = 92 then
      (match escZ (c :: R) with
      | some r => (qL n e ((c :: R).drop r.2)).map fun q => (r.1 ++ q.1, r.2 + q.2)
      | none => if hd fd R = true then (qL n e ((c :: R).drop (if hd (fun x => x == 13) R && hd (fun x => x == 10) (R.drop 1) then 3 else 2))).map fun q => (q.1, (if hd (fun x => x == 13) R && hd (fun x => x == 10) (R.drop 1) then 3 else 2) + q.2) else none)
    else (qL n e R).map fun q => (c :: q.1, q.2 + 1)
def isCom : List UInt8 → Bool
  | b :: c :: _ => b == 47 && c == 42
  | _ => false
/-- Blanks and comments: where they end; or where a comment begins that does not end. -/
def skL : Nat → List UInt8 → Nat × Bool
  | 0, _ => (0, true)
  | _ + 1, [] => (0, true)
  | n + 1, c :: R => if blnk c = true then ((skL n R).1 + 1, (skL n R).2) else if isCom (c :: R) = true then
      (if Lib.index ((c :: R).drop 2) [42, 47] < 0 then (0, false) else ((Lib.index ((c :: R).drop 2) [42, 47]).toNat + 4 + (skL n ((c :: R).drop ((Lib.index ((c :: R).drop 2) [42, 47]).toNat + 4))).1, (skL n ((c :: R).drop ((Lib.index ((c :: R).drop 2) [42, 47]).toNat + 4))).2)) else (0, true)
/-- A number's bytes. -/
def scn (L : List UInt8) : Nat := if number_parts.w1 (mkB L) = number_parts.w0 (mkB L) ∧ number_parts.at2 (mkB L) = number_parts.w1 (mkB L) then 0 else if number_parts.hasE (mkB L) = true then number_parts.x1 (mkB L) else number_parts.at2 (mkB L)
def sgnV (c : UInt8) : Int := (strings_IndexByte.f (⟨#[44, 47, 58, 59, 123, 125, 91, 93, 40, 41]⟩ : ByteArray) (c.toNat : Int)).getD (-1)
abbrev idl (L : List UInt8) := idL L.length L
abbrev ql (e : Int) (L : List UInt8) := qL L.length e L
abbrev skl (L : List UInt8) := skL L.length L
abbrev W : Type := Int × Int × ByteArray × ByteArray × Nat
def err (e : Int) : W := (e, 0, mkB [], mkB [], 0)
def wNum (n : Nat) (t M : List UInt8) : W := if hd (fun c => c == 37) M = true then (0, 4, mkB [], mkB t, n + 1) else if begL M = true then (if (idl M).1.length ≤ 64 then (0, 5, mkB (idl M).1, mkB t, n + (idl M).2) else err 52) else (0, 3, mkB [], mkB t, n)
def wId (L : List UInt8) : W := if (idl L).1.length ≤ 64 then (if hd (fun c => c == 40) (L.drop (idl L).2) = true then (0, 2, mkB (idl L).1, mkB [], (idl L).2 + 1) else (0, 1, mkB (idl L).1, mkB [], (idl L).2)) else err 52
def wRest : List UInt8 → W
  | [] => err 30
  | c :: R => if (c.toNat : Int) = 34 ∨ (c.toNat : Int) = 39 then (match ql (c.toNat : Int) R with
    | none => err 30
    | some t => if t.1.length ≤ 8192 then (0, 6, mkB t.1, mkB [], t.2 + 1) else err 52) else if sgnV c ≥ 0 then (0, 7, mkB [c], mkB [], 1) else err 30
/-- A word, or its error. -/
def wL (L : List UInt8) : W := if scn L > 0 then wNum (scn L) (L.take (scn L)) (L.drop (scn L)) else if begL L = true then wId L else wRest L
def put (p : Nat) (w : W) : W := (w.1, w.2.1, w.2.2.1, w.2.2.2.1, if w.1 = 0 then p + w.2.2.2.2 else 0)

theorem hd_len {g : UInt8 → Bool} {L : List UInt8} (h : hd g L = true) : 1 ≤ L.length := by
  obtain ⟨c, R, rfl, _⟩ := hd_some h
  simp
theorem idL_bd : ∀ (n : Nat) (L : List UInt8), (idL n L).2 ≤ L.length ∧ (idL n L).1.length ≤ 4 * L.length
  | 0, L => by simp [idL]
  | n + 1, L => by
    simp only [idL]
    split
    · rename_i h
      have h1 := hd_len h
      obtain ⟨a, b⟩ := idL_bd n (L.drop 1)
      simp only [List.length_drop, List.length_append, List.length_take] at a b ⊢
      omega
    · split
      · rename_i r e
        obtain ⟨b1, b2, b3⟩ := escZ_bd e
        obtain ⟨a, b⟩ := idL_bd n (L.drop r.2)
        simp only [List.length_drop, List.length_append] at a b ⊢
        omega
      · simp
theorem idL_fuel : ∀ (n m : Nat) (L : List UInt8), L.length ≤ n → L.length ≤ m → idL n L = idL m L
  | 0, m, L, hn, hm => by
    obtain rfl : L = [] := List.eq_nil_of_length_eq_zero (by omega)
    cases m with
    | zero => rfl
    | succ m => rfl
  | n + 1, 0, L, hn, hm => by
    obtain rfl : L = [] := List.eq_nil_of_length_eq_zero (by omega)
    rfl
  | n + 1, m + 1, L, hn, hm => by
    simp only [idL]
    split
    · rename_i h
      have h1 := hd_len h
      rw [idL_fuel n m (L.drop 1) (by simp; omega) (by simp; omega)]
    · split
      · rename_i r e
        obtain ⟨b1, b2, b3⟩ := escZ_bd e
        rw [idL_fuel n m (L.drop r.2) (by simp; omega) (by simp; omega)]
      · rfl
theorem index_bd {L : List UInt8} (h : ¬ Lib.index L [42, 47] < 0) : (Lib.index L [42, 47]).toNat + 2 ≤ L.length := by
  induction L with
  | nil =>
    simp [Lib.index] at h
  | cons c R ih =>
    have hg := Lib.index_ge R [42, 47]
    unfold Lib.index at h ⊢
    split
    · rename_i hp
      obtain ⟨t, ht⟩ := List.isPrefixOf_iff_prefix.1 hp
      have := congrArg List.length ht
      simp only [List.length_append, List.length_cons, List.length_nil] at this
      simp only [List.length_cons]
      show (0 : Int).toNat + 2 ≤ _
      omega
    · rename_i hp
      rw [if_neg hp] at h
      split
      · rename_i h1
        rw [if_pos h1] at h
        exact absurd (by decide) h
      · rename_i h1
        rw [if_neg h1] at h
        have h2 : ¬ Lib.index R [42, 47] = -1 := by simpa using h1
        have := ih (by omega)
        simp only [List.length_cons]
        omega
theorem com_len {L : List UInt8} (h : isCom L = true) : 2 ≤ L.length := by
  match L, h with
  | b :: c :: R, _ => simp
theorem skL_bd : ∀ (n : Nat) (L : List UInt8), (skL n L).1 ≤ L.length
  | 0, L => by simp [skL]
  | n + 1, [] => by simp [skL]
  | n + 1, c :: R => by
    simp only [skL]
    split
    · have := skL_bd n R
      simp only [List.length_cons]
      omega
    · split
      · rename_i hc
        split
        · simp
        · rename_i hi
          have h1 := index_bd hi
          have h2 := skL_bd n ((c :: R).drop ((Lib.index ((c :: R).drop 2) [42, 47]).toNat + 4))
          have h3 := com_len hc
          generalize (Lib.index ((c :: R).drop 2) [42, 47]).toNat = q at h1 h2 ⊢
          rw [List.length_drop] at h1 h2
          show q + 4 + _ ≤ _
          omega
      · simp
theorem skL_fuel : ∀ (n m : Nat) (L : List UInt8), L.length ≤ n → L.length ≤ m → skL n L = skL m L
  | 0, m, L, hn, hm => by
    obtain rfl : L = [] := List.eq_nil_of_length_eq_zero (by omega)
    cases m with
    | zero => rfl
    | succ m => rfl
  | n + 1, 0, L, hn, hm => by
    obtain rfl : L = [] := List.eq_nil_of_length_eq_zero (by omega)
    rfl
  | n + 1, m + 1, [], hn, hm => rfl
  | n + 1, m + 1, c :: R, hn, hm => by
    simp only [List.length_cons] at hn hm
    simp only [skL]
    rw [skL_fuel n m R (by omega) (by omega), skL_fuel n m ((c :: R).drop _) (by rw [List.length_drop]; simp only [List.length_cons]; omega) (by rw [List.length_drop]; simp only [List.length_cons]; omega)]
theorem qL_bd : ∀ (n : Nat) (e : Int) (L : List UInt8) (q : List UInt8 × Nat), qL n e L = some q → 1 ≤ q.2 ∧ q.2 ≤ L.length ∧ q.1.length ≤ 4 * L.length
  | 0, e, L, q, h => by simp [qL] at h
  | n + 1, e, [], q, h => by simp [qL] at h
  | n + 1, e, c :: R, q, h => by
    simp only [qL] at h
    split at h
    · obtain rfl := Option.some.inj h
      simp
    · split at h
      · cases h
      · split at h
        · cases h
        · split at h
          · split at h
            · rename_i r hr
              obtain ⟨q', hq, rfl⟩ := Option.map_eq_some_iff.1 h
              obtain ⟨a, b, d⟩ := qL_bd n e _ _ hq
              obtain ⟨b1, b2, b3⟩ := escZ_bd hr
              simp only [List.length_drop, List.length_append] at a b d ⊢
              omega
            · split at h
              · rename_i hf
                obtain ⟨q', hq, rfl⟩ := Option.map_eq_some_iff.1 h
                obtain ⟨a, b, d⟩ := qL_bd n e _ _ hq
                have hl := hd_len hf
                simp only [List.length_drop, List.length_cons] at a b d ⊢
                split
                · rename_i h3
                  rw [if_pos h3] at b d
                  simp only [Bool.and_eq_true] at h3
                  have := hd_len h3.2
                  simp only [List.length_drop] at this
                  omega
                · rename_i h3
                  rw [if_neg h3] at b d
                  omega
              · cases h
          · obtain ⟨q', hq, rfl⟩ := Option.map_eq_some_iff.1 h
            obtain ⟨a, b, d⟩ := qL_bd n e _ _ hq
            simp only [List.length_cons] at a b d ⊢
            omega

section
variable {s : ByteArray} {p : Nat} {c : UInt8} {L R : List UInt8}
theorem is_hd {f : Int → Option Bool} {g : UInt8 → Bool} (hg : ∀ c : UInt8, f (c.toNat : Int) = some (g c)) (h : Rs s p L) : isF f s p = some (hd g L) := by
  unfold isF
  cases L with
  | nil =>
    rw [if_neg (by have := h.nil; omega)]
    rfl
  | cons c R =>
    rw [if_pos h.lt, h.byte, hg]
    rfl
theorem is_out {f : Int → Option Bool} (h : s.size ≤ p) : isF f s p = some false := by
  unfold isF
  rw [if_neg (by omega)]
theorem Rs.drop1 (h : Rs s p L) (h1 : 1 ≤ L.length) : Rs s (p + 1) (L.drop 1) := h.drop h1
theorem is_hd1 {f : Int → Option Bool} {g : UInt8 → Bool} (hg : ∀ c : UInt8, f (c.toNat : Int) = some (g c)) (h : Rs s p L) : isF f s (p + 1) = some (hd g (L.drop 1)) := by
  cases L with
  | nil =>
    rw [is_out (by have := h.nil; omega)]
    rfl
  | cons c R => exact is_hd hg h.tail
theorem g_min (c : UInt8) : token_lexer_begins_1.f (c.toNat : Int) = some (c == 45) := by
  unfold token_lexer_begins_1.f
  refine congrArg some ?_
  rw [Bool.eq_iff_iff, beq_iff_eq, beq_iff_eq]
  exact ⟨fun e => UInt8.toNat_inj.1 (by show c.toNat = 45; omega), fun e => by rw [e]; rfl⟩
theorem g_pct (c : UInt8) : token_lexer_word_1.f (c.toNat : Int) = some (c == 37) := by
  unfold token_lexer_word_1.f
  refine congrArg some ?_
  rw [Bool.eq_iff_iff, beq_iff_eq, beq_iff_eq]
  exact ⟨fun e => UInt8.toNat_inj.1 (by show c.toNat = 37; omega), fun e => by rw [e]; rfl⟩
theorem g_par (c : UInt8) : token_lexer_word_2.f (c.toNat : Int) = some (c == 40) := by
  unfold token_lexer_word_2.f
  refine congrArg some ?_
  rw [Bool.eq_iff_iff, beq_iff_eq, beq_iff_eq]
  exact ⟨fun e => UInt8.toNat_inj.1 (by show c.toNat = 40; omega), fun e => by rw [e]; rfl⟩
theorem g_lf (c : UInt8) : token_lexer_quoted_1.f (c.toNat : Int) = some (c == 10) := by
  unfold token_lexer_quoted_1.f
  refine congrArg some ?_
  rw [Bool.eq_iff_iff, beq_iff_eq, beq_iff_eq]
  exact ⟨fun e => UInt8.toNat_inj.1 (by show c.toNat = 10; omega), fun e => by rw [e]; rfl⟩
theorem num_eq {c : UInt8} {n : Nat} (hn : n < 256) : (c.toNat : Int) = (n : Int) ↔ c = UInt8.ofNat n := by
  constructor
  · intro e
    apply UInt8.toNat_inj.1
    simp [Nat.mod_eq_of_lt hn]
    omega
  · rintro rfl
    simp [Nat.mod_eq_of_lt hn]
theorem esc_ev (hs : s.size ≤ 1000000) (h : Rs s p L) : Ev (fun k => escF k s p) (escZ L).isSome := by
  have hx := hex_ev hs h
  unfold escF escZ
  cases he : escL L with
  | none =>
    rw [he] at hx
    exact ev_bind hx (ev_neg (by decide) ev_some)
  | some r =>
    rw [he] at hx
    obtain ⟨b1, b2, b3⟩ := escL_bd he
    match L, h, b2 with
    | b :: c :: R, h, b2 =>
      have h1 : Rs s (p + 1) (c :: R) := h.tail
      refine ev_bind hx (ev_pos (by show (r.2 : Int) > 0; omega) (ev_pos h1.lt (ev_eq ?_)))
      rw [h1.byte]
      show ((c.toNat : Int) != 0) = (if (c != 0) = true then some r else none).isSome
      by_cases h0 : c = 0
      · subst h0
        rfl
      · have e1 : (c != 0) = true := by simpa using h0
        have e2 : ((c.toNat : Int) != 0) = true := by
          rw [bne_iff_ne]
          intro e
          exact h0 (UInt8.toNat_inj.1 (by show c.toNat = 0; omega))
        rw [e1, e2]
        rfl
    | [b], h, b2 => simp at b2; omega
    | [], h, b2 => simp at b2; omega
theorem hexZ (hs : s.size ≤ 1000000) (h : Rs s p L) {r : List UInt8 × Nat} (hr : escZ L = some r) : Ev (fun k => token_Hex.f k s (p : Int)) (mkB r.1, (r.2 : Int)) := by
  have hx := hex_ev hs h
  rw [(escZ_some hr).1] at hx
  exact hx
theorem beg_ev (hs : s.size ≤ 1000000) (h : Rs s p L) : Ev (fun k => begF k s p) (begL L) := by
  unfold begF begL
  refine ev_bindc (is_hd g_min h) (ev_ite (fun c1 => ?_) (fun c1 => ?_))
  · rw [if_pos c1]
    have hr := h.drop1 (hd_len c1)
    refine ev_bindc (is_hd1 g_min h) (ev_ite (fun c2 => ?_) (fun c2 => ?_))
    · rw [c2]
      exact ev_some
    · rw [Bool.eq_false_iff.2 c2]
      refine ev_bindc (is_hd1 (fun c => (bytes c).1) h) (ev_ite (fun c3 => ?_) (fun c3 => ?_))
      · rw [c3]
        exact ev_some
      · rw [Bool.eq_false_iff.2 c3]
        exact esc_ev hs hr
  · rw [if_neg c1]
    refine ev_bindc (is_hd (fun c => (bytes c).1) h) (ev_ite (fun c3 => ?_) (fun c3 => ?_))
    · rw [c3]
      exact ev_some
    · rw [Bool.eq_false_iff.2 c3]
      exact esc_ev hs h
theorem byteAt_hd (h : Rs s p (c :: R)) : byteAt s p = c := by
  unfold byteAt
  rw [h.byte]
  simp
theorem id_ev (hs : s.size ≤ 1000000) : ∀ (n : Nat) (L : List UInt8) (p : Nat) (acc : List UInt8), L.length ≤ n → Rs s p L → acc.length + 4 * L.length ≤ 10000000 → Ev (fun k => identF k s p acc) (acc ++ (idL n L).1, p + (idL n L).2) := by
  intro n
  induction n with
  | zero =>
    intro L p acc hn h ha
    obtain rfl : L = [] := List.eq_nil_of_length_eq_zero (by omega)
    refine ev_step ?_
    simp only [identF]
    refine ev_bindc (is_hd (fun c => (bytes c).2.2.2.1) h) (ev_neg (by decide) (ev_bind (esc_ev hs h) (ev_neg (by decide) (ev_eq ?_))))
    simp [idL]
  | succ n ih =>
    intro L p acc hn h ha
    refine ev_step ?_
    simp only [identF, idL]
    refine ev_bindc (is_hd (fun c => (bytes c).2.2.2.1) h) (ev_ite (fun c1 => ?_) (fun c1 => ?_))
    · rw [if_pos c1]
      obtain ⟨c, R, rfl, hc⟩ := hd_some c1
      simp only [List.length_cons] at hn ha
      refine ev_pos h.lt (ev_pos (by omega) ?_)
      rw [byteAt_hd h]
      have := ih R (p + 1) (acc ++ [c]) (by omega) h.tail (by simp; omega)
      refine ev_cast this ?_
      simp
      omega
    · rw [if_neg c1]
      cases he : escZ L with
      | none =>
        have := esc_ev hs h
        rw [he] at this
        refine ev_bind this (ev_neg (by decide) (ev_eq ?_))
        simp
      | some r =>
        have := esc_ev hs h
        rw [he] at this
        obtain ⟨b1, b2, b3⟩ := escZ_bd he
        have hl := h.len
        refine ev_bind this (ev_pos rfl (ev_bind (hexZ hs h he) (ev_pos (by show (0 : Int) ≤ (r.2 : Int); omega) (ev_pos (by show p + (r.2 : Int).toNat ≤ _; omega) (ev_pos (by rw [mk_size]; omega) ?_)))))
        have hi := ih (L.drop r.2) (p + r.2) (acc ++ r.1) (by rw [List.length_drop]; omega) (h.drop b2) (by simp only [List.length_append, List.length_drop]; omega)
        refine ev_cast (r := (acc ++ (r.1 ++ (idL n (L.drop r.2)).1), p + (r.2 + (idL n (L.drop r.2)).2))) ?_ rfl
        rw [show ((mkB r.1, (r.2 : Int)).2).toNat = r.2 by simp]
        refine ev_cast hi ?_
        simp only [List.append_assoc, Nat.add_assoc]
theorem q_ev (hs : s.size ≤ 1000000) (e : Int) : ∀ (n : Nat) (L : List UInt8) (p : Nat) (acc : List UInt8), L.length ≤ n → Rs s p L → acc.length + 4 * L.length ≤ 10000000 → Ev (fun k => quotE k s p acc e) ((qL n e L).map fun q => (acc ++ q.1, p + q.2)) := by
  intro n
  induction n with
  | zero =>
    intro L p acc hn h ha
    obtain rfl : L = [] := List.eq_nil_of_length_eq_zero (by omega)
    refine ev_step ?_
    simp only [quotE, qL]
    exact ev_neg (by have := h.nil; omega) ev_some
  | succ n ih =>
    intro L p acc hn h ha
    refine ev_step ?_
    simp only [quotE]
    cases L with
    | nil =>
      simp only [qL]
      exact ev_neg (by have := h.nil; omega) ev_some
    | cons c R =>
      have hl := h.len
      simp only [List.length_cons] at hn ha hl
      simp only [qL]
      refine ev_pos h.lt ?_
      rw [h.byte]
      refine ev_ite (fun c1 => ?_) (fun c1 => ?_)
      · rw [if_pos c1]
        exact ev_eq (by simp)
      · rw [if_neg c1]
        refine ev_bindc (bytes c).2.2.1 (ev_ite (fun c2 => ?_) (fun c2 => ?_))
        · rw [if_pos c2]
          exact ev_some
        · rw [if_neg c2]
          have e0 : ((c.toNat : Int) = 0) ↔ c = 0 := num_eq (n := 0) (by decide)
          have e92 : ((c.toNat : Int) = 92) ↔ c = 92 := num_eq (n := 92) (by decide)
          refine ev_ite (fun c3 => ?_) (fun c3 => ?_)
          · rw [if_pos (e0.1 c3)]
            exact ev_some
          · rw [if_neg (fun q => c3 (e0.2 q))]
            refine ev_ite (fun c4 => ?_) (fun c4 => ?_)
            · rw [if_pos (e92.1 c4)]
              cases he : escZ (c :: R) with
              | some r =>
                have hz := esc_ev hs h
                rw [he] at hz
                obtain ⟨b1, b2, b3⟩ := escZ_bd he
                simp only [List.length_cons] at b2
                refine ev_bind hz (ev_pos rfl (ev_bind (hexZ hs h he) (ev_pos (by show (0 : Int) ≤ (r.2 : Int); omega) (ev_pos (by show p + (r.2 : Int).toNat ≤ _; omega) (ev_pos (by rw [mk_size]; omega) ?_)))))
                have hi := ih ((c :: R).drop r.2) (p + r.2) (acc ++ r.1) (by rw [List.length_drop]; simp only [List.length_cons]; omega) (h.drop (by simp only [List.length_cons]; omega)) (by simp only [List.length_append, List.length_drop, List.length_cons]; omega)
                rw [show ((mkB r.1, (r.2 : Int)).2).toNat = r.2 by simp]
                refine ev_cast hi ?_
                rw [Option.map_map]
                refine congrFun (congrArg _ (funext fun q => ?_)) _
                simp only [Function.comp, List.append_assoc, Nat.add_assoc]
              | none =>
                have hz := esc_ev hs h
                rw [he] at hz
                refine ev_bind hz (ev_neg (by decide) (ev_bindc (is_hd (fun c => (bytes c).2.2.1) h.tail) (ev_ite (fun c5 => ?_) (fun c5 => ?_))))
                · simp only [if_pos c5]
                  obtain ⟨x, X, rfl, hx⟩ := hd_some c5
                  simp only [List.length_cons] at hn ha hl
                  have ht : Rs s (p + 1) (x :: X) := h.tail
                  have ht2 : Rs s (p + 2) X := ht.tail
                  refine ev_pos (by omega) ?_
                  rw [ht.byte]
                  have e13 : ((x.toNat : Int) = 13) ↔ x = 13 := num_eq (n := 13) (by decide)
                  have two : (hd (fun x => x == 13) (x :: X) && hd (fun x => x == 10) ((x :: X).drop 1)) = false → Ev (fun k => quotE k s (p + 2) acc e) ((qL n e ((c :: x :: X).drop (if (hd (fun x => x == 13) (x :: X) && hd (fun x => x == 10) ((x :: X).drop 1)) = true then 3 else 2))).map fun q => (acc ++ q.1, p + ((if (hd (fun x => x == 13) (x :: X) && hd (fun x => x == 10) ((x :: X).drop 1)) = true then 3 else 2) + q.2))) := fun hf => by
                    rw [hf]
                    have := ih X (p + 2) acc (by omega) ht2 (by omega)
                    refine ev_cast this ?_
                    refine congrFun (congrArg _ (funext fun q => ?_)) _
                    simp [Nat.add_assoc]
                  have fin : ∀ {f : Nat → Option (Option (List UInt8 × Nat))}, Ev f ((qL n e ((c :: x :: X).drop (if (hd (fun x => x == 13) (x :: X) && hd (fun x => x == 10) ((x :: X).drop 1)) = true then 3 else 2))).map fun q => (acc ++ q.1, p + ((if (hd (fun x => x == 13) (x :: X) && hd (fun x => x == 10) ((x :: X).drop 1)) = true then 3 else 2) + q.2))) → Ev f (((qL n e ((c :: x :: X).drop (if (hd (fun x => x == 13) (x :: X) && hd (fun x => x == 10) ((x :: X).drop 1)) = true then 3 else 2))).map fun q => (q.1, (if (hd (fun x => x == 13) (x :: X) && hd (fun x => x == 10) ((x :: X).drop 1)) = true then 3 else 2) + q.2)).map fun q => (acc ++ q.1, p + q.2)) := fun hf => by
                    rw [Option.map_map]
                    exact hf
                  refine fin ?_
                  refine ev_ite (fun c6 => ?_) (fun c6 => ?_)
                  · have h13 : hd (fun x => x == 13) (x :: X) = true := by
                      rw [e13.1 c6]
                      rfl
                    refine ev_bindc (is_hd g_lf ht2) (ev_ite (fun c7 => ?_) (fun c7 => ?_))
                    · have h10 : hd (fun x => x == 10) ((x :: X).drop 1) = true := c7
                      have hl1 := hd_len c7
                      have hall : (hd (fun x => x == 13) (x :: X) && hd (fun x => x == 10) ((x :: X).drop 1)) = true := by
                        rw [h13, h10]
                        rfl
                      refine ev_pos (by omega) ?_
                      rw [if_pos hall]
                      have := ih (X.drop 1) (p + 3) acc (by rw [List.length_drop]; omega) (ht2.drop1 hl1) (by rw [List.length_drop]; omega)
                      refine ev_cast this ?_
                      refine congrFun (congrArg _ (funext fun q => ?_)) _
                      simp [Nat.add_assoc]
                    · exact two (by
                        rw [h13]
                        exact Bool.eq_false_iff.2 c7)
                  · refine two ?_
                    have : hd (fun x => x == 13) (x :: X) = false := by
                      show (x == 13) = false
                      rw [beq_eq_false_iff_ne]
                      exact fun q => c6 (e13.2 q)
                    rw [this]
                    rfl
                · simp only [if_neg c5]
                  exact ev_some
            · rw [if_neg (fun q => c4 (e92.2 q))]
              refine ev_pos (by omega) ?_
              rw [byteAt_hd h]
              have := ih R (p + 1) (acc ++ [c]) (by omega) h.tail (by simp; omega)
              refine ev_cast this ?_
              rw [Option.map_map]
              refine congrFun (congrArg _ (funext fun q => ?_)) _
              simp [Function.comp]
              omega
theorem com_is (L : List UInt8) : strings_HasPrefix.f (mkB L) (⟨#[47, 42]⟩ : ByteArray) = some (isCom L) := by
  unfold strings_HasPrefix.f stringslite_HasPrefix.f
  rw [show ((⟨#[47, 42]⟩ : ByteArray).size : Int) = 2 from rfl, mk_size]
  by_cases hz : (L.length : Int) ≥ 2
  · match L, hz with
    | b :: c :: R, hz =>
      simp only [if_pos hz]
      rw [if_pos (by decide)]
      show some (((mkB (b :: c :: R)).extract 0 2).toList == (⟨#[47, 42]⟩ : ByteArray).toList) = some (b == 47 && c == 42)
      rw [ByteArray.toList_eq, ByteArray.toList_eq, ByteArray.data_extract, Array.toList_extract, List.extract_eq_take_drop]
      simp
    | [b], hz => simp at hz
    | [], hz => simp at hz
  · rw [if_neg hz]
    match L, hz with
    | b :: c :: R, hz => simp at hz; omega
    | [b], hz => rfl
    | [], hz => rfl
theorem sk_ev (hs : s.size ≤ 1000000) : ∀ (n : Nat) (L : List UInt8) (p : Nat), L.length ≤ n → Rs s p L → Ev (fun k => skipE k s p) (p + (skL n L).1, (skL n L).2) := by
  intro n
  induction n with
  | zero =>
    intro L p hn h
    obtain rfl : L = [] := List.eq_nil_of_length_eq_zero (by omega)
    refine ev_step ?_
    simp only [skipE, skL]
    exact ev_neg (by have := h.nil; omega) ev_some
  | succ n ih =>
    intro L p hn h
    refine ev_step ?_
    simp only [skipE]
    cases L with
    | nil =>
      simp only [skL]
      exact ev_neg (by have := h.nil; omega) ev_some
    | cons c R =>
      have hl := h.len
      simp only [List.length_cons] at hn hl
      refine ev_pos h.lt ?_
      rw [h.byte]
      simp only [skL]
      refine ev_bindc (bytes c).2.1 (ev_ite (fun c1 => ?_) (fun c1 => ?_))
      · rw [if_pos c1]
        refine ev_cast (ih R (p + 1) (by omega) h.tail) ?_
        simp
        omega
      · rw [if_neg c1, h.ext]
        refine ev_bindc (com_is (c :: R)) (ev_ite (fun c2 => ?_) (fun c2 => ?_))
        · rw [if_pos c2]
          have h2 := com_len c2
          simp only [List.length_cons] at h2
          have hx := (h.drop (n := 2) (by simp only [List.length_cons]; omega)).ext
          refine ev_pos (by omega) ?_
          rw [hx]
          have hd2 : (mkB ((c :: R).drop 2)).data.toList = (c :: R).drop 2 := by simp
          rw [hd2]
          refine ev_ite (fun c3 => ?_) (fun c3 => ?_)
          · rw [if_pos c3]
            exact ev_some
          · rw [if_neg c3]
            have h4 := index_bd c3
            generalize (Lib.index ((c :: R).drop 2) [42, 47]).toNat = q at h4 ⊢
            simp only [List.length_drop, List.length_cons] at h4
            refine ev_pos (by omega) ?_
            refine ev_cast (ih ((c :: R).drop (q + 4)) (p + q + 4) (by rw [List.length_drop]; simp only [List.length_cons]; omega) (h.drop (n := q + 4) (by simp only [List.length_cons]; omega))) ?_
            simp only [Nat.add_assoc]
        · rw [if_neg c2]
          exact ev_some
theorem scn_is (h : L.length ≤ 1000000) : number_Scan.f (mkB L) = some (scn L : Int) ∧ scn L ≤ L.length := by
  have hz := mk_size L
  unfold number_Scan.f number_parts.f scn
  rw [if_pos (by omega)]
  generalize mkB L = s at hz ⊢
  have hw0 : number_parts.w0 s ≤ s.size := by
    unfold number_parts.w0 number_parts.sgn number_parts.isSign
    split
    · rename_i hq
      simp only [Bool.and_eq_true, decide_eq_true_eq] at hq
      omega
    · omega
  have hw1 := number_parts.stop_bd s _ hw0
  have ha2 : number_parts.at2 s ≤ s.size := by
    unfold number_parts.at2
    unfold number_parts.w1
    split
    · rename_i hq
      have hq' := hq
      simp only [number_parts.isDot, Bool.and_eq_true, decide_eq_true_eq] at hq
      have h3 := number_parts.stop_bd s (number_parts.stop s (number_parts.w0 s) + 1) (by omega)
      have h4 : number_parts.p1 s ≤ s.size := by
        unfold number_parts.p1 number_parts.w1
        rw [if_pos hq']
        exact h3.2
      split <;> omega
    · omega
  split
  · exact ⟨rfl, Nat.zero_le _⟩
  · by_cases hE : number_parts.hasE s = true
    · simp only [if_pos hE]
      refine ⟨by simp, ?_⟩
      have hE' := hE
      simp only [number_parts.hasE, number_parts.isE, Bool.and_eq_true, decide_eq_true_eq] at hE'
      have hx0 : number_parts.x0 s ≤ s.size := by
        unfold number_parts.x0 number_parts.sgn number_parts.isSign
        split
        · rename_i hq
          simp only [Bool.and_eq_true, decide_eq_true_eq] at hq
          omega
        · omega
      have := number_parts.stop_bd s _ hx0
      unfold number_parts.x1
      omega
    · simp only [if_neg hE]
      exact ⟨by simp, by omega⟩
end
end Go.Proofs.Ytholgbdfflabhaa.Tkl
end
