-- Written by a program of this session (wip/p2) out of the translation; Lean checks it.
import Derived.Test.YtfccpnpocfjbcaaSq
import Derived.Test.YtfccpnpocfjbcaaPTkx0
import Derived.Test.YtfccpnpocfjbcaaPTkx15
import Derived.Test.YtfccpnpocfjbcaaPTkx16
import Derived.Test.YtfccpnpocfjbcaaPTkx17
import Derived.Test.YtfccpnpocfjbcaaLex8
import Derived.Test.YtfccpnpocfjbcaaRz
namespace Go.Proofs.Ytfccpnpocfjbcaa.PTk
open Go.RowKit Go.Proofs.YtfccpnpocfjbcaaW.PrintWords Go.Proofs.YtfccpnpocfjbcaaW.PrintLast Go.Proofs.YtfccpnpocfjbcaaW.PrintMore
attribute [local go_sem] max2_int min2_int max_two min_two max_three min_three max_four min_four   -- for this text's walks alone
set_option linter.unusedVariables false
set_option linter.unusedSimpArgs false
open Go.Proofs.Ytfccpnpocfjbcaa.Opn Go.Proofs.Ytfccpnpocfjbcaa.Giv

/-! ### parterrelaw04_IdentBack: function 6 -/
def parterrelaw04_IdentBack.j0 : Nat → ByteArray → Bool → Option (Bool)
 | 0, _, _ => none
 | k + 1, x0, x47 => if x47 = true then (some false) else ((ident_Quote.f x0).bind fun t295 => (if t295.toList = ([] : List UInt8) then ((parterrelaw04_lives.f).bind fun t296 => (some t296)) else (if (t295.size : Int) ≤ 140737488355328 then ((token_Tokens.f k ((bytesOf t295 : List Int))).bind fun bt300 => (if bt300.2.2 = 0 then (if (bt300.1.length : Int) = 2 then (if 0 < (bt300.1.length : Int) then (if ((rd_T33 bt300.1 0).f0) = 6 then (if ((rd_T33 bt300.1 0).f2).toList = x0.toList then ((parterrelaw04_lives.f).bind fun t307 => (some t307)) else (some false)) else (some false)) else (none)) else (some false)) else (some false))) else (none))))
def parterrelaw04_IdentBack.f (k : Nat) (a0 : ByteArray) : Option (Bool) := if (a0.size : Int) > 2000 then ((parterrelaw04_lives.f).bind fun t282 => (some t282)) else ((ident_Write.f a0).bind fun t283 => (if (t283.size : Int) ≤ 140737488355328 then ((token_Tokens.f k ((bytesOf t283 : List Int))).bind fun bt287 => ((ident_Name.f a0).bind fun t292 => (if t292 = true then (if bt287.2.2 = 0 then (if (bt287.1.length : Int) = 2 then (if 0 < (bt287.1.length : Int) then (if ((rd_T33 bt287.1 0).f0) = 1 then (parterrelaw04_IdentBack.j0 k a0 (((rd_T33 bt287.1 0).f2).toList != a0.toList)) else (parterrelaw04_IdentBack.j0 k a0 true)) else (none)) else (parterrelaw04_IdentBack.j0 k a0 true)) else (parterrelaw04_IdentBack.j0 k a0 true)) else (parterrelaw04_IdentBack.j0 k a0 false)))) else (none)))
theorem parterrelaw04_IdentBack.mono_l : ∀ k, (∀ y0 y1, LeO (parterrelaw04_IdentBack.j0 k y0 y1) (parterrelaw04_IdentBack.j0 (k + 1) y0 y1))
 | 0 => fun _ _ r h => by simp [parterrelaw04_IdentBack.j0] at h
 | k + 1 => by
  have ih0 := parterrelaw04_IdentBack.mono_l k
  ·intro y0 y1
   unfold parterrelaw04_IdentBack.j0
   repeat' first
   | (with_reducible exact ih0 _ _)
   | (with_reducible exact token_Tokens.mono _ _)
   | (with_reducible exact LeO.refl _)
   | (with_reducible exact LeO.none _)
   | (with_reducible refine LeO.ite ?_ ?_)
   | (with_reducible refine LeO.bind ?_ (fun _ => ?_))
theorem parterrelaw04_IdentBack.mono : ∀ a0 k, LeO (parterrelaw04_IdentBack.f k a0) (parterrelaw04_IdentBack.f (k + 1) a0) := by
 intro a0 k
 have ih0 := parterrelaw04_IdentBack.mono_l k
 unfold parterrelaw04_IdentBack.f
 repeat' first
   | (with_reducible exact ih0 _ _)
   | (with_reducible exact token_Tokens.mono _ _)
   | (with_reducible exact LeO.refl _)
   | (with_reducible exact LeO.none _)
   | (with_reducible refine LeO.ite ?_ ?_)
   | (with_reducible refine LeO.bind ?_ (fun _ => ?_))
set_option maxHeartbeats 8000000 in
set_option maxRecDepth 100000 in
theorem parterrelaw04_IdentBack.calls (k : Nat) (a0 : ByteArray) (r : Bool) (w : World) (h : parterrelaw04_IdentBack.f k a0 = some r) :
  Calls Try.prog 6 #[.string a0] w fun e w' => e = .returned (.bool r) ∧ Below w.heap.size w w' := by
 have HB := Aside0.mk (Below.refl w.heap.size w)
 have H : (if (a0.size : Int) > 2000 then ((parterrelaw04_lives.f).bind fun t282 => (some t282)) else ((ident_Write.f a0).bind fun t283 => (if (t283.size : Int) ≤ 140737488355328 then ((token_Tokens.f k ((bytesOf t283 : List Int))).bind fun bt287 => ((ident_Name.f a0).bind fun t292 => (if t292 = true then (if bt287.2.2 = 0 then (if (bt287.1.length : Int) = 2 then (if 0 < (bt287.1.length : Int) then (if ((rd_T33 bt287.1 0).f0) = 1 then (parterrelaw04_IdentBack.j0 k a0 (((rd_T33 bt287.1 0).f2).toList != a0.toList)) else (parterrelaw04_IdentBack.j0 k a0 true)) else (none)) else (parterrelaw04_IdentBack.j0 k a0 true)) else (parterrelaw04_IdentBack.j0 k a0 true)) else (parterrelaw04_IdentBack.j0 k a0 false)))) else (none)))) = some r := h
 clear h
 by_cases c2 : (a0.size : Int) > 2000
 ·rw [if_pos c2] at H
  have c2b0 : decide (2000 < (a0.size : Int)) = true := decide_eq_true c2
  have c2b1 : decide (2000 < a0.size) = true := decide_eq_true (by omega)
  clear c2
  replace H := Option.bind_eq_some_iff.mp H
  obtain ⟨t282, A30, H⟩ := H
  try dsimp only at H
  have A3 := Aside0.mk A30
  clear A30
  obtain rfl := Option.some.inj H
  go_enter Try.func6, Try.ntmps6
  go_wp2_with (first | ((with_reducible refine gate_callee (f := 14) rfl ?_); refine goesL_ (some 13) rfl rfl Try.func14 (by kernel_rfl) rfl #[] rfl goa_ ?_; (with_reducible refine (parterrelaw04_lives.calls  t282 _ A3.out).mono ?_); rintro e w4 ⟨rfl, hb⟩; refine ⟨_, rfl, ?_⟩; have n0_ := Aside0.mk (below_step bel_ hb); clear HB; have HB := n0_; clear n0_; clear hb))
  go_ret
  exact ⟨rsl_, bel_⟩
 ·rw [if_neg c2] at H
  have c2b0 : decide (2000 < (a0.size : Int)) = false := decide_eq_false c2
  have c2b1 : decide (2000 < a0.size) = false := decide_eq_false (by omega)
  clear c2
  replace H := Option.bind_eq_some_iff.mp H
  obtain ⟨t283, A50, H⟩ := H
  try dsimp only at H
  have A5 := Aside0.mk A50
  clear A50
  by_cases c6 : (t283.size : Int) ≤ 140737488355328
  ·rw [if_pos c6] at H
   have c6b0 := eq_true c6
   have c6b1 : decide ((t283.size : Int) ≤ 140737488355328) = true := decide_eq_true c6
   clear c6
   obtain ⟨y284, hy284⟩ : ∃ y_ : List Int, y_ = ((bytesOf t283 : List Int)) := ⟨_, rfl⟩
   replace H : ((token_Tokens.f k y284).bind fun bt287 => ((ident_Name.f a0).bind fun t292 => (if t292 = true then (if bt287.2.2 = 0 then (if (bt287.1.length : Int) = 2 then (if 0 < (bt287.1.length : Int) then (if ((rd_T33 bt287.1 0).f0) = 1 then (parterrelaw04_IdentBack.j0 k a0 (((rd_T33 bt287.1 0).f2).toList != a0.toList)) else (parterrelaw04_IdentBack.j0 k a0 true)) else (none)) else (parterrelaw04_IdentBack.j0 k a0 true)) else (parterrelaw04_IdentBack.j0 k a0 true)) else (parterrelaw04_IdentBack.j0 k a0 false)))) = some r := by first | (rw [hy284]; with_reducible exact H) | (have H2_ := (Option.bind_some _ _).symm.trans H; rw [hy284]; with_reducible exact H2_) | (have H2_ := (Option.bind_some _ _).symm.trans H; with_reducible exact H2_) | with_reducible exact H | (rw [hy284]; exact H) | exact H
   have Ny284 := Aside0.mk hy284
   clear hy284
   replace H := Option.bind_eq_some_iff.mp H
   obtain ⟨⟨t287, t288, t289⟩, A70, H⟩ := H
   try dsimp only at H
   have A7 := Aside0.mk A70
   clear A70
   have HC8 := Aside0.mk H
   clear H
   go_enter Try.func6, Try.ntmps6
   go_upto_region 4 with (first | ((with_reducible refine gate_callee (f := 15) rfl ?_); refine goesL_ (some 16) rfl rfl Try.func15 (by kernel_rfl) rfl #[.string a0] rfl goa_ ?_; (with_reducible refine (ident_Write.calls a0 t283 _ A5.out).mono ?_); rintro e w9 ⟨rfl, hb⟩; refine ⟨_, rfl, ?_⟩; have n0_ := Aside0.mk (below_step bel_ hb); clear HB; have HB := n0_; clear n0_; clear hb) | ((with_reducible refine gate_dst (N := 17) rfl ?_); (try (refine gate_guard (by rfl) ?_; dsimp only)); refine Kd.Z_bytes _ 5 9 27 ?hg (N := 17) ?hd (x := .tmp 16) t283 ?ho ?hx Try.underlying9 Try.underlying27 Try.underlying5 ?hm (Below.refl _ _) (Nat.le_refl _) ?_; (case hd => rfl); (case hg => rfl); (case ho => rfl); (case hx => first | rfl | (go_simp; done)); (case hm => have h_ : (t283.size : Int) ≤ 140737488355328 := of_decide_eq_true (by first | (with_reducible assumption) | assumption); omega); intro v285 w10 ho11 hb hg_ hnew_; clear hg_ hnew_; (first | rw [← Ny284.out] at ho11 | (simp only [Int.reduceToNat] at ho11; rw [← Ny284.out] at ho11)); have n0_ := Aside0.mk (Kd.Z_lower ho11 (below_size bel_)); have n1_ := Aside0.mk (below_step bel_ hb); clear HB; have HO286 := n0_; have HB := n1_; clear n0_ n1_; clear hb ho11; obtain ⟨Ao12, co12, eo12⟩ := Kd.Z_slice HO286.out; subst eo12) | ((with_reducible refine gate_callee (f := 13) rfl ?_); refine goesL_ (some 18) rfl rfl Try.func13 (by kernel_rfl) rfl #[.slice Ao12 y284.length co12] rfl goa_ ?_; (with_reducible refine (token_Tokens.calls k _ _ y284 t287 t288 t289 _ ?side1 ?side2 A7.out).mono ?_); (case side1 => repeat (first | exact (Kd.Z_reads' HO286.out).2.2 | (with_reducible refine Kd.C_alloc ?_ _) | (with_reducible refine Kd.C_drewN ?_ _) | (with_reducible refine Kd.C_drew ?_))); (case side2 => exact (Kd.Z_reads' HO286.out).2.1); rintro e w13 ⟨v290, rfl, ho0, hb⟩; refine ⟨_, rfl, ?_⟩; have n0_ := Aside0.mk (Kd.Z_below (by (with_reducible repeat (first | apply Kd.Z_alloc | apply Kd.Z_drewN | apply Kd.Z_drew)); exact HO286.out) hb); have n1_ := Aside0.mk (Kd.R_lower ho0 (below_size bel_)); have n2_ := Aside0.mk (below_step bel_ hb); clear HO286; clear HB; have HO286 := n0_; have HO291 := n1_; have HB := n2_; clear n0_ n1_ n2_; (try clear hb); (try clear hb2); (try clear hk); (try clear hi); (try clear ho0)))
   (try simp only [Act.put, List.setIfInBounds_toArray, List.set_cons_zero, List.set_cons_succ])
   go_cut [47] (fun v47 wc => ∃ (kq : Nat) (x47_7 : Bool), v47 = .bool x47_7 ∧ Aside0 (parterrelaw04_IdentBack.j0 kq a0 x47_7 = some r) ∧ Aside0 (kq ≤ k) ∧ Aside0 (Below w.heap.size w wc))
   case first =>
    have H := HC8.out
    clear HC8
    replace H := Option.bind_eq_some_iff.mp H
    obtain ⟨t292, A140, H⟩ := H
    try dsimp only at H
    have A14 := Aside0.mk A140
    clear A140
    by_cases c15 : t292 = true
    ·subst c15
     rw [if_pos rfl] at H
     by_cases c16 : t289 = 0
     ·rw [if_pos c16] at H
      have c16b0 : (t289 == 0) = true := beq_iff_eq.mpr c16
      have c16b1 : (t289 != 0) = false := bne_eq_false_iff_eq.mpr c16
      clear c16
      (first | rw [c16b0] | (simp only [i64_w, i32_w]; rw [c16b0]) | skip)
      by_cases c17 : (t287.length : Int) = 2
      ·rw [if_pos c17] at H
       have c17b0 : ((t287.length : Int) == 2) = true := beq_iff_eq.mpr c17
       have c17b1 : ((t287.length : Int) != 2) = false := bne_eq_false_iff_eq.mpr c17
       clear c17
       by_cases c18 : 0 < (t287.length : Int)
       ·rw [if_pos c18] at H
        have c18b0 : decide (0 < (t287.length : Int)) = true := decide_eq_true c18
        have c18b1 : decide (0 < t287.length) = true := decide_eq_true (by omega)
        clear c18
        by_cases c19 : ((rd_T33 t287 0).f0) = 1
        ·rw [if_pos c19] at H
         have c19b0 : (((rd_T33 t287 0).f0) == 1) = true := beq_iff_eq.mpr c19
         have c19b1 : (((rd_T33 t287 0).f0) != 1) = false := bne_eq_false_iff_eq.mpr c19
         clear c19
         have H' := Aside0.mk H
         clear H
         go_wp2_with (first | ((with_reducible refine gate_callee (f := 16) rfl ?_); refine goesL_ (some 23) rfl rfl Try.func16 (by kernel_rfl) rfl #[.string a0] rfl goa_ ?_; (with_reducible refine (ident_Name.calls a0 true _ A14.out).mono ?_); rintro e w' ⟨rfl, ⟨nd, rfl⟩⟩; refine ⟨_, rfl, ?_⟩; obtain ⟨Ao20, co20, eo20⟩ := Kd.R_slice HO291.out; subst eo20; have p293 : 0 ≤ (0 : Int) := (by omega); have q293 : 0 < (t287.length : Int) := of_decide_eq_true (by first | (with_reducible assumption) | assumption); obtain ⟨ad293, e293, hx293_0, hx293_1, hx293_2, hx293_3⟩ := at_T33 (Kd.R_reads' HO291.out).2.2 0 p293 q293; cases e293; have qi293 : (0 < t287.length) = True := eq_true (by omega); (try rw [show ((0 : Int)).toNat = 0 from rfl] at hx293_0); (try rw [show 0 * 4 = 0 from rfl] at hx293_0); (try rw [Addr.add_zero'] at hx293_0); (try rw [show ((0 : Int)).toNat = 0 from rfl] at hx293_1); (try rw [show 0 * 4 = 0 from rfl] at hx293_1); (try rw [Addr.add_zero'] at hx293_1); (try rw [show ((0 : Int)).toNat = 0 from rfl] at hx293_2); (try rw [show 0 * 4 = 0 from rfl] at hx293_2); (try rw [Addr.add_zero'] at hx293_2); (try rw [show ((0 : Int)).toNat = 0 from rfl] at hx293_3); (try rw [show 0 * 4 = 0 from rfl] at hx293_3); (try rw [Addr.add_zero'] at hx293_3); replace p293 := eq_true p293; replace q293 := eq_true q293; have p294 : 0 ≤ (0 : Int) := (by omega); have q294 : 0 < (t287.length : Int) := of_decide_eq_true (by first | (with_reducible assumption) | assumption); obtain ⟨ad294, e294, hx294_0, hx294_1, hx294_2, hx294_3⟩ := at_T33 (Kd.R_reads' HO291.out).2.2 0 p294 q294; obtain rfl : ad293 = ad294 := (by injection e294); have qi294 : (0 < t287.length) = True := eq_true (by omega); (try rw [show ((0 : Int)).toNat = 0 from rfl] at hx294_0); (try rw [show 0 * 4 = 0 from rfl] at hx294_0); (try rw [Addr.add_zero'] at hx294_0); (try rw [show ((0 : Int)).toNat = 0 from rfl] at hx294_1); (try rw [show 0 * 4 = 0 from rfl] at hx294_1); (try rw [Addr.add_zero'] at hx294_1); (try rw [show ((0 : Int)).toNat = 0 from rfl] at hx294_2); (try rw [show 0 * 4 = 0 from rfl] at hx294_2); (try rw [Addr.add_zero'] at hx294_2); (try rw [show ((0 : Int)).toNat = 0 from rfl] at hx294_3); (try rw [show 0 * 4 = 0 from rfl] at hx294_3); (try rw [Addr.add_zero'] at hx294_3); replace p294 := eq_true p294; replace q294 := eq_true q294))
         go_meet
         case rel => exact ⟨_, ((((rd_T33 t287 0).f2).toList != a0.toList)), rfs_, (by first | exact H' | (subst_vars; exact H')), ⟨ole_⟩, ⟨bel_⟩⟩
        ·rw [if_neg c19] at H
         have c19b0 : (((rd_T33 t287 0).f0) == 1) = false := beq_eq_false_iff_ne.mpr c19
         have c19b1 : (((rd_T33 t287 0).f0) != 1) = true := bne_iff_ne.mpr c19
         have H' := Aside0.mk H
         clear H
         go_wp2_with (first | ((with_reducible refine gate_callee (f := 16) rfl ?_); refine goesL_ (some 23) rfl rfl Try.func16 (by kernel_rfl) rfl #[.string a0] rfl goa_ ?_; (with_reducible refine (ident_Name.calls a0 true _ A14.out).mono ?_); rintro e w' ⟨rfl, ⟨nd, rfl⟩⟩; refine ⟨_, rfl, ?_⟩; obtain ⟨Ao21, co21, eo21⟩ := Kd.R_slice HO291.out; subst eo21; have p293 : 0 ≤ (0 : Int) := (by omega); have q293 : 0 < (t287.length : Int) := of_decide_eq_true (by first | (with_reducible assumption) | assumption); obtain ⟨ad293, e293, hx293_0, hx293_1, hx293_2, hx293_3⟩ := at_T33 (Kd.R_reads' HO291.out).2.2 0 p293 q293; cases e293; have qi293 : (0 < t287.length) = True := eq_true (by omega); (try rw [show ((0 : Int)).toNat = 0 from rfl] at hx293_0); (try rw [show 0 * 4 = 0 from rfl] at hx293_0); (try rw [Addr.add_zero'] at hx293_0); (try rw [show ((0 : Int)).toNat = 0 from rfl] at hx293_1); (try rw [show 0 * 4 = 0 from rfl] at hx293_1); (try rw [Addr.add_zero'] at hx293_1); (try rw [show ((0 : Int)).toNat = 0 from rfl] at hx293_2); (try rw [show 0 * 4 = 0 from rfl] at hx293_2); (try rw [Addr.add_zero'] at hx293_2); (try rw [show ((0 : Int)).toNat = 0 from rfl] at hx293_3); (try rw [show 0 * 4 = 0 from rfl] at hx293_3); (try rw [Addr.add_zero'] at hx293_3); replace p293 := eq_true p293; replace q293 := eq_true q293))
         go_meet
         case rel => exact ⟨_, (true), rfs_, (by first | exact H' | (subst_vars; exact H')), ⟨ole_⟩, ⟨bel_⟩⟩
       ·rw [if_neg c18] at H
        exact absurd H (by simp)
      ·rw [if_neg c17] at H
       have c17b0 : ((t287.length : Int) == 2) = false := beq_eq_false_iff_ne.mpr c17
       have c17b1 : ((t287.length : Int) != 2) = true := bne_iff_ne.mpr c17
       have H' := Aside0.mk H
       clear H
       go_wp2_with (first | ((with_reducible refine gate_callee (f := 16) rfl ?_); refine goesL_ (some 23) rfl rfl Try.func16 (by kernel_rfl) rfl #[.string a0] rfl goa_ ?_; (with_reducible refine (ident_Name.calls a0 true _ A14.out).mono ?_); rintro e w' ⟨rfl, ⟨nd, rfl⟩⟩; refine ⟨_, rfl, ?_⟩; obtain ⟨Ao22, co22, eo22⟩ := Kd.R_slice HO291.out; subst eo22))
       go_meet
       case rel => exact ⟨_, (true), rfs_, (by first | exact H' | (subst_vars; exact H')), ⟨ole_⟩, ⟨bel_⟩⟩
     ·rw [if_neg c16] at H
      have c16b0 : (t289 == 0) = false := beq_eq_false_iff_ne.mpr c16
      have c16b1 : (t289 != 0) = true := bne_iff_ne.mpr c16
      (first | rw [c16b0] | (simp only [i64_w, i32_w]; rw [c16b0]) | skip)
      have H' := Aside0.mk H
      clear H
      go_wp2_with (first | ((with_reducible refine gate_callee (f := 16) rfl ?_); refine goesL_ (some 23) rfl rfl Try.func16 (by kernel_rfl) rfl #[.string a0] rfl goa_ ?_; (with_reducible refine (ident_Name.calls a0 true _ A14.out).mono ?_); rintro e w' ⟨rfl, ⟨nd, rfl⟩⟩; refine ⟨_, rfl, ?_⟩))
      go_meet
      case rel => exact ⟨_, (true), rfs_, (by first | exact H' | (subst_vars; exact H')), ⟨ole_⟩, ⟨bel_⟩⟩
    ·replace c15 := Bool.eq_false_iff.mpr c15
     subst c15
     rw [if_neg (show ¬ (false = true) by decide)] at H
     have H' := Aside0.mk H
     clear H
     go_wp2_with (first | ((with_reducible refine gate_callee (f := 16) rfl ?_); refine goesL_ (some 23) rfl rfl Try.func16 (by kernel_rfl) rfl #[.string a0] rfl goa_ ?_; (with_reducible refine (ident_Name.calls a0 false _ A14.out).mono ?_); rintro e w' ⟨rfl, ⟨nd, rfl⟩⟩; refine ⟨_, rfl, ?_⟩))
     go_meet
     case rel => exact ⟨_, (false), rfs_, (by first | exact H' | (subst_vars; exact H')), ⟨ole_⟩, ⟨bel_⟩⟩
   case rest =>
    clear HC8
    try clear c1
    try clear c2
    try clear c2b0
    try clear c2b1
    try clear p2
    try clear q2
    try clear hx2
    try clear qi2
    try clear c6
    try clear c6b0
    try clear c6b1
    try clear c13
    try clear c14
    try clear c15
    try clear c16
    try clear c16b0
    try clear c16b1
    try clear c17
    try clear c17b0
    try clear c17b1
    try clear c18
    try clear c18b0
    try clear c18b1
    try clear c19
    try clear c19b0
    try clear c19b1
    try clear hx293_0
    try clear hx293_1
    try clear hx293_2
    try clear hx293_3
    try clear hx294_0
    try clear hx294_1
    try clear hx294_2
    try clear hx294_3
    try clear p293
    try clear p294
    try clear q293
    try clear q294
    obtain ⟨kq, x47_7, rfl, HA, HJ7, HB⟩ := hcut
    cases kq with
    | zero => exact absurd HA.out (by simp [parterrelaw04_IdentBack.j0])
    | succ kj7 =>
     have H := HA.out
     clear HA
     simp only [parterrelaw04_IdentBack.j0] at H
     by_cases c23 : x47_7 = true
     ·subst c23
      rw [if_pos rfl] at H
      obtain rfl := Option.some.inj H
      go_wp2
      go_ret
      exact ⟨rsl_, bel_⟩
     ·replace c23 := Bool.eq_false_iff.mpr c23
      subst c23
      rw [if_neg (show ¬ (false = true) by decide)] at H
      replace H := Option.bind_eq_some_iff.mp H
      obtain ⟨t295, A240, H⟩ := H
      try dsimp only at H
      have A24 := Aside0.mk A240
      clear A240
      by_cases c25 : t295.toList = ([] : List UInt8)
      ·rw [if_pos c25] at H
       have c25b0 : (t295.toList == ([] : List UInt8)) = true := beq_iff_eq.mpr c25
       have c25b1 : (t295.toList != ([] : List UInt8)) = false := bne_eq_false_iff_eq.mpr c25
       clear c25
       replace H := Option.bind_eq_some_iff.mp H
       obtain ⟨t296, A260, H⟩ := H
       try dsimp only at H
       have A26 := Aside0.mk A260
       clear A260
       obtain rfl := Option.some.inj H
       go_wp2_with (first | ((with_reducible refine gate_callee (f := 17) rfl ?_); refine goesL_ (some 49) rfl rfl Try.func17 (by kernel_rfl) rfl #[.string a0] rfl goa_ ?_; (with_reducible refine (ident_Quote.calls a0 t295 _ A24.out).mono ?_); rintro e w27 ⟨rfl, hb⟩; refine ⟨_, rfl, ?_⟩; have n0_ := Aside0.mk (below_step bel_ hb); clear HB; have HB := n0_; clear n0_; clear hb) | ((with_reducible refine gate_callee (f := 14) rfl ?_); refine goesL_ (some 52) rfl rfl Try.func14 (by kernel_rfl) rfl #[] rfl goa_ ?_; (with_reducible refine (parterrelaw04_lives.calls  t296 _ A26.out).mono ?_); rintro e w28 ⟨rfl, hb⟩; refine ⟨_, rfl, ?_⟩; have n0_ := Aside0.mk (below_step bel_ hb); clear HB; have HB := n0_; clear n0_; clear hb))
       go_ret
       exact ⟨rsl_, bel_⟩
      ·rw [if_neg c25] at H
       have c25b0 : (t295.toList == ([] : List UInt8)) = false := beq_eq_false_iff_ne.mpr c25
       have c25b1 : (t295.toList != ([] : List UInt8)) = true := bne_iff_ne.mpr c25
       by_cases c29 : (t295.size : Int) ≤ 140737488355328
       ·rw [if_pos c29] at H
        have c29b0 := eq_true c29
        have c29b1 : decide ((t295.size : Int) ≤ 140737488355328) = true := decide_eq_true c29
        clear c29
        obtain ⟨y297, hy297⟩ : ∃ y_ : List Int, y_ = ((bytesOf t295 : List Int)) := ⟨_, rfl⟩
        replace H : ((token_Tokens.f kj7 y297).bind fun bt300 => (if bt300.2.2 = 0 then (if (bt300.1.length : Int) = 2 then (if 0 < (bt300.1.length : Int) then (if ((rd_T33 bt300.1 0).f0) = 6 then (if ((rd_T33 bt300.1 0).f2).toList = a0.toList then ((parterrelaw04_lives.f).bind fun t307 => (some t307)) else (some false)) else (some false)) else (none)) else (some false)) else (some false))) = some r := by first | (rw [hy297]; with_reducible exact H) | (have H2_ := (Option.bind_some _ _).symm.trans H; rw [hy297]; with_reducible exact H2_) | (have H2_ := (Option.bind_some _ _).symm.trans H; with_reducible exact H2_) | with_reducible exact H | (rw [hy297]; exact H) | exact H
        have Ny297 := Aside0.mk hy297
        clear hy297
        replace H := Option.bind_eq_some_iff.mp H
        obtain ⟨⟨t300, t301, t302⟩, A300, H⟩ := H
        try dsimp only at H
        have A30 := Aside0.mk A300
        clear A300
        by_cases c31 : t302 = 0
        ·rw [if_pos c31] at H
         have c31b0 : (t302 == 0) = true := beq_iff_eq.mpr c31
         have c31b1 : (t302 != 0) = false := bne_eq_false_iff_eq.mpr c31
         clear c31
         by_cases c32 : (t300.length : Int) = 2
         ·rw [if_pos c32] at H
          have c32b0 : ((t300.length : Int) == 2) = true := beq_iff_eq.mpr c32
          have c32b1 : ((t300.length : Int) != 2) = false := bne_eq_false_iff_eq.mpr c32
          clear c32
          by_cases c33 : 0 < (t300.length : Int)
          ·rw [if_pos c33] at H
           have c33b0 : decide (0 < (t300.length : Int)) = true := decide_eq_true c33
           have c33b1 : decide (0 < t300.length) = true := decide_eq_true (by omega)
           clear c33
           by_cases c34 : ((rd_T33 t300 0).f0) = 6
           ·rw [if_pos c34] at H
            have c34b0 : (((rd_T33 t300 0).f0) == 6) = true := beq_iff_eq.mpr c34
            have c34b1 : (((rd_T33 t300 0).f0) != 6) = false := bne_eq_false_iff_eq.mpr c34
            clear c34
            by_cases c35 : ((rd_T33 t300 0).f2).toList = a0.toList
            ·rw [if_pos c35] at H
             have c35b0 : (((rd_T33 t300 0).f2).toList == a0.toList) = true := beq_iff_eq.mpr c35
             have c35b1 : (((rd_T33 t300 0).f2).toList != a0.toList) = false := bne_eq_false_iff_eq.mpr c35
             clear c35
             replace H := Option.bind_eq_some_iff.mp H
             obtain ⟨t307, A360, H⟩ := H
             try dsimp only at H
             have A36 := Aside0.mk A360
             clear A360
             obtain rfl := Option.some.inj H
             go_wp2_with (first | ((with_reducible refine gate_callee (f := 17) rfl ?_); refine goesL_ (some 49) rfl rfl Try.func17 (by kernel_rfl) rfl #[.string a0] rfl goa_ ?_; (with_reducible refine (ident_Quote.calls a0 t295 _ A24.out).mono ?_); rintro e w37 ⟨rfl, hb⟩; refine ⟨_, rfl, ?_⟩; have n0_ := Aside0.mk (below_step bel_ hb); clear HB; have HB := n0_; clear n0_; clear hb) | ((with_reducible refine gate_dst (N := 55) rfl ?_); (try (refine gate_guard (by rfl) ?_; dsimp only)); refine Kd.Z_bytes _ 5 9 27 ?hg (N := 55) ?hd (x := .tmp 54) t295 ?ho ?hx Try.underlying9 Try.underlying27 Try.underlying5 ?hm (Below.refl _ _) (Nat.le_refl _) ?_; (case hd => rfl); (case hg => rfl); (case ho => rfl); (case hx => first | rfl | (go_simp; done)); (case hm => have h_ : (t295.size : Int) ≤ 140737488355328 := of_decide_eq_true (by first | (with_reducible assumption) | assumption); omega); intro v298 w38 ho39 hb hg_ hnew_; clear hg_ hnew_; (first | rw [← Ny297.out] at ho39 | (simp only [Int.reduceToNat] at ho39; rw [← Ny297.out] at ho39)); have n0_ := Aside0.mk (Kd.Z_lower ho39 (below_size bel_)); have n1_ := Aside0.mk (below_step bel_ hb); clear HB; have HO299 := n0_; have HB := n1_; clear n0_ n1_; clear hb ho39; obtain ⟨Ao40, co40, eo40⟩ := Kd.Z_slice HO299.out; subst eo40) | ((with_reducible refine gate_callee (f := 13) rfl ?_); refine goesL_ (some 56) rfl rfl Try.func13 (by kernel_rfl) rfl #[.slice Ao40 y297.length co40] rfl goa_ ?_; (with_reducible refine (token_Tokens.calls kj7 _ _ y297 t300 t301 t302 _ ?side1 ?side2 A30.out).mono ?_); (case side1 => repeat (first | exact (Kd.Z_reads' HO299.out).2.2 | (with_reducible refine Kd.C_alloc ?_ _) | (with_reducible refine Kd.C_drewN ?_ _) | (with_reducible refine Kd.C_drew ?_))); (case side2 => exact (Kd.Z_reads' HO299.out).2.1); rintro e w41 ⟨v303, rfl, ho0, hb⟩; refine ⟨_, rfl, ?_⟩; have n0_ := Aside0.mk (Kd.Z_below (by (with_reducible repeat (first | apply Kd.Z_alloc | apply Kd.Z_drewN | apply Kd.Z_drew)); exact HO299.out) hb); have n1_ := Aside0.mk (Kd.R_lower ho0 (below_size bel_)); have n2_ := Aside0.mk (below_step bel_ hb); clear HO299; clear HB; have HO299 := n0_; have HO304 := n1_; have HB := n2_; clear n0_ n1_ n2_; (try clear hb); (try clear hb2); (try clear hk); (try clear hi); (try clear ho0); obtain ⟨Ao42, co42, eo42⟩ := Kd.R_slice HO304.out; subst eo42; have p305 : 0 ≤ (0 : Int) := (by omega); have q305 : 0 < (t300.length : Int) := of_decide_eq_true (by first | (with_reducible assumption) | assumption); obtain ⟨ad305, e305, hx305_0, hx305_1, hx305_2, hx305_3⟩ := at_T33 (Kd.R_reads' HO304.out).2.2 0 p305 q305; cases e305; have qi305 : (0 < t300.length) = True := eq_true (by omega); (try rw [show ((0 : Int)).toNat = 0 from rfl] at hx305_0); (try rw [show 0 * 4 = 0 from rfl] at hx305_0); (try rw [Addr.add_zero'] at hx305_0); (try rw [show ((0 : Int)).toNat = 0 from rfl] at hx305_1); (try rw [show 0 * 4 = 0 from rfl] at hx305_1); (try rw [Addr.add_zero'] at hx305_1); (try rw [show ((0 : Int)).toNat = 0 from rfl] at hx305_2); (try rw [show 0 * 4 = 0 from rfl] at hx305_2); (try rw [Addr.add_zero'] at hx305_2); (try rw [show ((0 : Int)).toNat = 0 from rfl] at hx305_3); (try rw [show 0 * 4 = 0 from rfl] at hx305_3); (try rw [Addr.add_zero'] at hx305_3); replace p305 := eq_true p305; replace q305 := eq_true q305; have p306 : 0 ≤ (0 : Int) := (by omega); have q306 : 0 < (t300.length : Int) := of_decide_eq_true (by first | (with_reducible assumption) | assumption); obtain ⟨ad306, e306, hx306_0, hx306_1, hx306_2, hx306_3⟩ := at_T33 (Kd.R_reads' HO304.out).2.2 0 p306 q306; obtain rfl : ad305 = ad306 := (by injection e306); have qi306 : (0 < t300.length) = True := eq_true (by omega); (try rw [show ((0 : Int)).toNat = 0 from rfl] at hx306_0); (try rw [show 0 * 4 = 0 from rfl] at hx306_0); (try rw [Addr.add_zero'] at hx306_0); (try rw [show ((0 : Int)).toNat = 0 from rfl] at hx306_1); (try rw [show 0 * 4 = 0 from rfl] at hx306_1); (try rw [Addr.add_zero'] at hx306_1); (try rw [show ((0 : Int)).toNat = 0 from rfl] at hx306_2); (try rw [show 0 * 4 = 0 from rfl] at hx306_2); (try rw [Addr.add_zero'] at hx306_2); (try rw [show ((0 : Int)).toNat = 0 from rfl] at hx306_3); (try rw [show 0 * 4 = 0 from rfl] at hx306_3); (try rw [Addr.add_zero'] at hx306_3); replace p306 := eq_true p306; replace q306 := eq_true q306) | (go_at_call 14; (with_reducible refine (parterrelaw04_lives.calls  t307 _ A36.out).mono ?_); rintro e w43 ⟨rfl, hb⟩; have n0_ := Aside0.mk (Kd.Z_below (by (with_reducible repeat (first | apply Kd.Z_alloc | apply Kd.Z_drewN | apply Kd.Z_drew)); exact HO299.out) hb); have n1_ := Aside0.mk (Kd.R_below (by (with_reducible repeat (first | apply Kd.R_alloc | apply Kd.R_drewN | apply Kd.R_drew)); exact HO304.out) hb); have n2_ := Aside0.mk (below_step bel_ hb); clear HO299; clear HO304; clear HB; have HO299 := n0_; have HO304 := n1_; have HB := n2_; clear n0_ n1_ n2_; clear hb))
             go_ret
             exact ⟨rsl_, bel_⟩
            ·rw [if_neg c35] at H
             have c35b0 : (((rd_T33 t300 0).f2).toList == a0.toList) = false := beq_eq_false_iff_ne.mpr c35
             have c35b1 : (((rd_T33 t300 0).f2).toList != a0.toList) = true := bne_iff_ne.mpr c35
             obtain rfl := Option.some.inj H
             go_wp2_with (first | ((with_reducible refine gate_callee (f := 17) rfl ?_); refine goesL_ (some 49) rfl rfl Try.func17 (by kernel_rfl) rfl #[.string a0] rfl goa_ ?_; (with_reducible refine (ident_Quote.calls a0 t295 _ A24.out).mono ?_); rintro e w44 ⟨rfl, hb⟩; refine ⟨_, rfl, ?_⟩; have n0_ := Aside0.mk (below_step bel_ hb); clear HB; have HB := n0_; clear n0_; clear hb) | ((with_reducible refine gate_dst (N := 55) rfl ?_); (try (refine gate_guard (by rfl) ?_; dsimp only)); refine Kd.Z_bytes _ 5 9 27 ?hg (N := 55) ?hd (x := .tmp 54) t295 ?ho ?hx Try.underlying9 Try.underlying27 Try.underlying5 ?hm (Below.refl _ _) (Nat.le_refl _) ?_; (case hd => rfl); (case hg => rfl); (case ho => rfl); (case hx => first | rfl | (go_simp; done)); (case hm => have h_ : (t295.size : Int) ≤ 140737488355328 := of_decide_eq_true (by first | (with_reducible assumption) | assumption); omega); intro v298 w45 ho46 hb hg_ hnew_; clear hg_ hnew_; (first | rw [← Ny297.out] at ho46 | (simp only [Int.reduceToNat] at ho46; rw [← Ny297.out] at ho46)); have n0_ := Aside0.mk (Kd.Z_lower ho46 (below_size bel_)); have n1_ := Aside0.mk (below_step bel_ hb); clear HB; have HO299 := n0_; have HB := n1_; clear n0_ n1_; clear hb ho46; obtain ⟨Ao47, co47, eo47⟩ := Kd.Z_slice HO299.out; subst eo47) | ((with_reducible refine gate_callee (f := 13) rfl ?_); refine goesL_ (some 56) rfl rfl Try.func13 (by kernel_rfl) rfl #[.slice Ao47 y297.length co47] rfl goa_ ?_; (with_reducible refine (token_Tokens.calls kj7 _ _ y297 t300 t301 t302 _ ?side1 ?side2 A30.out).mono ?_); (case side1 => repeat (first | exact (Kd.Z_reads' HO299.out).2.2 | (with_reducible refine Kd.C_alloc ?_ _) | (with_reducible refine Kd.C_drewN ?_ _) | (with_reducible refine Kd.C_drew ?_))); (case side2 => exact (Kd.Z_reads' HO299.out).2.1); rintro e w48 ⟨v303, rfl, ho0, hb⟩; refine ⟨_, rfl, ?_⟩; have n0_ := Aside0.mk (Kd.Z_below (by (with_reducible repeat (first | apply Kd.Z_alloc | apply Kd.Z_drewN | apply Kd.Z_drew)); exact HO299.out) hb); have n1_ := Aside0.mk (Kd.R_lower ho0 (below_size bel_)); have n2_ := Aside0.mk (below_step bel_ hb); clear HO299; clear HB; have HO299 := n0_; have HO304 := n1_; have HB := n2_; clear n0_ n1_ n2_; (try clear hb); (try clear hb2); (try clear hk); (try clear hi); (try clear ho0); obtain ⟨Ao49, co49, eo49⟩ := Kd.R_slice HO304.out; subst eo49; have p305 : 0 ≤ (0 : Int) := (by omega); have q305 : 0 < (t300.length : Int) := of_decide_eq_true (by first | (with_reducible assumption) | assumption); obtain ⟨ad305, e305, hx305_0, hx305_1, hx305_2, hx305_3⟩ := at_T33 (Kd.R_reads' HO304.out).2.2 0 p305 q305; cases e305; have qi305 : (0 < t300.length) = True := eq_true (by omega); (try rw [show ((0 : Int)).toNat = 0 from rfl] at hx305_0); (try rw [show 0 * 4 = 0 from rfl] at hx305_0); (try rw [Addr.add_zero'] at hx305_0); (try rw [show ((0 : Int)).toNat = 0 from rfl] at hx305_1); (try rw [show 0 * 4 = 0 from rfl] at hx305_1); (try rw [Addr.add_zero'] at hx305_1); (try rw [show ((0 : Int)).toNat = 0 from rfl] at hx305_2); (try rw [show 0 * 4 = 0 from rfl] at hx305_2); (try rw [Addr.add_zero'] at hx305_2); (try rw [show ((0 : Int)).toNat = 0 from rfl] at hx305_3); (try rw [show 0 * 4 = 0 from rfl] at hx305_3); (try rw [Addr.add_zero'] at hx305_3); replace p305 := eq_true p305; replace q305 := eq_true q305; have p306 : 0 ≤ (0 : Int) := (by omega); have q306 : 0 < (t300.length : Int) := of_decide_eq_true (by first | (with_reducible assumption) | assumption); obtain ⟨ad306, e306, hx306_0, hx306_1, hx306_2, hx306_3⟩ := at_T33 (Kd.R_reads' HO304.out).2.2 0 p306 q306; obtain rfl : ad305 = ad306 := (by injection e306); have qi306 : (0 < t300.length) = True := eq_true (by omega); (try rw [show ((0 : Int)).toNat = 0 from rfl] at hx306_0); (try rw [show 0 * 4 = 0 from rfl] at hx306_0); (try rw [Addr.add_zero'] at hx306_0); (try rw [show ((0 : Int)).toNat = 0 from rfl] at hx306_1); (try rw [show 0 * 4 = 0 from rfl] at hx306_1); (try rw [Addr.add_zero'] at hx306_1); (try rw [show ((0 : Int)).toNat = 0 from rfl] at hx306_2); (try rw [show 0 * 4 = 0 from rfl] at hx306_2); (try rw [Addr.add_zero'] at hx306_2); (try rw [show ((0 : Int)).toNat = 0 from rfl] at hx306_3); (try rw [show 0 * 4 = 0 from rfl] at hx306_3); (try rw [Addr.add_zero'] at hx306_3); replace p306 := eq_true p306; replace q306 := eq_true q306))
             go_ret
             exact ⟨rsl_, bel_⟩
           ·rw [if_neg c34] at H
            have c34b0 : (((rd_T33 t300 0).f0) == 6) = false := beq_eq_false_iff_ne.mpr c34
            have c34b1 : (((rd_T33 t300 0).f0) != 6) = true := bne_iff_ne.mpr c34
            obtain rfl := Option.some.inj H
            go_wp2_with (first | ((with_reducible refine gate_callee (f := 17) rfl ?_); refine goesL_ (some 49) rfl rfl Try.func17 (by kernel_rfl) rfl #[.string a0] rfl goa_ ?_; (with_reducible refine (ident_Quote.calls a0 t295 _ A24.out).mono ?_); rintro e w50 ⟨rfl, hb⟩; refine ⟨_, rfl, ?_⟩; have n0_ := Aside0.mk (below_step bel_ hb); clear HB; have HB := n0_; clear n0_; clear hb) | ((with_reducible refine gate_dst (N := 55) rfl ?_); (try (refine gate_guard (by rfl) ?_; dsimp only)); refine Kd.Z_bytes _ 5 9 27 ?hg (N := 55) ?hd (x := .tmp 54) t295 ?ho ?hx Try.underlying9 Try.underlying27 Try.underlying5 ?hm (Below.refl _ _) (Nat.le_refl _) ?_; (case hd => rfl); (case hg => rfl); (case ho => rfl); (case hx => first | rfl | (go_simp; done)); (case hm => have h_ : (t295.size : Int) ≤ 140737488355328 := of_decide_eq_true (by first | (with_reducible assumption) | assumption); omega); intro v298 w51 ho52 hb hg_ hnew_; clear hg_ hnew_; (first | rw [← Ny297.out] at ho52 | (simp only [Int.reduceToNat] at ho52; rw [← Ny297.out] at ho52)); have n0_ := Aside0.mk (Kd.Z_lower ho52 (below_size bel_)); have n1_ := Aside0.mk (below_step bel_ hb); clear HB; have HO299 := n0_; have HB := n1_; clear n0_ n1_; clear hb ho52; obtain ⟨Ao53, co53, eo53⟩ := Kd.Z_slice HO299.out; subst eo53) | ((with_reducible refine gate_callee (f := 13) rfl ?_); refine goesL_ (some 56) rfl rfl Try.func13 (by kernel_rfl) rfl #[.slice Ao53 y297.length co53] rfl goa_ ?_; (with_reducible refine (token_Tokens.calls kj7 _ _ y297 t300 t301 t302 _ ?side1 ?side2 A30.out).mono ?_); (case side1 => repeat (first | exact (Kd.Z_reads' HO299.out).2.2 | (with_reducible refine Kd.C_alloc ?_ _) | (with_reducible refine Kd.C_drewN ?_ _) | (with_reducible refine Kd.C_drew ?_))); (case side2 => exact (Kd.Z_reads' HO299.out).2.1); rintro e w54 ⟨v303, rfl, ho0, hb⟩; refine ⟨_, rfl, ?_⟩; have n0_ := Aside0.mk (Kd.Z_below (by (with_reducible repeat (first | apply Kd.Z_alloc | apply Kd.Z_drewN | apply Kd.Z_drew)); exact HO299.out) hb); have n1_ := Aside0.mk (Kd.R_lower ho0 (below_size bel_)); have n2_ := Aside0.mk (below_step bel_ hb); clear HO299; clear HB; have HO299 := n0_; have HO304 := n1_; have HB := n2_; clear n0_ n1_ n2_; (try clear hb); (try clear hb2); (try clear hk); (try clear hi); (try clear ho0); obtain ⟨Ao55, co55, eo55⟩ := Kd.R_slice HO304.out; subst eo55; have p305 : 0 ≤ (0 : Int) := (by omega); have q305 : 0 < (t300.length : Int) := of_decide_eq_true (by first | (with_reducible assumption) | assumption); obtain ⟨ad305, e305, hx305_0, hx305_1, hx305_2, hx305_3⟩ := at_T33 (Kd.R_reads' HO304.out).2.2 0 p305 q305; cases e305; have qi305 : (0 < t300.length) = True := eq_true (by omega); (try rw [show ((0 : Int)).toNat = 0 from rfl] at hx305_0); (try rw [show 0 * 4 = 0 from rfl] at hx305_0); (try rw [Addr.add_zero'] at hx305_0); (try rw [show ((0 : Int)).toNat = 0 from rfl] at hx305_1); (try rw [show 0 * 4 = 0 from rfl] at hx305_1); (try rw [Addr.add_zero'] at hx305_1); (try rw [show ((0 : Int)).toNat = 0 from rfl] at hx305_2); (try rw [show 0 * 4 = 0 from rfl] at hx305_2); (try rw [Addr.add_zero'] at hx305_2); (try rw [show ((0 : Int)).toNat = 0 from rfl] at hx305_3); (try rw [show 0 * 4 = 0 from rfl] at hx305_3); (try rw [Addr.add_zero'] at hx305_3); replace p305 := eq_true p305; replace q305 := eq_true q305))
            go_ret
            exact ⟨rsl_, bel_⟩
          ·rw [if_neg c33] at H
           exact absurd H (by simp)
         ·rw [if_neg c32] at H
          have c32b0 : ((t300.length : Int) == 2) = false := beq_eq_false_iff_ne.mpr c32
          have c32b1 : ((t300.length : Int) != 2) = true := bne_iff_ne.mpr c32
          obtain rfl := Option.some.inj H
          go_wp2_with (first | ((with_reducible refine gate_callee (f := 17) rfl ?_); refine goesL_ (some 49) rfl rfl Try.func17 (by kernel_rfl) rfl #[.string a0] rfl goa_ ?_; (with_reducible refine (ident_Quote.calls a0 t295 _ A24.out).mono ?_); rintro e w56 ⟨rfl, hb⟩; refine ⟨_, rfl, ?_⟩; have n0_ := Aside0.mk (below_step bel_ hb); clear HB; have HB := n0_; clear n0_; clear hb) | ((with_reducible refine gate_dst (N := 55) rfl ?_); (try (refine gate_guard (by rfl) ?_; dsimp only)); refine Kd.Z_bytes _ 5 9 27 ?hg (N := 55) ?hd (x := .tmp 54) t295 ?ho ?hx Try.underlying9 Try.underlying27 Try.underlying5 ?hm (Below.refl _ _) (Nat.le_refl _) ?_; (case hd => rfl); (case hg => rfl); (case ho => rfl); (case hx => first | rfl | (go_simp; done)); (case hm => have h_ : (t295.size : Int) ≤ 140737488355328 := of_decide_eq_true (by first | (with_reducible assumption) | assumption); omega); intro v298 w57 ho58 hb hg_ hnew_; clear hg_ hnew_; (first | rw [← Ny297.out] at ho58 | (simp only [Int.reduceToNat] at ho58; rw [← Ny297.out] at ho58)); have n0_ := Aside0.mk (Kd.Z_lower ho58 (below_size bel_)); have n1_ := Aside0.mk (below_step bel_ hb); clear HB; have HO299 := n0_; have HB := n1_; clear n0_ n1_; clear hb ho58; obtain ⟨Ao59, co59, eo59⟩ := Kd.Z_slice HO299.out; subst eo59) | ((with_reducible refine gate_callee (f := 13) rfl ?_); refine goesL_ (some 56) rfl rfl Try.func13 (by kernel_rfl) rfl #[.slice Ao59 y297.length co59] rfl goa_ ?_; (with_reducible refine (token_Tokens.calls kj7 _ _ y297 t300 t301 t302 _ ?side1 ?side2 A30.out).mono ?_); (case side1 => repeat (first | exact (Kd.Z_reads' HO299.out).2.2 | (with_reducible refine Kd.C_alloc ?_ _) | (with_reducible refine Kd.C_drewN ?_ _) | (with_reducible refine Kd.C_drew ?_))); (case side2 => exact (Kd.Z_reads' HO299.out).2.1); rintro e w60 ⟨v303, rfl, ho0, hb⟩; refine ⟨_, rfl, ?_⟩; have n0_ := Aside0.mk (Kd.Z_below (by (with_reducible repeat (first | apply Kd.Z_alloc | apply Kd.Z_drewN | apply Kd.Z_drew)); exact HO299.out) hb); have n1_ := Aside0.mk (Kd.R_lower ho0 (below_size bel_)); have n2_ := Aside0.mk (below_step bel_ hb); clear HO299; clear HB; have HO299 := n0_; have HO304 := n1_; have HB := n2_; clear n0_ n1_ n2_; (try clear hb); (try clear hb2); (try clear hk); (try clear hi); (try clear ho0); obtain ⟨Ao61, co61, eo61⟩ := Kd.R_slice HO304.out; subst eo61))
          go_ret
          exact ⟨rsl_, bel_⟩
        ·rw [if_neg c31] at H
         have c31b0 : (t302 == 0) = false := beq_eq_false_iff_ne.mpr c31
         have c31b1 : (t302 != 0) = true := bne_iff_ne.mpr c31
         obtain rfl := Option.some.inj H
         go_wp2_with (first | ((with_reducible refine gate_callee (f := 17) rfl ?_); refine goesL_ (some 49) rfl rfl Try.func17 (by kernel_rfl) rfl #[.string a0] rfl goa_ ?_; (with_reducible refine (ident_Quote.calls a0 t295 _ A24.out).mono ?_); rintro e w62 ⟨rfl, hb⟩; refine ⟨_, rfl, ?_⟩; have n0_ := Aside0.mk (below_step bel_ hb); clear HB; have HB := n0_; clear n0_; clear hb) | ((with_reducible refine gate_dst (N := 55) rfl ?_); (try (refine gate_guard (by rfl) ?_; dsimp only)); refine Kd.Z_bytes _ 5 9 27 ?hg (N := 55) ?hd (x := .tmp 54) t295 ?ho ?hx Try.underlying9 Try.underlying27 Try.underlying5 ?hm (Below.refl _ _) (Nat.le_refl _) ?_; (case hd => rfl); (case hg => rfl); (case ho => rfl); (case hx => first | rfl | (go_simp; done)); (case hm => have h_ : (t295.size : Int) ≤ 140737488355328 := of_decide_eq_true (by first | (with_reducible assumption) | assumption); omega); intro v298 w63 ho64 hb hg_ hnew_; clear hg_ hnew_; (first | rw [← Ny297.out] at ho64 | (simp only [Int.reduceToNat] at ho64; rw [← Ny297.out] at ho64)); have n0_ := Aside0.mk (Kd.Z_lower ho64 (below_size bel_)); have n1_ := Aside0.mk (below_step bel_ hb); clear HB; have HO299 := n0_; have HB := n1_; clear n0_ n1_; clear hb ho64; obtain ⟨Ao65, co65, eo65⟩ := Kd.Z_slice HO299.out; subst eo65) | ((with_reducible refine gate_callee (f := 13) rfl ?_); refine goesL_ (some 56) rfl rfl Try.func13 (by kernel_rfl) rfl #[.slice Ao65 y297.length co65] rfl goa_ ?_; (with_reducible refine (token_Tokens.calls kj7 _ _ y297 t300 t301 t302 _ ?side1 ?side2 A30.out).mono ?_); (case side1 => repeat (first | exact (Kd.Z_reads' HO299.out).2.2 | (with_reducible refine Kd.C_alloc ?_ _) | (with_reducible refine Kd.C_drewN ?_ _) | (with_reducible refine Kd.C_drew ?_))); (case side2 => exact (Kd.Z_reads' HO299.out).2.1); rintro e w66 ⟨v303, rfl, ho0, hb⟩; refine ⟨_, rfl, ?_⟩; have n0_ := Aside0.mk (Kd.Z_below (by (with_reducible repeat (first | apply Kd.Z_alloc | apply Kd.Z_drewN | apply Kd.Z_drew)); exact HO299.out) hb); have n1_ := Aside0.mk (Kd.R_lower ho0 (below_size bel_)); have n2_ := Aside0.mk (below_step bel_ hb); clear HO299; clear HB; have HO299 := n0_; have HO304 := n1_; have HB := n2_; clear n0_ n1_ n2_; (try clear hb); (try clear hb2); (try clear hk); (try clear hi); (try clear ho0)))
         go_ret
         exact ⟨rsl_, bel_⟩
       ·rw [if_neg c29] at H
        exact absurd H (by simp)
  ·rw [if_neg c6] at H
   exact absurd H (by simp)

/-- THE ONE PURE STATEMENT of parterrelaw04_IdentBack. -/
def parterrelaw04_IdentBack.Pure : Prop := ∀ (a0 : ByteArray), gStr a0 → ∃ k, parterrelaw04_IdentBack.f k a0 = some true

end Go.Proofs.Ytfccpnpocfjbcaa.PTk
