-- Written by a program of this session (wip/p2) out of the translation; Lean checks it.
import Derived.Test.YtdjfdhnmbimkoaaSq
import Derived.Test.YtdjfdhnmbimkoaaPRsx0
import Derived.Test.YtdjfdhnmbimkoaaPRsx2
import Derived.Test.YtdjfdhnmbimkoaaPRsx5
import Derived.Test.YtdjfdhnmbimkoaaPRsx10
namespace Go.Proofs.Ytdjfdhnmbimkoaa.PRs
open Go.RowKit Go.Proofs.YtdjfdhnmbimkoaaW.PrintWords Go.Proofs.YtdjfdhnmbimkoaaW.PrintLast Go.Proofs.YtdjfdhnmbimkoaaW.PrintMore
attribute [local go_sem] max2_int min2_int max_two min_two max_three min_three max_four min_four   -- for this text's walks alone
set_option linter.unusedVariables false
set_option linter.unusedSimpArgs false
open Go.Proofs.Ytdjfdhnmbimkoaa.Opn Go.Proofs.Ytdjfdhnmbimkoaa.Giv

attribute [local go_sem high] eqA72
/-! ### parterrelaw18_lives: function 57 -/
def parterrelaw18_lives.f (k : Nat)  : Option (Bool) := if 3 ≤ 11728124029610 then ((some (List.replicate 3 [] : List (List ByteArray))).bind fun y157 => ((parterrelaw18_num.f 3).bind fun bt161 => ((parterrelaw18_num.f 1).bind fun bt164 => ((resolve_Span.f k y157 bt161.1 bt161.2.1 bt161.2.2 bt164.1 bt164.2.1 bt164.2.2).bind fun bt167 => ((resolve_Span.f k y157 4 2 (⟨#[]⟩ : ByteArray) 1 0 (⟨#[]⟩ : ByteArray)).bind fun bt173 => ((parterrelaw18_num.f (-1)).bind fun bt179 => ((resolve_Span.f k y157 bt179.1 bt179.2.1 bt179.2.2 1 0 (⟨#[]⟩ : ByteArray)).bind fun bt182 => (if bt167.2.2.2.2 = 0 then (if (!bt167.1 && (bt167.2.1 == 0 && (bt167.2.2.1 == 2 && (bt167.2.2.2.1 == 0)))) = true then (if bt173.2.2.2.2 = 0 then (if (bt173.1 && (bt173.2.1 == 0 && (bt173.2.2.1 == 0 && (bt173.2.2.2.1 == 2)))) = true then (if bt182.2.2.2.2 = 0 then (some (!bt182.1 && (bt182.2.1 == 2 && (bt182.2.2.1 == 3 && (bt182.2.2.2.1 == 0))))) else (none)) else (none)) else (none)) else (none)) else (none))))))))) else (none)
theorem parterrelaw18_lives.mono : ∀ k, LeO (parterrelaw18_lives.f k ) (parterrelaw18_lives.f (k + 1) ) := by
 intro  k
 unfold parterrelaw18_lives.f
 repeat' first
   | (with_reducible exact resolve_Span.mono _ _ _ _ _ _ _ _)
   | (with_reducible exact LeO.refl _)
   | (with_reducible exact LeO.none _)
   | (with_reducible refine LeO.ite ?_ ?_)
   | (with_reducible refine LeO.bind ?_ (fun _ => ?_))
def parterrelaw18_lives.T5 : Bool × List (List Nat × List Nat) := (true, [([], []), ([], []), ([], []), ([0, 1, 2, 1], [0, 1, 2]), ([3], [3]), ([4], [4]), ([4], [4]), ([], []), ([7, 5, 3, 0, 1, 2, 3, 4, 5, 7], [5, 7]), ([6, 8, 0, 1, 2, 3, 4, 5, 6, 7, 8], [6])])
def parterrelaw18_lives.B5 : List Nat := [0, 0, 0, 7, 15, 31, 31, 0, 191, 511]
theorem parterrelaw18_lives.tab5 : rtab .any (opsOf Try.f57 5) = parterrelaw18_lives.T5 := by kernel_rfl
theorem parterrelaw18_lives.bits5 : waitsOk parterrelaw18_lives.T5.2 parterrelaw18_lives.B5 = true := by kernel_rfl
set_option maxHeartbeats 8000000 in
set_option maxRecDepth 100000 in
theorem parterrelaw18_lives.calls (k : Nat)  (r : Bool) (w : World) (h : parterrelaw18_lives.f k  = some r) :
  Calls Try.prog 57 #[] w fun e w' => e = .returned (.bool r) ∧ Below w.heap.size w w' := by
 have hu69 := Try.underlying69
 have hu72 := Try.underlying72
 have HB := Aside0.mk (Below.refl w.heap.size w)
 have H : (if 3 ≤ 11728124029610 then ((some (List.replicate 3 [] : List (List ByteArray))).bind fun y157 => ((parterrelaw18_num.f 3).bind fun bt161 => ((parterrelaw18_num.f 1).bind fun bt164 => ((resolve_Span.f k y157 bt161.1 bt161.2.1 bt161.2.2 bt164.1 bt164.2.1 bt164.2.2).bind fun bt167 => ((resolve_Span.f k y157 4 2 (⟨#[]⟩ : ByteArray) 1 0 (⟨#[]⟩ : ByteArray)).bind fun bt173 => ((parterrelaw18_num.f (-1)).bind fun bt179 => ((resolve_Span.f k y157 bt179.1 bt179.2.1 bt179.2.2 1 0 (⟨#[]⟩ : ByteArray)).bind fun bt182 => (if bt167.2.2.2.2 = 0 then (if (!bt167.1 && (bt167.2.1 == 0 && (bt167.2.2.1 == 2 && (bt167.2.2.2.1 == 0)))) = true then (if bt173.2.2.2.2 = 0 then (if (bt173.1 && (bt173.2.1 == 0 && (bt173.2.2.1 == 0 && (bt173.2.2.2.1 == 2)))) = true then (if bt182.2.2.2.2 = 0 then (some (!bt182.1 && (bt182.2.1 == 2 && (bt182.2.2.1 == 3 && (bt182.2.2.2.1 == 0))))) else (none)) else (none)) else (none)) else (none)) else (none))))))))) else (none)) = some r := h
 clear h
 by_cases c1 : 3 ≤ 11728124029610
 ·rw [if_pos c1] at H
  have c1b0 := eq_true c1
  have c1b1 : decide (3 ≤ 11728124029610) = true := decide_eq_true c1
  clear c1
  obtain ⟨y157, hy157⟩ : ∃ y_ : List (List ByteArray), y_ = (List.replicate 3 []) := ⟨_, rfl⟩
  replace H : ((parterrelaw18_num.f 3).bind fun bt161 => ((parterrelaw18_num.f 1).bind fun bt164 => ((resolve_Span.f k y157 bt161.1 bt161.2.1 bt161.2.2 bt164.1 bt164.2.1 bt164.2.2).bind fun bt167 => ((resolve_Span.f k y157 4 2 (⟨#[]⟩ : ByteArray) 1 0 (⟨#[]⟩ : ByteArray)).bind fun bt173 => ((parterrelaw18_num.f (-1)).bind fun bt179 => ((resolve_Span.f k y157 bt179.1 bt179.2.1 bt179.2.2 1 0 (⟨#[]⟩ : ByteArray)).bind fun bt182 => (if bt167.2.2.2.2 = 0 then (if (!bt167.1 && (bt167.2.1 == 0 && (bt167.2.2.1 == 2 && (bt167.2.2.2.1 == 0)))) = true then (if bt173.2.2.2.2 = 0 then (if (bt173.1 && (bt173.2.1 == 0 && (bt173.2.2.1 == 0 && (bt173.2.2.2.1 == 2)))) = true then (if bt182.2.2.2.2 = 0 then (some (!bt182.1 && (bt182.2.1 == 2 && (bt182.2.2.1 == 3 && (bt182.2.2.2.1 == 0))))) else (none)) else (none)) else (none)) else (none)) else (none)))))))) = some r := by first | (rw [hy157]; with_reducible exact H) | (have H2_ := (Option.bind_some _ _).symm.trans H; rw [hy157]; with_reducible exact H2_) | (have H2_ := (Option.bind_some _ _).symm.trans H; with_reducible exact H2_) | with_reducible exact H | (rw [hy157]; exact H) | exact H
  have Ny157 := Aside0.mk hy157
  clear hy157
  replace H := Option.bind_eq_some_iff.mp H
  obtain ⟨⟨t161, t162, t163⟩, A20, H⟩ := H
  try dsimp only at H
  have A2 := Aside0.mk A20
  clear A20
  replace H := Option.bind_eq_some_iff.mp H
  obtain ⟨⟨t164, t165, t166⟩, A30, H⟩ := H
  try dsimp only at H
  have A3 := Aside0.mk A30
  clear A30
  replace H := Option.bind_eq_some_iff.mp H
  obtain ⟨⟨t167, t168, t169, t170, t171⟩, A40, H⟩ := H
  try dsimp only at H
  have A4 := Aside0.mk A40
  clear A40
  replace H := Option.bind_eq_some_iff.mp H
  obtain ⟨⟨t173, t174, t175, t176, t177⟩, A50, H⟩ := H
  try dsimp only at H
  have A5 := Aside0.mk A50
  clear A50
  replace H := Option.bind_eq_some_iff.mp H
  obtain ⟨⟨t179, t180, t181⟩, A60, H⟩ := H
  try dsimp only at H
  have A6 := Aside0.mk A60
  clear A60
  replace H := Option.bind_eq_some_iff.mp H
  obtain ⟨⟨t182, t183, t184, t185, t186⟩, A70, H⟩ := H
  try dsimp only at H
  have A7 := Aside0.mk A70
  clear A70
  by_cases c8 : t171 = 0
  ·rw [if_pos c8] at H
   have c8b0 : (t171 == 0) = true := beq_iff_eq.mpr c8
   have c8b1 : (t171 != 0) = false := bne_eq_false_iff_eq.mpr c8
   clear c8
   by_cases c9 : (!t167 && (t168 == 0 && (t169 == 2 && (t170 == 0)))) = true
   ·rw [if_pos c9] at H
    have c9b0 : (!t167 && (t168 == 0 && (t169 == 2 && (t170 == 0)))) = true := c9
    clear c9
    by_cases c10 : t177 = 0
    ·rw [if_pos c10] at H
     have c10b0 : (t177 == 0) = true := beq_iff_eq.mpr c10
     have c10b1 : (t177 != 0) = false := bne_eq_false_iff_eq.mpr c10
     clear c10
     by_cases c11 : (t173 && (t174 == 0 && (t175 == 0 && (t176 == 2)))) = true
     ·rw [if_pos c11] at H
      have c11b0 : (t173 && (t174 == 0 && (t175 == 0 && (t176 == 2)))) = true := c11
      clear c11
      by_cases c12 : t186 = 0
      ·rw [if_pos c12] at H
       have c12b0 : (t186 == 0) = true := beq_iff_eq.mpr c12
       have c12b1 : (t186 != 0) = false := bne_eq_false_iff_eq.mpr c12
       clear c12
       obtain rfl := Option.some.inj H
       go_enter Try.func57, Try.ntmps57
       try go_wp2_with (first | ((with_reducible refine gate_dst (N := 9) rfl ?_); refine Kd.S_make (Kd.slice 9 Kd.string) _ 64 rfl (N := 9) rfl 22 _ _ rfl 3 rfl rfl Try.underlying22 (.slice none 0 0) 24 info64 rfl (by decide) (by omega) [] (ok := fun _ => True) (okp := fun _ => True) ⟨_, rfl, Kd.R_nil _ _ _ _ _⟩ (fun _ hk => hk) trivial (by omega) (by omega) (Below.refl _ _) (Nat.le_refl _) ?_; intro v158 w13 ho14 hb hg_ hnew_; clear hg_ hnew_; (first | rw [← Ny157.out] at ho14 | (simp only [Int.reduceToNat] at ho14; rw [← Ny157.out] at ho14)); have n0_ := Aside0.mk (Kd.S_lower ho14 (below_size bel_)); have n1_ := Aside0.mk (below_step bel_ hb); clear HB; have HO159 := n0_; have HB := n1_; clear n0_ n1_; clear hb ho14) | ((with_reducible refine gate_dst (N := 2) rfl ?_); refine box_event ?hg (N := 2) ?hd (cs := #[.int .i64 0, .int .i64 0, .string (⟨#[]⟩ : ByteArray)]) (t := 69) ?hr ?_; (case hd => rfl); (case hg => rfl); (case hr => first | (go_simp; done) | (go_simp; rfl)); intro gb160 hg w15 hbox hb; have n0_ := Aside0.mk (Kd.S_below (by (with_reducible repeat (first | apply Kd.S_alloc | apply Kd.S_drewN | apply Kd.S_drew)); exact HO159.out) hb); have n1_ := Aside0.mk (below_step bel_ hb); have n2_ := Aside0.mk (hbox); have n3_ := Aside0.mk ((bsz_ hg : w.heap.size ≤ gb160)); have n4_ := Aside0.mk ((bsz_ hg : w.heap.size ≤ gb160)); clear HO159; clear HB; have HO159 := n0_; have HB := n1_; have BK160 := n2_; have GW160 := n3_; have GE160 := n4_; clear n0_ n1_ n2_ n3_ n4_; clear hb hbox hg; have hcz16_0 : w15.cell? ⟨gb160, 0, none⟩ = some (.int .i64 0) := (blk_cell BK160.out 0).trans rfl; have hcz16_1 : w15.cell? ⟨gb160, 1, none⟩ = some (.int .i64 0) := (blk_cell BK160.out 1).trans rfl; have hcz16_2 : w15.cell? ⟨gb160, 2, none⟩ = some (.string (⟨#[]⟩ : ByteArray)) := (blk_cell BK160.out 2).trans rfl; have hfz16_0 := blk_frozen BK160.out 0; have hfz16_1 := blk_frozen BK160.out 1; have hfz16_2 := blk_frozen BK160.out 2) | ((with_reducible refine gate_callee (f := 56) rfl ?_); refine goesL_ (some 13) rfl rfl Try.func56 (by kernel_rfl) rfl #[.int .i64 3] rfl goa_ ?_; (with_reducible refine (parterrelaw18_num.calls 3 t161 t162 t163 _ A2.out).mono ?_); rintro e w17 ⟨rfl, hb⟩; refine ⟨_, rfl, ?_⟩; have n0_ := Aside0.mk (Kd.S_below (by (with_reducible repeat (first | apply Kd.S_alloc | apply Kd.S_drewN | apply Kd.S_drew)); exact (Kd.S_mono (Kd.S_far (p := ⟨gb160, 2, none⟩) (Kd.S_far (p := ⟨gb160, 1, none⟩) (Kd.S_far (p := ⟨gb160, 0, none⟩) (Kd.S_types HO159.out BK160.out (by decide)) (fun _ hk => hk.2) (.int .i64 1)) (fun _ hk => hk.2) (.int .i64 0)) (fun _ hk => hk.2) (.string (⟨#[]⟩ : ByteArray))) (fun _ h_ => h_.1))) hb); have n1_ := Aside0.mk (blk_below (g := gb160) (o := .cells #[.int .i64 1, .int .i64 0, .string (⟨#[]⟩ : ByteArray)] 69 (0, 0)) (by (with_reducible repeat (first | refine blk_drewN ?_ _ | refine blk_drew ?_ | refine blk_alloc ?_ _)); refine blk_put (cs := #[.int .i64 1, .int .i64 0, .string (⟨#[]⟩ : ByteArray)]) ?_ 2 _ rfl; (with_reducible repeat (first | refine blk_drewN ?_ _ | refine blk_drew ?_ | refine blk_alloc ?_ _)); refine blk_put (cs := #[.int .i64 1, .int .i64 0, .string (⟨#[]⟩ : ByteArray)]) ?_ 1 _ rfl; (with_reducible repeat (first | refine blk_drewN ?_ _ | refine blk_drew ?_ | refine blk_alloc ?_ _)); refine blk_put (cs := #[.int .i64 0, .int .i64 0, .string (⟨#[]⟩ : ByteArray)]) ?_ 0 _ rfl; (with_reducible repeat (first | refine blk_drewN ?_ _ | refine blk_drew ?_ | refine blk_alloc ?_ _)); exact BK160.out) hb); have n2_ := Aside0.mk (below_step bel_ hb); clear HO159; clear BK160; clear HB; have HO159 := n0_; have BK160 := n1_; have HB := n2_; clear n0_ n1_ n2_; clear hb) | ((with_reducible refine gate_callee (f := 56) rfl ?_); refine goesL_ (some 14) rfl rfl Try.func56 (by kernel_rfl) rfl #[.int .i64 1] rfl goa_ ?_; (with_reducible refine (parterrelaw18_num.calls 1 t164 t165 t166 _ A3.out).mono ?_); rintro e w18 ⟨rfl, hb⟩; refine ⟨_, rfl, ?_⟩; have n0_ := Aside0.mk (Kd.S_below (by (with_reducible repeat (first | apply Kd.S_alloc | apply Kd.S_drewN | apply Kd.S_drew)); exact HO159.out) hb); have n1_ := blb_ BK160 hb; have n2_ := Aside0.mk (below_step bel_ hb); clear HO159; clear BK160; clear HB; have HO159 := n0_; have BK160 := n1_; have HB := n2_; clear n0_ n1_ n2_; clear hb; obtain ⟨Ao19, co19, eo19⟩ := Kd.S_slice HO159.out; subst eo19) | ((with_reducible refine gate_callee (f := 58) rfl ?_); refine goesL_ (some 15) rfl rfl Try.func58 (by kernel_rfl) rfl #[.slice Ao19 y157.length co19, .agg #[.int .i64 t161, .int .i64 t162, .string t163], .agg #[.int .i64 t164, .int .i64 t165, .string t166]] rfl goa_ ?_; (with_reducible refine (resolve_Span.calls k _ _ y157 t161 t162 t163 t164 t165 t166 t167 t168 t169 t170 t171 _ ?side1 ?side2 A4.out).mono ?_); (case side1 => repeat (first | exact (Kd.S_reads' HO159.out).2.2 | (with_reducible refine Kd.C_alloc ?_ _) | (with_reducible refine Kd.C_drewN ?_ _) | (with_reducible refine Kd.C_drew ?_))); (case side2 => exact (Kd.S_reads' HO159.out).2.1); rintro e w20 ⟨rfl, hb⟩; refine ⟨_, rfl, ?_⟩; have n0_ := Aside0.mk (Kd.S_below (by (with_reducible repeat (first | apply Kd.S_alloc | apply Kd.S_drewN | apply Kd.S_drew)); exact HO159.out) hb); have n1_ := blb_ BK160 hb; have n2_ := Aside0.mk (below_step bel_ hb); clear HO159; clear BK160; clear HB; have HO159 := n0_; have BK160 := n1_; have HB := n2_; clear n0_ n1_ n2_; clear hb) | ((with_reducible refine gate_dst (N := 3) rfl ?_); refine box_event ?hg (N := 3) ?hd (cs := #[.bool false, .int .i64 0, .int .i64 0, .int .i64 0]) (t := 72) ?hr ?_; (case hd => rfl); (case hg => rfl); (case hr => first | (go_simp; done) | (go_simp; rfl)); intro gb172 hg w21 hbox hb; have n0_ := Aside0.mk (Kd.S_below (by (with_reducible repeat (first | apply Kd.S_alloc | apply Kd.S_drewN | apply Kd.S_drew)); exact HO159.out) hb); have n1_ := blb_ BK160 hb; have n2_ := Aside0.mk (below_step bel_ hb); have n3_ := Aside0.mk (hbox); have n4_ := Aside0.mk ((bsz_ hg : w.heap.size ≤ gb172)); have n5_ := Aside0.mk ((bsz_ hg : w.heap.size ≤ gb172)); have n6_ := Aside0.mk (bne_ BK160 hg : gb160 ≠ gb172); have n7_ := Aside0.mk (bng_ BK160 hg : gb172 ≠ gb160); clear HO159; clear BK160; clear HB; have HO159 := n0_; have BK160 := n1_; have HB := n2_; have BK172 := n3_; have GW172 := n4_; have GE172 := n5_; have NB160_172 := n6_; have NB172_160 := n7_; clear n0_ n1_ n2_ n3_ n4_ n5_ n6_ n7_; clear hb hbox hg; have hnb22 := NB172_160.out; have hnc22 := NB160_172.out; have hcz23_0 : w21.cell? ⟨gb172, 0, none⟩ = some (.bool false) := (blk_cell BK172.out 0).trans rfl; have hcz23_1 : w21.cell? ⟨gb172, 1, none⟩ = some (.int .i64 0) := (blk_cell BK172.out 1).trans rfl; have hcz23_2 : w21.cell? ⟨gb172, 2, none⟩ = some (.int .i64 0) := (blk_cell BK172.out 2).trans rfl; have hcz23_3 : w21.cell? ⟨gb172, 3, none⟩ = some (.int .i64 0) := (blk_cell BK172.out 3).trans rfl; have hfz23_0 := blk_frozen BK172.out 0; have hfz23_1 := blk_frozen BK172.out 1; have hfz23_2 := blk_frozen BK172.out 2; have hfz23_3 := blk_frozen BK172.out 3; have hcz24_0 : w21.cell? ⟨gb160, 0, none⟩ = some (.int .i64 1) := (blk_cell BK160.out 0).trans rfl; have hcz24_1 : w21.cell? ⟨gb160, 1, none⟩ = some (.int .i64 0) := (blk_cell BK160.out 1).trans rfl; have hcz24_2 : w21.cell? ⟨gb160, 2, none⟩ = some (.string (⟨#[]⟩ : ByteArray)) := (blk_cell BK160.out 2).trans rfl; have hfz24_0 := blk_frozen BK160.out 0; have hfz24_1 := blk_frozen BK160.out 1; have hfz24_2 := blk_frozen BK160.out 2) | ((with_reducible refine gate_callee (f := 58) rfl ?_); refine goesL_ (some 22) rfl rfl Try.func58 (by kernel_rfl) rfl #[.slice Ao19 y157.length co19, .agg #[.int .i64 4, .int .i64 2, .string (⟨#[]⟩ : ByteArray)], .agg #[.int .i64 1, .int .i64 0, .string (⟨#[]⟩ : ByteArray)]] rfl goa_ ?_; (with_reducible refine (resolve_Span.calls k _ _ y157 4 2 (⟨#[]⟩ : ByteArray) 1 0 (⟨#[]⟩ : ByteArray) t173 t174 t175 t176 t177 _ ?side1 ?side2 A5.out).mono ?_); (case side1 => refine (Kd.S_reads' (e := 64) (base := w.heap.size) (ok := fun k_ => True) (n := y157.length) (c := co19) ?_).2.2; exact (by (with_reducible repeat (first | apply Kd.S_alloc | apply Kd.S_drewN | apply Kd.S_drew)); exact (Kd.S_mono (Kd.S_far (p := ⟨gb172, 3, none⟩) (Kd.S_far (p := ⟨gb172, 2, none⟩) (Kd.S_far (p := ⟨gb172, 1, none⟩) (Kd.S_far (p := ⟨gb172, 0, none⟩) (Kd.S_types HO159.out BK172.out (by decide)) (fun _ hk => hk.2) (.bool t167)) (fun _ hk => hk.2) (.int .i64 t168)) (fun _ hk => hk.2) (.int .i64 t169)) (fun _ hk => hk.2) (.int .i64 t170)) (fun _ h_ => h_.1)))); (case side2 => exact (Kd.S_reads' HO159.out).2.1); rintro e w25 ⟨rfl, hb⟩; refine ⟨_, rfl, ?_⟩; have n0_ := Aside0.mk (Kd.S_below (by (with_reducible repeat (first | apply Kd.S_alloc | apply Kd.S_drewN | apply Kd.S_drew)); exact (Kd.S_mono (Kd.S_far (p := ⟨gb172, 3, none⟩) (Kd.S_far (p := ⟨gb172, 2, none⟩) (Kd.S_far (p := ⟨gb172, 1, none⟩) (Kd.S_far (p := ⟨gb172, 0, none⟩) (Kd.S_types HO159.out BK172.out (by decide)) (fun _ hk => hk.2) (.bool t167)) (fun _ hk => hk.2) (.int .i64 t168)) (fun _ hk => hk.2) (.int .i64 t169)) (fun _ hk => hk.2) (.int .i64 t170)) (fun _ h_ => h_.1))) hb); have n1_ := Aside0.mk (blk_below (g := gb160) (o := .cells #[.int .i64 1, .int .i64 0, .string (⟨#[]⟩ : ByteArray)] 69 (0, 0)) (by (with_reducible repeat (first | refine blk_drewN ?_ _ | refine blk_drew ?_ | refine blk_alloc ?_ _)); refine blk_far ?_ NB160_172.out _; (with_reducible repeat (first | refine blk_drewN ?_ _ | refine blk_drew ?_ | refine blk_alloc ?_ _)); refine blk_far ?_ NB160_172.out _; (with_reducible repeat (first | refine blk_drewN ?_ _ | refine blk_drew ?_ | refine blk_alloc ?_ _)); refine blk_far ?_ NB160_172.out _; (with_reducible repeat (first | refine blk_drewN ?_ _ | refine blk_drew ?_ | refine blk_alloc ?_ _)); refine blk_far ?_ NB160_172.out _; (with_reducible repeat (first | refine blk_drewN ?_ _ | refine blk_drew ?_ | refine blk_alloc ?_ _)); exact BK160.out) hb); have n2_ := Aside0.mk (blk_below (g := gb172) (o := .cells #[.bool t167, .int .i64 t168, .int .i64 t169, .int .i64 t170] 72 (0, 0)) (by (with_reducible repeat (first | refine blk_drewN ?_ _ | refine blk_drew ?_ | refine blk_alloc ?_ _)); refine blk_put (cs := #[.bool t167, .int .i64 t168, .int .i64 t169, .int .i64 0]) ?_ 3 _ rfl; (with_reducible repeat (first | refine blk_drewN ?_ _ | refine blk_drew ?_ | refine blk_alloc ?_ _)); refine blk_put (cs := #[.bool t167, .int .i64 t168, .int .i64 0, .int .i64 0]) ?_ 2 _ rfl; (with_reducible repeat (first | refine blk_drewN ?_ _ | refine blk_drew ?_ | refine blk_alloc ?_ _)); refine blk_put (cs := #[.bool t167, .int .i64 0, .int .i64 0, .int .i64 0]) ?_ 1 _ rfl; (with_reducible repeat (first | refine blk_drewN ?_ _ | refine blk_drew ?_ | refine blk_alloc ?_ _)); refine blk_put (cs := #[.bool false, .int .i64 0, .int .i64 0, .int .i64 0]) ?_ 0 _ rfl; (with_reducible repeat (first | refine blk_drewN ?_ _ | refine blk_drew ?_ | refine blk_alloc ?_ _)); exact BK172.out) hb); have n3_ := Aside0.mk (below_step bel_ hb); clear HO159; clear BK160; clear BK172; clear HB; have HO159 := n0_; have BK160 := n1_; have BK172 := n2_; have HB := n3_; clear n0_ n1_ n2_ n3_; clear hb) | ((with_reducible refine gate_dst (N := 5) rfl ?_); refine box_event ?hg (N := 5) ?hd (cs := #[.bool false, .int .i64 0, .int .i64 0, .int .i64 0]) (t := 72) ?hr ?_; (case hd => rfl); (case hg => rfl); (case hr => first | (go_simp; done) | (go_simp; rfl)); intro gb178 hg w26 hbox hb; have n0_ := Aside0.mk (Kd.S_below (by (with_reducible repeat (first | apply Kd.S_alloc | apply Kd.S_drewN | apply Kd.S_drew)); exact HO159.out) hb); have n1_ := blb_ BK160 hb; have n2_ := blb_ BK172 hb; have n3_ := Aside0.mk (below_step bel_ hb); have n4_ := Aside0.mk (hbox); have n5_ := Aside0.mk ((bsz_ hg : w.heap.size ≤ gb178)); have n6_ := Aside0.mk ((bsz_ hg : w.heap.size ≤ gb178)); have n7_ := Aside0.mk (bne_ BK160 hg : gb160 ≠ gb178); have n8_ := Aside0.mk (bng_ BK160 hg : gb178 ≠ gb160); have n9_ := Aside0.mk (bne_ BK172 hg : gb172 ≠ gb178); have n10_ := Aside0.mk (bng_ BK172 hg : gb178 ≠ gb172); clear HO159; clear BK160; clear BK172; clear HB; have HO159 := n0_; have BK160 := n1_; have BK172 := n2_; have HB := n3_; have BK178 := n4_; have GW178 := n5_; have GE178 := n6_; have NB160_178 := n7_; have NB178_160 := n8_; have NB172_178 := n9_; have NB178_172 := n10_; clear n0_ n1_ n2_ n3_ n4_ n5_ n6_ n7_ n8_ n9_ n10_; clear hb hbox hg; have hnb27 := NB178_160.out; have hnc27 := NB160_178.out; have hnb28 := NB178_172.out; have hnc28 := NB172_178.out; have hcz29_0 : w26.cell? ⟨gb178, 0, none⟩ = some (.bool false) := (blk_cell BK178.out 0).trans rfl; have hcz29_1 : w26.cell? ⟨gb178, 1, none⟩ = some (.int .i64 0) := (blk_cell BK178.out 1).trans rfl; have hcz29_2 : w26.cell? ⟨gb178, 2, none⟩ = some (.int .i64 0) := (blk_cell BK178.out 2).trans rfl; have hcz29_3 : w26.cell? ⟨gb178, 3, none⟩ = some (.int .i64 0) := (blk_cell BK178.out 3).trans rfl; have hfz29_0 := blk_frozen BK178.out 0; have hfz29_1 := blk_frozen BK178.out 1; have hfz29_2 := blk_frozen BK178.out 2; have hfz29_3 := blk_frozen BK178.out 3))
       have n0_ : Aside0 (Kd.S (Kd.slice 9 Kd.string) 64 ((((w26.setCell ⟨gb178, 0, none⟩ (.bool t173)).setCell ⟨gb178, 1, none⟩ (.int .i64 t174)).setCell ⟨gb178, 2, none⟩ (.int .i64 t175)).setCell ⟨gb178, 3, none⟩ (.int .i64 t176)) w.heap.size (fun _ => True) (.slice Ao19 y157.length co19) y157) := ⟨by (with_reducible repeat (first | apply Kd.S_alloc | apply Kd.S_drewN | apply Kd.S_drew)); exact Kd.S_mono (Kd.S_far (p := ⟨gb178, 3, none⟩) (Kd.S_far (p := ⟨gb178, 2, none⟩) (Kd.S_far (p := ⟨gb178, 1, none⟩) (Kd.S_far (p := ⟨gb178, 0, none⟩) (Kd.S_types HO159.out BK178.out (by decide)) (fun _ hk => hk.2) (.bool t173)) (fun _ hk => hk.2) (.int .i64 t174)) (fun _ hk => hk.2) (.int .i64 t175)) (fun _ hk => hk.2) (.int .i64 t176)) (fun _ hk => trivial)⟩
       have n1_ : Aside0 (((((w26.setCell ⟨gb178, 0, none⟩ (.bool t173)).setCell ⟨gb178, 1, none⟩ (.int .i64 t174)).setCell ⟨gb178, 2, none⟩ (.int .i64 t175)).setCell ⟨gb178, 3, none⟩ (.int .i64 t176)).heap[gb160]? = some (.cells #[.int .i64 1, .int .i64 0, .string (⟨#[]⟩ : ByteArray)] 69 (0, 0))) := ⟨by (with_reducible repeat (first | refine blk_drewN ?_ _ | refine blk_drew ?_ | refine blk_alloc ?_ _)); refine blk_far ?_ NB160_178.out _; (with_reducible repeat (first | refine blk_drewN ?_ _ | refine blk_drew ?_ | refine blk_alloc ?_ _)); refine blk_far ?_ NB160_178.out _; (with_reducible repeat (first | refine blk_drewN ?_ _ | refine blk_drew ?_ | refine blk_alloc ?_ _)); refine blk_far ?_ NB160_178.out _; (with_reducible repeat (first | refine blk_drewN ?_ _ | refine blk_drew ?_ | refine blk_alloc ?_ _)); refine blk_far ?_ NB160_178.out _; (with_reducible repeat (first | refine blk_drewN ?_ _ | refine blk_drew ?_ | refine blk_alloc ?_ _)); exact BK160.out⟩
       have n2_ : Aside0 (((((w26.setCell ⟨gb178, 0, none⟩ (.bool t173)).setCell ⟨gb178, 1, none⟩ (.int .i64 t174)).setCell ⟨gb178, 2, none⟩ (.int .i64 t175)).setCell ⟨gb178, 3, none⟩ (.int .i64 t176)).heap[gb172]? = some (.cells #[.bool t167, .int .i64 t168, .int .i64 t169, .int .i64 t170] 72 (0, 0))) := ⟨by (with_reducible repeat (first | refine blk_drewN ?_ _ | refine blk_drew ?_ | refine blk_alloc ?_ _)); refine blk_far ?_ NB172_178.out _; (with_reducible repeat (first | refine blk_drewN ?_ _ | refine blk_drew ?_ | refine blk_alloc ?_ _)); refine blk_far ?_ NB172_178.out _; (with_reducible repeat (first | refine blk_drewN ?_ _ | refine blk_drew ?_ | refine blk_alloc ?_ _)); refine blk_far ?_ NB172_178.out _; (with_reducible repeat (first | refine blk_drewN ?_ _ | refine blk_drew ?_ | refine blk_alloc ?_ _)); refine blk_far ?_ NB172_178.out _; (with_reducible repeat (first | refine blk_drewN ?_ _ | refine blk_drew ?_ | refine blk_alloc ?_ _)); exact BK172.out⟩
       have n3_ : Aside0 (((((w26.setCell ⟨gb178, 0, none⟩ (.bool t173)).setCell ⟨gb178, 1, none⟩ (.int .i64 t174)).setCell ⟨gb178, 2, none⟩ (.int .i64 t175)).setCell ⟨gb178, 3, none⟩ (.int .i64 t176)).heap[gb178]? = some (.cells #[.bool t173, .int .i64 t174, .int .i64 t175, .int .i64 t176] 72 (0, 0))) := ⟨by (with_reducible repeat (first | refine blk_drewN ?_ _ | refine blk_drew ?_ | refine blk_alloc ?_ _)); refine blk_put (cs := #[.bool t173, .int .i64 t174, .int .i64 t175, .int .i64 0]) ?_ 3 _ rfl; (with_reducible repeat (first | refine blk_drewN ?_ _ | refine blk_drew ?_ | refine blk_alloc ?_ _)); refine blk_put (cs := #[.bool t173, .int .i64 t174, .int .i64 0, .int .i64 0]) ?_ 2 _ rfl; (with_reducible repeat (first | refine blk_drewN ?_ _ | refine blk_drew ?_ | refine blk_alloc ?_ _)); refine blk_put (cs := #[.bool t173, .int .i64 0, .int .i64 0, .int .i64 0]) ?_ 1 _ rfl; (with_reducible repeat (first | refine blk_drewN ?_ _ | refine blk_drew ?_ | refine blk_alloc ?_ _)); refine blk_put (cs := #[.bool false, .int .i64 0, .int .i64 0, .int .i64 0]) ?_ 0 _ rfl; (with_reducible repeat (first | refine blk_drewN ?_ _ | refine blk_drew ?_ | refine blk_alloc ?_ _)); exact BK178.out⟩
       have n4_ : Aside0 (Below w.heap.size w ((((w26.setCell ⟨gb178, 0, none⟩ (.bool t173)).setCell ⟨gb178, 1, none⟩ (.int .i64 t174)).setCell ⟨gb178, 2, none⟩ (.int .i64 t175)).setCell ⟨gb178, 3, none⟩ (.int .i64 t176))) := ⟨bel_⟩
       (try clear HO159)
       (try clear BK160)
       (try clear BK172)
       (try clear BK178)
       (try clear HB)
       generalize ((((w26.setCell ⟨gb178, 0, none⟩ (.bool t173)).setCell ⟨gb178, 1, none⟩ (.int .i64 t174)).setCell ⟨gb178, 2, none⟩ (.int .i64 t175)).setCell ⟨gb178, 3, none⟩ (.int .i64 t176)) = w30 at n0_ n1_ n2_ n3_ n4_ ⊢
       have HO159 := n0_
       have BK160 := n1_
       have BK172 := n2_
       have BK178 := n3_
       have HB := n4_
       clear n0_ n1_ n2_ n3_ n4_
       have n0_ := Aside0.mk (Kd.S_drew HO159.out)
       have n1_ := Aside0.mk (blk_drew BK160.out)
       have n2_ := Aside0.mk (blk_drew BK172.out)
       have n3_ := Aside0.mk (blk_drew BK178.out)
       have n4_ := Aside0.mk (below_drew1 HB.out)
       clear HO159
       clear BK160
       clear BK172
       clear BK178
       clear HB
       have HO159 := n0_
       have BK160 := n1_
       have BK172 := n2_
       have BK178 := n3_
       have HB := n4_
       clear n0_ n1_ n2_ n3_ n4_
       refine start_ (n := 10) (S := fun w' => w'.cell? ⟨gb160, 0, none⟩ = some (.int .i64 1) ∧ w'.cell? ⟨gb160, 1, none⟩ = some (.int .i64 0) ∧ w'.cell? ⟨gb160, 2, none⟩ = some (.string (⟨#[]⟩ : ByteArray))) (ds := []) #[false, false, false, false, false, false, false, false, false, false] (by kernel_rfl) rfl rfl ⟨(blk_cell BK160.out 0).trans rfl, (blk_cell BK160.out 1).trans rfl, (blk_cell BK160.out 2).trans rfl⟩ (fun hHeld => ?_); refine with_tabW parterrelaw18_lives.tab5 parterrelaw18_lives.bits5 (fun HT_ HW_ => ?_)
       generalize w30.drew = w31 at HO159 BK160 BK172 BK178 HB hHeld ⊢
       refine pure_ (i := 0) (N := some 26) (v := ?_) (a' := ?_) #[true, false, false, false, false, false, false, false, false, false] rfl rfl (any_of HT_.out (by kernel_rfl)) (fun _ _ _ h => h) (Or.inl ⟨by rfl, ?_⟩) ?_ ?_
       rotate_left
       ·intro w'
        go_simp
        with_reducible rfl
       rotate_left
       ·simp only [Act.put, List.setIfInBounds_toArray, List.set_cons_zero, List.set_cons_succ, i64_w, i32_w]
        rfl
       refine take_ (i := 2) (N := some 28) (v := ?_) (a' := ?_) #[true, false, true, false, false, false, false, false, false, false] rfl rfl (take_ofW HT_.out HW_.out (by kernel_rfl)) (fun _ _ _ h => h) (Or.inl ⟨by rfl, ?_⟩) hHeld ?_ ?_
       rotate_left
       ·rintro w' ⟨s0, s1, s2⟩
        go_simp
        with_reducible rfl
       rotate_left
       ·simp only [Act.put, List.setIfInBounds_toArray, List.set_cons_zero, List.set_cons_succ, i64_w, i32_w]
        rfl
       refine join_ (σ := Nat) 2 #[true, true, true, true, true, true, true, true, false, false] (fun s_ => [(27, .agg #[.int .i64 t179, .int .i64 t180, .string t181]), (29, .tuple #[.agg #[.bool t182, .int .i64 t183, .int .i64 t184, .int .i64 t185], .int .i64 t186]), (7, .pointer (some ⟨s_, 0, none⟩)), (25, .tuple #[.agg #[.bool t182, .int .i64 t183, .int .i64 t184, .int .i64 t185], .int .i64 t186]), (30, .agg #[.bool t182, .int .i64 t183, .int .i64 t184, .int .i64 t185]), (31, .int .i64 t186)]) (fun s_ w' => (w'.cell? ⟨gb160, 0, none⟩ = some (.int .i64 1) ∧ w'.cell? ⟨gb160, 1, none⟩ = some (.int .i64 0) ∧ w'.cell? ⟨gb160, 2, none⟩ = some (.string (⟨#[]⟩ : ByteArray))) ∧ (Kd.S (Kd.slice 9 Kd.string) 64 w' w.heap.size (fun _ => True) (.slice Ao19 y157.length co19) y157) ∧ (w'.heap[gb160]? = some (.cells #[.int .i64 1, .int .i64 0, .string (⟨#[]⟩ : ByteArray)] 69 (0, 0))) ∧ (w'.heap[gb172]? = some (.cells #[.bool t167, .int .i64 t168, .int .i64 t169, .int .i64 t170] 72 (0, 0))) ∧ (w'.heap[gb178]? = some (.cells #[.bool t173, .int .i64 t174, .int .i64 t175, .int .i64 t176] 72 (0, 0))) ∧ (w'.heap[s_]? = some (.cells #[.bool false, .int .i64 0, .int .i64 0, .int .i64 0] 72 (0, 0))) ∧ (w.heap.size ≤ s_) ∧ (w.heap.size ≤ s_) ∧ (gb160 ≠ s_) ∧ (s_ ≠ gb160) ∧ (gb172 ≠ s_) ∧ (s_ ≠ gb172) ∧ (gb178 ≠ s_) ∧ (s_ ≠ gb178) ∧ (Below w.heap.size w w')) ?_ ?_
       rotate_left
       ·intro hCont
        refine two_ (i := 1) (j := 7) (Ni := some 27) (Nj := some 7) #[true, true, true, false, false, false, false, false, false, false] #[true, false, true, false, false, false, false, true, false, false] rfl rfl rfl rfl (two_of HT_.out (by kernel_rfl)) (by decide) (by decide) (fun K hK => ?_) (fun K hK => ?_)
        ·skip
         refine goes_ Try.func56 (by kernel_rfl) rfl #[.int .i64 (-1)] (by rfl) rfl rfl goa_ ?_
         with_reducible refine (parterrelaw18_num.calls (-1) t179 t180 t181 _ A6.out).mono ?_
         rintro e w32 ⟨rfl, hb⟩
         refine ⟨_, rfl, ?_⟩
         have n0_ := Aside0.mk (Kd.S_below (by (with_reducible repeat (first | apply Kd.S_alloc | apply Kd.S_drewN | apply Kd.S_drew)); exact HO159.out) hb)
         have n1_ := blb_ BK160 hb
         have n2_ := blb_ BK172 hb
         have n3_ := blb_ BK178 hb
         have n4_ := Aside0.mk (below_step bel_ hb)
         clear HO159
         clear BK160
         clear BK172
         clear BK178
         clear HB
         have HO159 := n0_
         have BK160 := n1_
         have BK172 := n2_
         have BK178 := n3_
         have HB := n4_
         clear n0_ n1_ n2_ n3_ n4_
         (try clear hb)
         (try clear hb2)
         (try clear hk)
         (try clear hi)
         refine hK.out _ _ ⟨(blk_cell BK160.out 0).trans rfl, (blk_cell BK160.out 1).trans rfl, (blk_cell BK160.out 2).trans rfl⟩ (fun hHeld => ?_)
         clear hK K
         refine norm_ (a' := ?_) ?_ ?_
         rotate_left
         ·show Act.put _ (some 27) _ = _
          simp only [Act.put, List.setIfInBounds_toArray, List.set_cons_zero, List.set_cons_succ, i64_w, i32_w]
          rfl
         refine two_ (i := 3) (j := 7) (Ni := some 29) (Nj := some 7) #[true, true, true, true, false, false, false, false, false, false] #[true, true, true, false, false, false, false, true, false, false] rfl rfl rfl rfl (two_of HT_.out (by kernel_rfl)) (by decide) (by decide) (fun K hK => ?_) (fun K hK => ?_)
         ·skip
          refine goes_ Try.func58 (by kernel_rfl) rfl #[.slice Ao19 y157.length co19, .agg #[.int .i64 t179, .int .i64 t180, .string t181], .agg #[.int .i64 1, .int .i64 0, .string (⟨#[]⟩ : ByteArray)]] (by rfl) rfl rfl goa_ ?_
          with_reducible refine (resolve_Span.calls k _ _ y157 t179 t180 t181 1 0 (⟨#[]⟩ : ByteArray) t182 t183 t184 t185 t186 _ ?side1 ?side2 A7.out).mono ?_
          (case side1 => repeat (first | exact (Kd.S_reads' HO159.out).2.2 | (with_reducible refine Kd.C_alloc ?_ _) | (with_reducible refine Kd.C_drewN ?_ _) | (with_reducible refine Kd.C_drew ?_)))
          (case side2 => exact (Kd.S_reads' HO159.out).2.1)
          rintro e w33 ⟨rfl, hb⟩
          refine ⟨_, rfl, ?_⟩
          have n0_ := Aside0.mk (Kd.S_below (by (with_reducible repeat (first | apply Kd.S_alloc | apply Kd.S_drewN | apply Kd.S_drew)); exact HO159.out) hb)
          have n1_ := blb_ BK160 hb
          have n2_ := blb_ BK172 hb
          have n3_ := blb_ BK178 hb
          have n4_ := Aside0.mk (below_step bel_ hb)
          clear HO159
          clear BK160
          clear BK172
          clear BK178
          clear HB
          have HO159 := n0_
          have BK160 := n1_
          have BK172 := n2_
          have BK178 := n3_
          have HB := n4_
          clear n0_ n1_ n2_ n3_ n4_
          (try clear hb)
          (try clear hb2)
          (try clear hk)
          (try clear hi)
          refine hK.out _ _ ⟨(blk_cell BK160.out 0).trans rfl, (blk_cell BK160.out 1).trans rfl, (blk_cell BK160.out 2).trans rfl⟩ (fun hHeld => ?_)
          clear hK K
          refine norm_ (a' := ?_) ?_ ?_
          rotate_left
          ·show Act.put _ (some 29) _ = _
           simp only [Act.put, List.setIfInBounds_toArray, List.set_cons_zero, List.set_cons_succ, i64_w, i32_w]
           rfl
          refine pure_ (i := 4) (N := some 25) (v := ?_) (a' := ?_) #[true, true, true, true, true, false, false, false, false, false] rfl rfl (any_of HT_.out (by kernel_rfl)) (fun _ _ _ h => h) (Or.inl ⟨by rfl, ?_⟩) ?_ ?_
          rotate_left
          ·intro w'
           go_simp
           with_reducible rfl
          rotate_left
          ·simp only [Act.put, List.setIfInBounds_toArray, List.set_cons_zero, List.set_cons_succ, i64_w, i32_w]
           rfl
          refine pure_ (i := 5) (N := some 30) (v := ?_) (a' := ?_) #[true, true, true, true, true, true, false, false, false, false] rfl rfl (any_of HT_.out (by kernel_rfl)) (fun _ _ _ h => h) (Or.inl ⟨by rfl, ?_⟩) ?_ ?_
          rotate_left
          ·intro w'
           go_simp
           with_reducible rfl
          rotate_left
          ·simp only [Act.put, List.setIfInBounds_toArray, List.set_cons_zero, List.set_cons_succ, i64_w, i32_w]
           rfl
          refine pure_ (i := 6) (N := some 31) (v := ?_) (a' := ?_) #[true, true, true, true, true, true, true, false, false, false] rfl rfl (any_of HT_.out (by kernel_rfl)) (fun _ _ _ h => h) (Or.inl ⟨by rfl, ?_⟩) ?_ ?_
          rotate_left
          ·intro w'
           go_simp
           with_reducible rfl
          rotate_left
          ·simp only [Act.put, List.setIfInBounds_toArray, List.set_cons_zero, List.set_cons_succ, i64_w, i32_w]
           rfl
          refine one_ (i := 7) (N := some 7) #[true, true, true, true, true, true, true, true, false, false] rfl rfl (one_of HT_.out (by kernel_rfl)) (by decide) (fun K hK => ?_)
          refine box_step ?hg (N := 7) ?hd (cs := #[.bool false, .int .i64 0, .int .i64 0, .int .i64 0]) (t := 72) ?hr ?_; (case hd => rfl); (case hg => rfl); (case hr => first | (go_simp; done) | (go_simp; rfl))
          intro gb187 hg w34 hbox hb
          have n0_ := Aside0.mk (Kd.S_below (by (with_reducible repeat (first | apply Kd.S_alloc | apply Kd.S_drewN | apply Kd.S_drew)); exact HO159.out) hb)
          have n1_ := blb_ BK160 hb
          have n2_ := blb_ BK172 hb
          have n3_ := blb_ BK178 hb
          have n4_ := Aside0.mk (below_step bel_ hb)
          have n5_ := Aside0.mk (hbox)
          have n6_ := Aside0.mk ((bsz_ hg : w.heap.size ≤ gb187))
          have n7_ := Aside0.mk ((bsz_ hg : w.heap.size ≤ gb187))
          have n8_ := Aside0.mk (bne_ BK160 hg : gb160 ≠ gb187)
          have n9_ := Aside0.mk (bng_ BK160 hg : gb187 ≠ gb160)
          have n10_ := Aside0.mk (bne_ BK172 hg : gb172 ≠ gb187)
          have n11_ := Aside0.mk (bng_ BK172 hg : gb187 ≠ gb172)
          have n12_ := Aside0.mk (bne_ BK178 hg : gb178 ≠ gb187)
          have n13_ := Aside0.mk (bng_ BK178 hg : gb187 ≠ gb178)
          clear HO159
          clear BK160
          clear BK172
          clear BK178
          clear HB
          have HO159 := n0_
          have BK160 := n1_
          have BK172 := n2_
          have BK178 := n3_
          have HB := n4_
          have BK187 := n5_
          have GW187 := n6_
          have GE187 := n7_
          have NB160_187 := n8_
          have NB187_160 := n9_
          have NB172_187 := n10_
          have NB187_172 := n11_
          have NB178_187 := n12_
          have NB187_178 := n13_
          clear n0_ n1_ n2_ n3_ n4_ n5_ n6_ n7_ n8_ n9_ n10_ n11_ n12_ n13_
          clear hb hbox hg
          refine hK.out _ _ ⟨(blk_cell BK160.out 0).trans rfl, (blk_cell BK160.out 1).trans rfl, (blk_cell BK160.out 2).trans rfl⟩ (fun hHeld => ?_)
          clear hK K
          refine norm_ (a' := ?_) ?_ ?_
          rotate_left
          ·show Act.put _ (some 7) _ = _
           simp only [Act.put, List.setIfInBounds_toArray, List.set_cons_zero, List.set_cons_succ, i64_w, i32_w]
           rfl
          exact norm_ (by simp only [putAll, Act.put, List.setIfInBounds_toArray, List.set_cons_zero, List.set_cons_succ]) (hCont (gb187) _ ⟨hHeld, (by (with_reducible repeat (first | apply Kd.S_alloc | apply Kd.S_drewN | apply Kd.S_drew)); exact HO159.out), blk_, blk_, blk_, blk_, GW187.out, GE187.out, NB160_187.out, NB187_160.out, NB172_187.out, NB187_172.out, NB178_187.out, NB187_178.out, bel_⟩)
         ·skip
          refine box_step ?hg (N := 7) ?hd (cs := #[.bool false, .int .i64 0, .int .i64 0, .int .i64 0]) (t := 72) ?hr ?_; (case hd => rfl); (case hg => rfl); (case hr => first | (go_simp; done) | (go_simp; rfl))
          intro gb187 hg w33 hbox hb
          have n0_ := Aside0.mk (Kd.S_below (by (with_reducible repeat (first | apply Kd.S_alloc | apply Kd.S_drewN | apply Kd.S_drew)); exact HO159.out) hb)
          have n1_ := blb_ BK160 hb
          have n2_ := blb_ BK172 hb
          have n3_ := blb_ BK178 hb
          have n4_ := Aside0.mk (below_step bel_ hb)
          have n5_ := Aside0.mk (hbox)
          have n6_ := Aside0.mk ((bsz_ hg : w.heap.size ≤ gb187))
          have n7_ := Aside0.mk ((bsz_ hg : w.heap.size ≤ gb187))
          have n8_ := Aside0.mk (bne_ BK160 hg : gb160 ≠ gb187)
          have n9_ := Aside0.mk (bng_ BK160 hg : gb187 ≠ gb160)
          have n10_ := Aside0.mk (bne_ BK172 hg : gb172 ≠ gb187)
          have n11_ := Aside0.mk (bng_ BK172 hg : gb187 ≠ gb172)
          have n12_ := Aside0.mk (bne_ BK178 hg : gb178 ≠ gb187)
          have n13_ := Aside0.mk (bng_ BK178 hg : gb187 ≠ gb178)
          clear HO159
          clear BK160
          clear BK172
          clear BK178
          clear HB
          have HO159 := n0_
          have BK160 := n1_
          have BK172 := n2_
          have BK178 := n3_
          have HB := n4_
          have BK187 := n5_
          have GW187 := n6_
          have GE187 := n7_
          have NB160_187 := n8_
          have NB187_160 := n9_
          have NB172_187 := n10_
          have NB187_172 := n11_
          have NB178_187 := n12_
          have NB187_178 := n13_
          clear n0_ n1_ n2_ n3_ n4_ n5_ n6_ n7_ n8_ n9_ n10_ n11_ n12_ n13_
          clear hb hbox hg
          refine hK.out _ _ ⟨(blk_cell BK160.out 0).trans rfl, (blk_cell BK160.out 1).trans rfl, (blk_cell BK160.out 2).trans rfl⟩ (fun hHeld => ?_)
          clear hK K
          refine norm_ (a' := ?_) ?_ ?_
          rotate_left
          ·show Act.put _ (some 7) _ = _
           simp only [Act.put, List.setIfInBounds_toArray, List.set_cons_zero, List.set_cons_succ, i64_w, i32_w]
           rfl
          refine one_ (i := 3) (N := some 29) #[true, true, true, true, false, false, false, true, false, false] rfl rfl (one_of HT_.out (by kernel_rfl)) (by decide) (fun K hK => ?_)
          refine goes_ Try.func58 (by kernel_rfl) rfl #[.slice Ao19 y157.length co19, .agg #[.int .i64 t179, .int .i64 t180, .string t181], .agg #[.int .i64 1, .int .i64 0, .string (⟨#[]⟩ : ByteArray)]] (by rfl) rfl rfl goa_ ?_
          with_reducible refine (resolve_Span.calls k _ _ y157 t179 t180 t181 1 0 (⟨#[]⟩ : ByteArray) t182 t183 t184 t185 t186 _ ?side1 ?side2 A7.out).mono ?_
          (case side1 => repeat (first | exact (Kd.S_reads' HO159.out).2.2 | (with_reducible refine Kd.C_alloc ?_ _) | (with_reducible refine Kd.C_drewN ?_ _) | (with_reducible refine Kd.C_drew ?_)))
          (case side2 => exact (Kd.S_reads' HO159.out).2.1)
          rintro e w34 ⟨rfl, hb⟩
          refine ⟨_, rfl, ?_⟩
          have n0_ := Aside0.mk (Kd.S_below (by (with_reducible repeat (first | apply Kd.S_alloc | apply Kd.S_drewN | apply Kd.S_drew)); exact HO159.out) hb)
          have n1_ := blb_ BK160 hb
          have n2_ := blb_ BK172 hb
          have n3_ := blb_ BK178 hb
          have n4_ := blb_ BK187 hb
          have n5_ := Aside0.mk (below_step bel_ hb)
          clear HO159
          clear BK160
          clear BK172
          clear BK178
          clear BK187
          clear HB
          have HO159 := n0_
          have BK160 := n1_
          have BK172 := n2_
          have BK178 := n3_
          have BK187 := n4_
          have HB := n5_
          clear n0_ n1_ n2_ n3_ n4_ n5_
          (try clear hb)
          (try clear hb2)
          (try clear hk)
          (try clear hi)
          refine hK.out _ _ ⟨(blk_cell BK160.out 0).trans rfl, (blk_cell BK160.out 1).trans rfl, (blk_cell BK160.out 2).trans rfl⟩ (fun hHeld => ?_)
          clear hK K
          refine norm_ (a' := ?_) ?_ ?_
          rotate_left
          ·show Act.put _ (some 29) _ = _
           simp only [Act.put, List.setIfInBounds_toArray, List.set_cons_zero, List.set_cons_succ, i64_w, i32_w]
           rfl
          refine pure_ (i := 4) (N := some 25) (v := ?_) (a' := ?_) #[true, true, true, true, true, false, false, true, false, false] rfl rfl (any_of HT_.out (by kernel_rfl)) (fun _ _ _ h => h) (Or.inl ⟨by rfl, ?_⟩) ?_ ?_
          rotate_left
          ·intro w'
           go_simp
           with_reducible rfl
          rotate_left
          ·simp only [Act.put, List.setIfInBounds_toArray, List.set_cons_zero, List.set_cons_succ, i64_w, i32_w]
           rfl
          refine pure_ (i := 5) (N := some 30) (v := ?_) (a' := ?_) #[true, true, true, true, true, true, false, true, false, false] rfl rfl (any_of HT_.out (by kernel_rfl)) (fun _ _ _ h => h) (Or.inl ⟨by rfl, ?_⟩) ?_ ?_
          rotate_left
          ·intro w'
           go_simp
           with_reducible rfl
          rotate_left
          ·simp only [Act.put, List.setIfInBounds_toArray, List.set_cons_zero, List.set_cons_succ, i64_w, i32_w]
           rfl
          refine pure_ (i := 6) (N := some 31) (v := ?_) (a' := ?_) #[true, true, true, true, true, true, true, true, false, false] rfl rfl (any_of HT_.out (by kernel_rfl)) (fun _ _ _ h => h) (Or.inl ⟨by rfl, ?_⟩) ?_ ?_
          rotate_left
          ·intro w'
           go_simp
           with_reducible rfl
          rotate_left
          ·simp only [Act.put, List.setIfInBounds_toArray, List.set_cons_zero, List.set_cons_succ, i64_w, i32_w]
           rfl
          exact norm_ (by simp only [putAll, Act.put, List.setIfInBounds_toArray, List.set_cons_zero, List.set_cons_succ]) (hCont (gb187) _ ⟨hHeld, (by (with_reducible repeat (first | apply Kd.S_alloc | apply Kd.S_drewN | apply Kd.S_drew)); exact HO159.out), blk_, blk_, blk_, blk_, GW187.out, GE187.out, NB160_187.out, NB187_160.out, NB172_187.out, NB187_172.out, NB178_187.out, NB187_178.out, bel_⟩)
        ·skip
         refine box_step ?hg (N := 7) ?hd (cs := #[.bool false, .int .i64 0, .int .i64 0, .int .i64 0]) (t := 72) ?hr ?_; (case hd => rfl); (case hg => rfl); (case hr => first | (go_simp; done) | (go_simp; rfl))
         intro gb187 hg w32 hbox hb
         have n0_ := Aside0.mk (Kd.S_below (by (with_reducible repeat (first | apply Kd.S_alloc | apply Kd.S_drewN | apply Kd.S_drew)); exact HO159.out) hb)
         have n1_ := blb_ BK160 hb
         have n2_ := blb_ BK172 hb
         have n3_ := blb_ BK178 hb
         have n4_ := Aside0.mk (below_step bel_ hb)
         have n5_ := Aside0.mk (hbox)
         have n6_ := Aside0.mk ((bsz_ hg : w.heap.size ≤ gb187))
         have n7_ := Aside0.mk ((bsz_ hg : w.heap.size ≤ gb187))
         have n8_ := Aside0.mk (bne_ BK160 hg : gb160 ≠ gb187)
         have n9_ := Aside0.mk (bng_ BK160 hg : gb187 ≠ gb160)
         have n10_ := Aside0.mk (bne_ BK172 hg : gb172 ≠ gb187)
         have n11_ := Aside0.mk (bng_ BK172 hg : gb187 ≠ gb172)
         have n12_ := Aside0.mk (bne_ BK178 hg : gb178 ≠ gb187)
         have n13_ := Aside0.mk (bng_ BK178 hg : gb187 ≠ gb178)
         clear HO159
         clear BK160
         clear BK172
         clear BK178
         clear HB
         have HO159 := n0_
         have BK160 := n1_
         have BK172 := n2_
         have BK178 := n3_
         have HB := n4_
         have BK187 := n5_
         have GW187 := n6_
         have GE187 := n7_
         have NB160_187 := n8_
         have NB187_160 := n9_
         have NB172_187 := n10_
         have NB187_172 := n11_
         have NB178_187 := n12_
         have NB187_178 := n13_
         clear n0_ n1_ n2_ n3_ n4_ n5_ n6_ n7_ n8_ n9_ n10_ n11_ n12_ n13_
         clear hb hbox hg
         refine hK.out _ _ ⟨(blk_cell BK160.out 0).trans rfl, (blk_cell BK160.out 1).trans rfl, (blk_cell BK160.out 2).trans rfl⟩ (fun hHeld => ?_)
         clear hK K
         refine norm_ (a' := ?_) ?_ ?_
         rotate_left
         ·show Act.put _ (some 7) _ = _
          simp only [Act.put, List.setIfInBounds_toArray, List.set_cons_zero, List.set_cons_succ, i64_w, i32_w]
          rfl
         refine one_ (i := 1) (N := some 27) #[true, true, true, false, false, false, false, true, false, false] rfl rfl (one_of HT_.out (by kernel_rfl)) (by decide) (fun K hK => ?_)
         refine goes_ Try.func56 (by kernel_rfl) rfl #[.int .i64 (-1)] (by rfl) rfl rfl goa_ ?_
         with_reducible refine (parterrelaw18_num.calls (-1) t179 t180 t181 _ A6.out).mono ?_
         rintro e w33 ⟨rfl, hb⟩
         refine ⟨_, rfl, ?_⟩
         have n0_ := Aside0.mk (Kd.S_below (by (with_reducible repeat (first | apply Kd.S_alloc | apply Kd.S_drewN | apply Kd.S_drew)); exact HO159.out) hb)
         have n1_ := blb_ BK160 hb
         have n2_ := blb_ BK172 hb
         have n3_ := blb_ BK178 hb
         have n4_ := blb_ BK187 hb
         have n5_ := Aside0.mk (below_step bel_ hb)
         clear HO159
         clear BK160
         clear BK172
         clear BK178
         clear BK187
         clear HB
         have HO159 := n0_
         have BK160 := n1_
         have BK172 := n2_
         have BK178 := n3_
         have BK187 := n4_
         have HB := n5_
         clear n0_ n1_ n2_ n3_ n4_ n5_
         (try clear hb)
         (try clear hb2)
         (try clear hk)
         (try clear hi)
         refine hK.out _ _ ⟨(blk_cell BK160.out 0).trans rfl, (blk_cell BK160.out 1).trans rfl, (blk_cell BK160.out 2).trans rfl⟩ (fun hHeld => ?_)
         clear hK K
         refine norm_ (a' := ?_) ?_ ?_
         rotate_left
         ·show Act.put _ (some 27) _ = _
          simp only [Act.put, List.setIfInBounds_toArray, List.set_cons_zero, List.set_cons_succ, i64_w, i32_w]
          rfl
         refine one_ (i := 3) (N := some 29) #[true, true, true, true, false, false, false, true, false, false] rfl rfl (one_of HT_.out (by kernel_rfl)) (by decide) (fun K hK => ?_)
         refine goes_ Try.func58 (by kernel_rfl) rfl #[.slice Ao19 y157.length co19, .agg #[.int .i64 t179, .int .i64 t180, .string t181], .agg #[.int .i64 1, .int .i64 0, .string (⟨#[]⟩ : ByteArray)]] (by rfl) rfl rfl goa_ ?_
         with_reducible refine (resolve_Span.calls k _ _ y157 t179 t180 t181 1 0 (⟨#[]⟩ : ByteArray) t182 t183 t184 t185 t186 _ ?side1 ?side2 A7.out).mono ?_
         (case side1 => repeat (first | exact (Kd.S_reads' HO159.out).2.2 | (with_reducible refine Kd.C_alloc ?_ _) | (with_reducible refine Kd.C_drewN ?_ _) | (with_reducible refine Kd.C_drew ?_)))
         (case side2 => exact (Kd.S_reads' HO159.out).2.1)
         rintro e w34 ⟨rfl, hb⟩
         refine ⟨_, rfl, ?_⟩
         have n0_ := Aside0.mk (Kd.S_below (by (with_reducible repeat (first | apply Kd.S_alloc | apply Kd.S_drewN | apply Kd.S_drew)); exact HO159.out) hb)
         have n1_ := blb_ BK160 hb
         have n2_ := blb_ BK172 hb
         have n3_ := blb_ BK178 hb
         have n4_ := blb_ BK187 hb
         have n5_ := Aside0.mk (below_step bel_ hb)
         clear HO159
         clear BK160
         clear BK172
         clear BK178
         clear BK187
         clear HB
         have HO159 := n0_
         have BK160 := n1_
         have BK172 := n2_
         have BK178 := n3_
         have BK187 := n4_
         have HB := n5_
         clear n0_ n1_ n2_ n3_ n4_ n5_
         (try clear hb)
         (try clear hb2)
         (try clear hk)
         (try clear hi)
         refine hK.out _ _ ⟨(blk_cell BK160.out 0).trans rfl, (blk_cell BK160.out 1).trans rfl, (blk_cell BK160.out 2).trans rfl⟩ (fun hHeld => ?_)
         clear hK K
         refine norm_ (a' := ?_) ?_ ?_
         rotate_left
         ·show Act.put _ (some 29) _ = _
          simp only [Act.put, List.setIfInBounds_toArray, List.set_cons_zero, List.set_cons_succ, i64_w, i32_w]
          rfl
         refine pure_ (i := 4) (N := some 25) (v := ?_) (a' := ?_) #[true, true, true, true, true, false, false, true, false, false] rfl rfl (any_of HT_.out (by kernel_rfl)) (fun _ _ _ h => h) (Or.inl ⟨by rfl, ?_⟩) ?_ ?_
         rotate_left
         ·intro w'
          go_simp
          with_reducible rfl
         rotate_left
         ·simp only [Act.put, List.setIfInBounds_toArray, List.set_cons_zero, List.set_cons_succ, i64_w, i32_w]
          rfl
         refine pure_ (i := 5) (N := some 30) (v := ?_) (a' := ?_) #[true, true, true, true, true, true, false, true, false, false] rfl rfl (any_of HT_.out (by kernel_rfl)) (fun _ _ _ h => h) (Or.inl ⟨by rfl, ?_⟩) ?_ ?_
         rotate_left
         ·intro w'
          go_simp
          with_reducible rfl
         rotate_left
         ·simp only [Act.put, List.setIfInBounds_toArray, List.set_cons_zero, List.set_cons_succ, i64_w, i32_w]
          rfl
         refine pure_ (i := 6) (N := some 31) (v := ?_) (a' := ?_) #[true, true, true, true, true, true, true, true, false, false] rfl rfl (any_of HT_.out (by kernel_rfl)) (fun _ _ _ h => h) (Or.inl ⟨by rfl, ?_⟩) ?_ ?_
         rotate_left
         ·intro w'
          go_simp
          with_reducible rfl
         rotate_left
         ·simp only [Act.put, List.setIfInBounds_toArray, List.set_cons_zero, List.set_cons_succ, i64_w, i32_w]
          rfl
         exact norm_ (by simp only [putAll, Act.put, List.setIfInBounds_toArray, List.set_cons_zero, List.set_cons_succ]) (hCont (gb187) _ ⟨hHeld, (by (with_reducible repeat (first | apply Kd.S_alloc | apply Kd.S_drewN | apply Kd.S_drew)); exact HO159.out), blk_, blk_, blk_, blk_, GW187.out, GE187.out, NB160_187.out, NB187_160.out, NB172_187.out, NB187_172.out, NB178_187.out, NB187_178.out, bel_⟩)
       rintro gb187 w35 ⟨hS_, h0_, h1_, h2_, h3_, h4_, h5_, h6_, h7_, h8_, h9_, h10_, h11_, h12_, h13_⟩
       have n0_ : Aside0 (Kd.S (Kd.slice 9 Kd.string) 64 w35 w.heap.size (fun _ => True) (.slice Ao19 y157.length co19) y157) := ⟨h0_⟩
       have n1_ : Aside0 (w35.heap[gb160]? = some (.cells #[.int .i64 1, .int .i64 0, .string (⟨#[]⟩ : ByteArray)] 69 (0, 0))) := ⟨h1_⟩
       have n2_ : Aside0 (w35.heap[gb172]? = some (.cells #[.bool t167, .int .i64 t168, .int .i64 t169, .int .i64 t170] 72 (0, 0))) := ⟨h2_⟩
       have n3_ : Aside0 (w35.heap[gb178]? = some (.cells #[.bool t173, .int .i64 t174, .int .i64 t175, .int .i64 t176] 72 (0, 0))) := ⟨h3_⟩
       have n4_ : Aside0 (w35.heap[gb187]? = some (.cells #[.bool false, .int .i64 0, .int .i64 0, .int .i64 0] 72 (0, 0))) := ⟨h4_⟩
       have n5_ : Aside0 (w.heap.size ≤ gb187) := ⟨h5_⟩
       have n6_ : Aside0 (w.heap.size ≤ gb187) := ⟨h6_⟩
       have n7_ : Aside0 (gb160 ≠ gb187) := ⟨h7_⟩
       have n8_ : Aside0 (gb187 ≠ gb160) := ⟨h8_⟩
       have n9_ : Aside0 (gb172 ≠ gb187) := ⟨h9_⟩
       have n10_ : Aside0 (gb187 ≠ gb172) := ⟨h10_⟩
       have n11_ : Aside0 (gb178 ≠ gb187) := ⟨h11_⟩
       have n12_ : Aside0 (gb187 ≠ gb178) := ⟨h12_⟩
       have n13_ : Aside0 (Below w.heap.size w w35) := ⟨h13_⟩
       clear HO159
       clear BK160
       clear BK172
       clear BK178
       clear HB
       clear h0_ h1_ h2_ h3_ h4_ h5_ h6_ h7_ h8_ h9_ h10_ h11_ h12_ h13_
       have HO159 := n0_
       have BK160 := n1_
       have BK172 := n2_
       have BK178 := n3_
       have BK187 := n4_
       have GW187 := n5_
       have GE187 := n6_
       have NB160_187 := n7_
       have NB187_160 := n8_
       have NB172_187 := n9_
       have NB187_172 := n10_
       have NB178_187 := n11_
       have NB187_178 := n12_
       have HB := n13_
       clear n0_ n1_ n2_ n3_ n4_ n5_ n6_ n7_ n8_ n9_ n10_ n11_ n12_ n13_
       have hHeld : w35.cell? ⟨gb160, 0, none⟩ = some (.int .i64 1) ∧ w35.cell? ⟨gb160, 1, none⟩ = some (.int .i64 0) ∧ w35.cell? ⟨gb160, 2, none⟩ = some (.string (⟨#[]⟩ : ByteArray)) := hS_
       refine norm_ (a' := ?_) ?_ ?_
       rotate_left
       ·simp only [putAll, Act.put, List.setIfInBounds_toArray, List.set_cons_zero, List.set_cons_succ]
        rfl
       refine one_ (i := 8) (N := none) #[true, true, true, true, true, true, true, true, true, false] rfl rfl (one_of HT_.out (by kernel_rfl)) (by decide) (fun K hK => ?_)
       have hs36 : w35.cell? ⟨gb187, 0, none⟩ = some (.bool false) := (blk_cell BK187.out 0).trans rfl
       have hfs36 := blk_frozen BK187.out 0
       have hns36_0 := NB160_187.out
       have hns36_1 := NB172_187.out
       have hns36_2 := NB178_187.out
       have hms36_0 := NB187_160.out
       have hms36_1 := NB187_172.out
       have hms36_2 := NB187_178.out
       have hs37 : w35.cell? ⟨gb187, 1, none⟩ = some (.int .i64 0) := (blk_cell BK187.out 1).trans rfl
       have hfs37 := blk_frozen BK187.out 1
       have hns37_0 := NB160_187.out
       have hns37_1 := NB172_187.out
       have hns37_2 := NB178_187.out
       have hms37_0 := NB187_160.out
       have hms37_1 := NB187_172.out
       have hms37_2 := NB187_178.out
       have hs38 : w35.cell? ⟨gb187, 2, none⟩ = some (.int .i64 0) := (blk_cell BK187.out 2).trans rfl
       have hfs38 := blk_frozen BK187.out 2
       have hns38_0 := NB160_187.out
       have hns38_1 := NB172_187.out
       have hns38_2 := NB178_187.out
       have hms38_0 := NB187_160.out
       have hms38_1 := NB187_172.out
       have hms38_2 := NB187_178.out
       have hs39 : w35.cell? ⟨gb187, 3, none⟩ = some (.int .i64 0) := (blk_cell BK187.out 3).trans rfl
       have hfs39 := blk_frozen BK187.out 3
       have hns39_0 := NB160_187.out
       have hns39_1 := NB172_187.out
       have hns39_2 := NB178_187.out
       have hms39_0 := NB187_160.out
       have hms39_1 := NB187_172.out
       have hms39_2 := NB187_178.out
       refine skip_ (w1 := ?_) (by rfl) rfl ?_ ?_
       rotate_left
       ·go_simp
        rfl
       refine hK.out _ _ ⟨((cell_far (p := ⟨gb187, _, none⟩) NB160_187.out _).trans (((cell_far (p := ⟨gb187, _, none⟩) NB160_187.out _).trans (((cell_far (p := ⟨gb187, _, none⟩) NB160_187.out _).trans (((cell_far (p := ⟨gb187, _, none⟩) NB160_187.out _).trans (hHeld.1)))))))), ((cell_far (p := ⟨gb187, _, none⟩) NB160_187.out _).trans (((cell_far (p := ⟨gb187, _, none⟩) NB160_187.out _).trans (((cell_far (p := ⟨gb187, _, none⟩) NB160_187.out _).trans (((cell_far (p := ⟨gb187, _, none⟩) NB160_187.out _).trans (hHeld.2.1)))))))), ((cell_far (p := ⟨gb187, _, none⟩) NB160_187.out _).trans (((cell_far (p := ⟨gb187, _, none⟩) NB160_187.out _).trans (((cell_far (p := ⟨gb187, _, none⟩) NB160_187.out _).trans (((cell_far (p := ⟨gb187, _, none⟩) NB160_187.out _).trans (hHeld.2.2))))))))⟩ (fun hHeld => ?_)
       clear hK K
       refine pure_ (i := 9) (N := some 8) (v := ?_) (a' := ?_) #[true, true, true, true, true, true, true, true, true, true] rfl rfl (any_of HT_.out (by kernel_rfl)) (fun _ _ _ h => h) (Or.inl ⟨by rfl, ?_⟩) ?_ ?_
       rotate_left
       ·intro w'
        go_simp
        with_reducible rfl
       rotate_left
       ·simp only [Act.put, List.setIfInBounds_toArray, List.set_cons_zero, List.set_cons_succ, i64_w, i32_w]
        rfl
       refine done_ (done_of HT_.out (by kernel_rfl)) ?_
       have hnb40 := NB172_187.out
       have hnc40 := NB187_172.out
       have hcz41_0 : w35.cell? ⟨gb172, 0, none⟩ = some (.bool t167) := (blk_cell BK172.out 0).trans rfl
       have hcz41_1 : w35.cell? ⟨gb172, 1, none⟩ = some (.int .i64 t168) := (blk_cell BK172.out 1).trans rfl
       have hcz41_2 : w35.cell? ⟨gb172, 2, none⟩ = some (.int .i64 t169) := (blk_cell BK172.out 2).trans rfl
       have hcz41_3 : w35.cell? ⟨gb172, 3, none⟩ = some (.int .i64 t170) := (blk_cell BK172.out 3).trans rfl
       have hfz41_0 := blk_frozen BK172.out 0
       have hfz41_1 := blk_frozen BK172.out 1
       have hfz41_2 := blk_frozen BK172.out 2
       have hfz41_3 := blk_frozen BK172.out 3
       have hnb42 := NB178_187.out
       have hnc42 := NB187_178.out
       have hcz43_0 : w35.cell? ⟨gb178, 0, none⟩ = some (.bool t173) := (blk_cell BK178.out 0).trans rfl
       have hcz43_1 : w35.cell? ⟨gb178, 1, none⟩ = some (.int .i64 t174) := (blk_cell BK178.out 1).trans rfl
       have hcz43_2 : w35.cell? ⟨gb178, 2, none⟩ = some (.int .i64 t175) := (blk_cell BK178.out 2).trans rfl
       have hcz43_3 : w35.cell? ⟨gb178, 3, none⟩ = some (.int .i64 t176) := (blk_cell BK178.out 3).trans rfl
       have hfz43_0 := blk_frozen BK178.out 0
       have hfz43_1 := blk_frozen BK178.out 1
       have hfz43_2 := blk_frozen BK178.out 2
       have hfz43_3 := blk_frozen BK178.out 3
       have hnb44 := NB187_160.out
       have hnc44 := NB160_187.out
       have hcz45_0 : w35.cell? ⟨gb187, 0, none⟩ = some (.bool false) := (blk_cell BK187.out 0).trans rfl
       have hcz45_1 : w35.cell? ⟨gb187, 1, none⟩ = some (.int .i64 0) := (blk_cell BK187.out 1).trans rfl
       have hcz45_2 : w35.cell? ⟨gb187, 2, none⟩ = some (.int .i64 0) := (blk_cell BK187.out 2).trans rfl
       have hcz45_3 : w35.cell? ⟨gb187, 3, none⟩ = some (.int .i64 0) := (blk_cell BK187.out 3).trans rfl
       have hfz45_0 := blk_frozen BK187.out 0
       have hfz45_1 := blk_frozen BK187.out 1
       have hfz45_2 := blk_frozen BK187.out 2
       have hfz45_3 := blk_frozen BK187.out 3
       try go_wp2
       go_ret
       exact ⟨rsl_, bel_⟩
      ·rw [if_neg c12] at H
       exact absurd H (by simp)
     ·rw [if_neg c11] at H
      exact absurd H (by simp)
    ·rw [if_neg c10] at H
     exact absurd H (by simp)
   ·rw [if_neg c9] at H
    exact absurd H (by simp)
  ·rw [if_neg c8] at H
   exact absurd H (by simp)
 ·rw [if_neg c1] at H
  exact absurd H (by simp)

end Go.Proofs.Ytdjfdhnmbimkoaa.PRs
