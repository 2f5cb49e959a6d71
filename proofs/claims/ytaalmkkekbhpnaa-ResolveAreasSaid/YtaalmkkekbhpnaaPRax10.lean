-- Written by a program of this session (wip/p2) out of the translation; Lean checks it.
import Derived.Test.YtaalmkkekbhpnaaSq
import Derived.Test.YtaalmkkekbhpnaaPRax0
import Derived.Test.YtaalmkkekbhpnaaPRax2
import Derived.Test.YtaalmkkekbhpnaaPRax9
namespace Go.Proofs.Ytaalmkkekbhpnaa.PRa
open Go.RowKit Go.Proofs.YtaalmkkekbhpnaaW.PrintWords Go.Proofs.YtaalmkkekbhpnaaW.PrintLast Go.Proofs.YtaalmkkekbhpnaaW.PrintMore
attribute [local go_sem] max2_int min2_int max_two min_two max_three min_three max_four min_four   -- for this text's walks alone
set_option linter.unusedVariables false
set_option linter.unusedSimpArgs false
open Go.Proofs.Ytaalmkkekbhpnaa.Opn Go.Proofs.Ytaalmkkekbhpnaa.Giv

attribute [local go_sem high] eqA37
/-! ### parterrelaw18_num: function 20 -/
def parterrelaw18_num.f (a0 : Int) : Option (Int × Int × ByteArray) := some (2, a0, (⟨#[]⟩ : ByteArray))
set_option maxHeartbeats 8000000 in
set_option maxRecDepth 100000 in
theorem parterrelaw18_num.calls (a0 : Int) (r1 : Int) (r2 : Int) (r3 : ByteArray) (w : World) (h : parterrelaw18_num.f a0 = some (r1, r2, r3)) :
  Calls Try.prog 20 #[.int .i64 a0] w fun e w' => e = .returned (.agg #[.int .i64 r1, .int .i64 r2, .string r3]) ∧ Below w.heap.size w w' := by
 have hu34 := Try.underlying34
 have HB := Aside0.mk (Below.refl w.heap.size w)
 have H : (some (2, a0, (⟨#[]⟩ : ByteArray))) = some (r1, r2, r3) := h
 clear h
 simp only [Option.some.injEq, Prod.mk.injEq] at H
 obtain ⟨rfl, rfl, rfl⟩ := H
 go_enter Try.func20, Try.ntmps20
 go_wp2_with (first | ((with_reducible refine gate_dst (N := 2) rfl ?_); refine box_event ?hg (N := 2) ?hd (cs := #[.int .i64 0, .int .i64 0, .string (⟨#[]⟩ : ByteArray)]) (t := 34) ?hr ?_; (case hd => rfl); (case hg => rfl); (case hr => first | (go_simp; done) | (go_simp; rfl)); intro gb186 hg w2 hbox hb; have n0_ := Aside0.mk (below_step bel_ hb); have n1_ := Aside0.mk (hbox); have n2_ := Aside0.mk ((bsz_ hg : w.heap.size ≤ gb186)); have n3_ := Aside0.mk ((bsz_ hg : w.heap.size ≤ gb186)); clear HB; have HB := n0_; have BK186 := n1_; have GW186 := n2_; have GE186 := n3_; clear n0_ n1_ n2_ n3_; clear hb hbox hg; have hcz3_0 : w2.cell? ⟨gb186, 0, none⟩ = some (.int .i64 0) := (blk_cell BK186.out 0).trans rfl; have hcz3_1 : w2.cell? ⟨gb186, 1, none⟩ = some (.int .i64 0) := (blk_cell BK186.out 1).trans rfl; have hcz3_2 : w2.cell? ⟨gb186, 2, none⟩ = some (.string (⟨#[]⟩ : ByteArray)) := (blk_cell BK186.out 2).trans rfl; have hfz3_0 := blk_frozen BK186.out 0; have hfz3_1 := blk_frozen BK186.out 1; have hfz3_2 := blk_frozen BK186.out 2))
 refine bodyPost_ret (results_cell_row rfl _ _ gb186 34 #[.int .i64 2, .int .i64 a0, .string (⟨#[]⟩ : ByteArray)] (0, 0) _ rfl (by (with_reducible repeat (first | refine blk_drewN ?_ _ | refine blk_drew ?_ | refine blk_alloc ?_ _)); refine blk_put (cs := #[.int .i64 2, .int .i64 a0, .string (⟨#[]⟩ : ByteArray)]) ?_ 2 _ rfl; (with_reducible repeat (first | refine blk_drewN ?_ _ | refine blk_drew ?_ | refine blk_alloc ?_ _)); refine blk_put (cs := #[.int .i64 2, .int .i64 0, .string (⟨#[]⟩ : ByteArray)]) ?_ 1 _ rfl; (with_reducible repeat (first | refine blk_drewN ?_ _ | refine blk_drew ?_ | refine blk_alloc ?_ _)); refine blk_put (cs := #[.int .i64 0, .int .i64 0, .string (⟨#[]⟩ : ByteArray)]) ?_ 0 _ rfl; (with_reducible repeat (first | refine blk_drewN ?_ _ | refine blk_drew ?_ | refine blk_alloc ?_ _)); exact BK186.out) Try.underlying34 rfl (by kernel_rfl)) rfl ?_
 exact ⟨rsl_, bel_⟩

/-! ### parterrelaw18_lives: function 11 -/
def parterrelaw18_lives.f (k : Nat)  : Option (Bool) := if 3 ≤ 11728124029610 then ((some (List.replicate 3 [] : List (List ByteArray))).bind fun y187 => ((parterrelaw18_num.f 3).bind fun bt191 => ((parterrelaw18_num.f 1).bind fun bt194 => ((resolve_Span.f k y187 bt191.1 bt191.2.1 bt191.2.2 bt194.1 bt194.2.1 bt194.2.2).bind fun bt197 => ((resolve_Span.f k y187 4 2 (⟨#[]⟩ : ByteArray) 1 0 (⟨#[]⟩ : ByteArray)).bind fun bt203 => ((parterrelaw18_num.f (-1)).bind fun bt209 => ((resolve_Span.f k y187 bt209.1 bt209.2.1 bt209.2.2 1 0 (⟨#[]⟩ : ByteArray)).bind fun bt212 => (if bt197.2.2.2.2 = 0 then (if (!bt197.1 && (bt197.2.1 == 0 && (bt197.2.2.1 == 2 && (bt197.2.2.2.1 == 0)))) = true then (if bt203.2.2.2.2 = 0 then (if (bt203.1 && (bt203.2.1 == 0 && (bt203.2.2.1 == 0 && (bt203.2.2.2.1 == 2)))) = true then (if bt212.2.2.2.2 = 0 then (some (!bt212.1 && (bt212.2.1 == 2 && (bt212.2.2.1 == 3 && (bt212.2.2.2.1 == 0))))) else (none)) else (none)) else (none)) else (none)) else (none))))))))) else (none)
theorem parterrelaw18_lives.mono : ∀ k, LeO (parterrelaw18_lives.f k ) (parterrelaw18_lives.f (k + 1) ) := by
 intro  k
 unfold parterrelaw18_lives.f
 repeat' first
   | (with_reducible exact resolve_Span.mono _ _ _ _ _ _ _ _)
   | (with_reducible exact LeO.refl _)
   | (with_reducible exact LeO.none _)
   | (with_reducible refine LeO.ite ?_ ?_)
   | (with_reducible refine LeO.bind ?_ (fun _ => ?_))
def parterrelaw18_lives.T5 : Bool × List (List Nat × List Nat) := (true, [([], []), ([], []), ([], []), ([0, 1, 2, 1], [0, 1, 2]), ([3], [3]), ([4], [4]), ([4], [4]), ([], []), ([7, 5, 3, 0, 1, 2, 3, 4, 5, 7], [5, 7]), ([6, 8, 0, 1, 2, 3, 4, 5, 6, 7, 8], [6])])
def parterrelaw18_lives.B5 : List Nat := [0, 0, 0, 7, 15, 31, 31, 0, 191, 511]
theorem parterrelaw18_lives.tab5 : rtab .any (opsOf Try.f11 5) = parterrelaw18_lives.T5 := by kernel_rfl
theorem parterrelaw18_lives.bits5 : waitsOk parterrelaw18_lives.T5.2 parterrelaw18_lives.B5 = true := by kernel_rfl
set_option maxHeartbeats 8000000 in
set_option maxRecDepth 100000 in
theorem parterrelaw18_lives.calls (k : Nat)  (r : Bool) (w : World) (h : parterrelaw18_lives.f k  = some r) :
  Calls Try.prog 11 #[] w fun e w' => e = .returned (.bool r) ∧ Below w.heap.size w w' := by
 have hu34 := Try.underlying34
 have hu37 := Try.underlying37
 have HB := Aside0.mk (Below.refl w.heap.size w)
 have H : (if 3 ≤ 11728124029610 then ((some (List.replicate 3 [] : List (List ByteArray))).bind fun y187 => ((parterrelaw18_num.f 3).bind fun bt191 => ((parterrelaw18_num.f 1).bind fun bt194 => ((resolve_Span.f k y187 bt191.1 bt191.2.1 bt191.2.2 bt194.1 bt194.2.1 bt194.2.2).bind fun bt197 => ((resolve_Span.f k y187 4 2 (⟨#[]⟩ : ByteArray) 1 0 (⟨#[]⟩ : ByteArray)).bind fun bt203 => ((parterrelaw18_num.f (-1)).bind fun bt209 => ((resolve_Span.f k y187 bt209.1 bt209.2.1 bt209.2.2 1 0 (⟨#[]⟩ : ByteArray)).bind fun bt212 => (if bt197.2.2.2.2 = 0 then (if (!bt197.1 && (bt197.2.1 == 0 && (bt197.2.2.1 == 2 && (bt197.2.2.2.1 == 0)))) = true then (if bt203.2.2.2.2 = 0 then (if (bt203.1 && (bt203.2.1 == 0 && (bt203.2.2.1 == 0 && (bt203.2.2.2.1 == 2)))) = true then (if bt212.2.2.2.2 = 0 then (some (!bt212.1 && (bt212.2.1 == 2 && (bt212.2.2.1 == 3 && (bt212.2.2.2.1 == 0))))) else (none)) else (none)) else (none)) else (none)) else (none))))))))) else (none)) = some r := h
 clear h
 by_cases c1 : 3 ≤ 11728124029610
 ·rw [if_pos c1] at H
  have c1b0 := eq_true c1
  have c1b1 : decide (3 ≤ 11728124029610) = true := decide_eq_true c1
  clear c1
  obtain ⟨y187, hy187⟩ : ∃ y_ : List (List ByteArray), y_ = (List.replicate 3 []) := ⟨_, rfl⟩
  replace H : ((parterrelaw18_num.f 3).bind fun bt191 => ((parterrelaw18_num.f 1).bind fun bt194 => ((resolve_Span.f k y187 bt191.1 bt191.2.1 bt191.2.2 bt194.1 bt194.2.1 bt194.2.2).bind fun bt197 => ((resolve_Span.f k y187 4 2 (⟨#[]⟩ : ByteArray) 1 0 (⟨#[]⟩ : ByteArray)).bind fun bt203 => ((parterrelaw18_num.f (-1)).bind fun bt209 => ((resolve_Span.f k y187 bt209.1 bt209.2.1 bt209.2.2 1 0 (⟨#[]⟩ : ByteArray)).bind fun bt212 => (if bt197.2.2.2.2 = 0 then (if (!bt197.1 && (bt197.2.1 == 0 && (bt197.2.2.1 == 2 && (bt197.2.2.2.1 == 0)))) = true then (if bt203.2.2.2.2 = 0 then (if (bt203.1 && (bt203.2.1 == 0 && (bt203.2.2.1 == 0 && (bt203.2.2.2.1 == 2)))) = true then (if bt212.2.2.2.2 = 0 then (some (!bt212.1 && (bt212.2.1 == 2 && (bt212.2.2.1 == 3 && (bt212.2.2.2.1 == 0))))) else (none)) else (none)) else (none)) else (none)) else (none)))))))) = some r := by first | (rw [hy187]; with_reducible exact H) | (have H2_ := (Option.bind_some _ _).symm.trans H; rw [hy187]; with_reducible exact H2_) | (have H2_ := (Option.bind_some _ _).symm.trans H; with_reducible exact H2_) | with_reducible exact H | (rw [hy187]; exact H) | exact H
  have Ny187 := Aside0.mk hy187
  clear hy187
  replace H := Option.bind_eq_some_iff.mp H
  obtain ⟨⟨t191, t192, t193⟩, A20, H⟩ := H
  try dsimp only at H
  have A2 := Aside0.mk A20
  clear A20
  replace H := Option.bind_eq_some_iff.mp H
  obtain ⟨⟨t194, t195, t196⟩, A30, H⟩ := H
  try dsimp only at H
  have A3 := Aside0.mk A30
  clear A30
  replace H := Option.bind_eq_some_iff.mp H
  obtain ⟨⟨t197, t198, t199, t200, t201⟩, A40, H⟩ := H
  try dsimp only at H
  have A4 := Aside0.mk A40
  clear A40
  replace H := Option.bind_eq_some_iff.mp H
  obtain ⟨⟨t203, t204, t205, t206, t207⟩, A50, H⟩ := H
  try dsimp only at H
  have A5 := Aside0.mk A50
  clear A50
  replace H := Option.bind_eq_some_iff.mp H
  obtain ⟨⟨t209, t210, t211⟩, A60, H⟩ := H
  try dsimp only at H
  have A6 := Aside0.mk A60
  clear A60
  replace H := Option.bind_eq_some_iff.mp H
  obtain ⟨⟨t212, t213, t214, t215, t216⟩, A70, H⟩ := H
  try dsimp only at H
  have A7 := Aside0.mk A70
  clear A70
  by_cases c8 : t201 = 0
  ·rw [if_pos c8] at H
   have c8b0 : (t201 == 0) = true := beq_iff_eq.mpr c8
   have c8b1 : (t201 != 0) = false := bne_eq_false_iff_eq.mpr c8
   clear c8
   by_cases c9 : (!t197 && (t198 == 0 && (t199 == 2 && (t200 == 0)))) = true
   ·rw [if_pos c9] at H
    have c9b0 : (!t197 && (t198 == 0 && (t199 == 2 && (t200 == 0)))) = true := c9
    clear c9
    by_cases c10 : t207 = 0
    ·rw [if_pos c10] at H
     have c10b0 : (t207 == 0) = true := beq_iff_eq.mpr c10
     have c10b1 : (t207 != 0) = false := bne_eq_false_iff_eq.mpr c10
     clear c10
     by_cases c11 : (t203 && (t204 == 0 && (t205 == 0 && (t206 == 2)))) = true
     ·rw [if_pos c11] at H
      have c11b0 : (t203 && (t204 == 0 && (t205 == 0 && (t206 == 2)))) = true := c11
      clear c11
      by_cases c12 : t216 = 0
      ·rw [if_pos c12] at H
       have c12b0 : (t216 == 0) = true := beq_iff_eq.mpr c12
       have c12b1 : (t216 != 0) = false := bne_eq_false_iff_eq.mpr c12
       clear c12
       obtain rfl := Option.some.inj H
       go_enter Try.func11, Try.ntmps11
       try go_wp2_with (first | ((with_reducible refine gate_dst (N := 9) rfl ?_); refine Kd.S_make (Kd.slice 9 Kd.string) _ 28 rfl (N := 9) rfl 22 _ _ rfl 3 rfl rfl Try.underlying22 (.slice none 0 0) 24 info28 rfl (by decide) (by omega) [] (ok := fun _ => True) (okp := fun _ => True) ⟨_, rfl, Kd.R_nil _ _ _ _ _⟩ (fun _ hk => hk) trivial (by omega) (by omega) (Below.refl _ _) (Nat.le_refl _) ?_; intro v188 w13 ho14 hb hg_ hnew_; clear hg_ hnew_; (first | rw [← Ny187.out] at ho14 | (simp only [Int.reduceToNat] at ho14; rw [← Ny187.out] at ho14)); have n0_ := Aside0.mk (Kd.S_lower ho14 (below_size bel_)); have n1_ := Aside0.mk (below_step bel_ hb); clear HB; have HO189 := n0_; have HB := n1_; clear n0_ n1_; clear hb ho14) | ((with_reducible refine gate_dst (N := 2) rfl ?_); refine box_event ?hg (N := 2) ?hd (cs := #[.int .i64 0, .int .i64 0, .string (⟨#[]⟩ : ByteArray)]) (t := 34) ?hr ?_; (case hd => rfl); (case hg => rfl); (case hr => first | (go_simp; done) | (go_simp; rfl)); intro gb190 hg w15 hbox hb; have n0_ := Aside0.mk (Kd.S_below (by (with_reducible repeat (first | apply Kd.S_alloc | apply Kd.S_drewN | apply Kd.S_drew)); exact HO189.out) hb); have n1_ := Aside0.mk (below_step bel_ hb); have n2_ := Aside0.mk (hbox); have n3_ := Aside0.mk ((bsz_ hg : w.heap.size ≤ gb190)); have n4_ := Aside0.mk ((bsz_ hg : w.heap.size ≤ gb190)); clear HO189; clear HB; have HO189 := n0_; have HB := n1_; have BK190 := n2_; have GW190 := n3_; have GE190 := n4_; clear n0_ n1_ n2_ n3_ n4_; clear hb hbox hg; have hcz16_0 : w15.cell? ⟨gb190, 0, none⟩ = some (.int .i64 0) := (blk_cell BK190.out 0).trans rfl; have hcz16_1 : w15.cell? ⟨gb190, 1, none⟩ = some (.int .i64 0) := (blk_cell BK190.out 1).trans rfl; have hcz16_2 : w15.cell? ⟨gb190, 2, none⟩ = some (.string (⟨#[]⟩ : ByteArray)) := (blk_cell BK190.out 2).trans rfl; have hfz16_0 := blk_frozen BK190.out 0; have hfz16_1 := blk_frozen BK190.out 1; have hfz16_2 := blk_frozen BK190.out 2) | ((with_reducible refine gate_callee (f := 20) rfl ?_); refine goesL_ (some 13) rfl rfl Try.func20 (by kernel_rfl) rfl #[.int .i64 3] rfl goa_ ?_; (with_reducible refine (parterrelaw18_num.calls 3 t191 t192 t193 _ A2.out).mono ?_); rintro e w17 ⟨rfl, hb⟩; refine ⟨_, rfl, ?_⟩; have n0_ := Aside0.mk (Kd.S_below (by (with_reducible repeat (first | apply Kd.S_alloc | apply Kd.S_drewN | apply Kd.S_drew)); exact (Kd.S_mono (Kd.S_far (p := ⟨gb190, 2, none⟩) (Kd.S_far (p := ⟨gb190, 1, none⟩) (Kd.S_far (p := ⟨gb190, 0, none⟩) (Kd.S_types HO189.out BK190.out (by decide)) (fun _ hk => hk.2) (.int .i64 1)) (fun _ hk => hk.2) (.int .i64 0)) (fun _ hk => hk.2) (.string (⟨#[]⟩ : ByteArray))) (fun _ h_ => h_.1))) hb); have n1_ := Aside0.mk (blk_below (g := gb190) (o := .cells #[.int .i64 1, .int .i64 0, .string (⟨#[]⟩ : ByteArray)] 34 (0, 0)) (by (with_reducible repeat (first | refine blk_drewN ?_ _ | refine blk_drew ?_ | refine blk_alloc ?_ _)); refine blk_put (cs := #[.int .i64 1, .int .i64 0, .string (⟨#[]⟩ : ByteArray)]) ?_ 2 _ rfl; (with_reducible repeat (first | refine blk_drewN ?_ _ | refine blk_drew ?_ | refine blk_alloc ?_ _)); refine blk_put (cs := #[.int .i64 1, .int .i64 0, .string (⟨#[]⟩ : ByteArray)]) ?_ 1 _ rfl; (with_reducible repeat (first | refine blk_drewN ?_ _ | refine blk_drew ?_ | refine blk_alloc ?_ _)); refine blk_put (cs := #[.int .i64 0, .int .i64 0, .string (⟨#[]⟩ : ByteArray)]) ?_ 0 _ rfl; (with_reducible repeat (first | refine blk_drewN ?_ _ | refine blk_drew ?_ | refine blk_alloc ?_ _)); exact BK190.out) hb); have n2_ := Aside0.mk (below_step bel_ hb); clear HO189; clear BK190; clear HB; have HO189 := n0_; have BK190 := n1_; have HB := n2_; clear n0_ n1_ n2_; clear hb) | ((with_reducible refine gate_callee (f := 20) rfl ?_); refine goesL_ (some 14) rfl rfl Try.func20 (by kernel_rfl) rfl #[.int .i64 1] rfl goa_ ?_; (with_reducible refine (parterrelaw18_num.calls 1 t194 t195 t196 _ A3.out).mono ?_); rintro e w18 ⟨rfl, hb⟩; refine ⟨_, rfl, ?_⟩; have n0_ := Aside0.mk (Kd.S_below (by (with_reducible repeat (first | apply Kd.S_alloc | apply Kd.S_drewN | apply Kd.S_drew)); exact HO189.out) hb); have n1_ := blb_ BK190 hb; have n2_ := Aside0.mk (below_step bel_ hb); clear HO189; clear BK190; clear HB; have HO189 := n0_; have BK190 := n1_; have HB := n2_; clear n0_ n1_ n2_; clear hb; obtain ⟨Ao19, co19, eo19⟩ := Kd.S_slice HO189.out; subst eo19) | ((with_reducible refine gate_callee (f := 14) rfl ?_); refine goesL_ (some 15) rfl rfl Try.func14 (by kernel_rfl) rfl #[.slice Ao19 y187.length co19, .agg #[.int .i64 t191, .int .i64 t192, .string t193], .agg #[.int .i64 t194, .int .i64 t195, .string t196]] rfl goa_ ?_; (with_reducible refine (resolve_Span.calls k _ _ y187 t191 t192 t193 t194 t195 t196 t197 t198 t199 t200 t201 _ ?side1 ?side2 A4.out).mono ?_); (case side1 => repeat (first | exact (Kd.S_reads' HO189.out).2.2 | (with_reducible refine Kd.C_alloc ?_ _) | (with_reducible refine Kd.C_drewN ?_ _) | (with_reducible refine Kd.C_drew ?_))); (case side2 => exact (Kd.S_reads' HO189.out).2.1); rintro e w20 ⟨rfl, hb⟩; refine ⟨_, rfl, ?_⟩; have n0_ := Aside0.mk (Kd.S_below (by (with_reducible repeat (first | apply Kd.S_alloc | apply Kd.S_drewN | apply Kd.S_drew)); exact HO189.out) hb); have n1_ := blb_ BK190 hb; have n2_ := Aside0.mk (below_step bel_ hb); clear HO189; clear BK190; clear HB; have HO189 := n0_; have BK190 := n1_; have HB := n2_; clear n0_ n1_ n2_; clear hb) | ((with_reducible refine gate_dst (N := 3) rfl ?_); refine box_event ?hg (N := 3) ?hd (cs := #[.bool false, .int .i64 0, .int .i64 0, .int .i64 0]) (t := 37) ?hr ?_; (case hd => rfl); (case hg => rfl); (case hr => first | (go_simp; done) | (go_simp; rfl)); intro gb202 hg w21 hbox hb; have n0_ := Aside0.mk (Kd.S_below (by (with_reducible repeat (first | apply Kd.S_alloc | apply Kd.S_drewN | apply Kd.S_drew)); exact HO189.out) hb); have n1_ := blb_ BK190 hb; have n2_ := Aside0.mk (below_step bel_ hb); have n3_ := Aside0.mk (hbox); have n4_ := Aside0.mk ((bsz_ hg : w.heap.size ≤ gb202)); have n5_ := Aside0.mk ((bsz_ hg : w.heap.size ≤ gb202)); have n6_ := Aside0.mk (bne_ BK190 hg : gb190 ≠ gb202); have n7_ := Aside0.mk (bng_ BK190 hg : gb202 ≠ gb190); clear HO189; clear BK190; clear HB; have HO189 := n0_; have BK190 := n1_; have HB := n2_; have BK202 := n3_; have GW202 := n4_; have GE202 := n5_; have NB190_202 := n6_; have NB202_190 := n7_; clear n0_ n1_ n2_ n3_ n4_ n5_ n6_ n7_; clear hb hbox hg; have hnb22 := NB202_190.out; have hnc22 := NB190_202.out; have hcz23_0 : w21.cell? ⟨gb202, 0, none⟩ = some (.bool false) := (blk_cell BK202.out 0).trans rfl; have hcz23_1 : w21.cell? ⟨gb202, 1, none⟩ = some (.int .i64 0) := (blk_cell BK202.out 1).trans rfl; have hcz23_2 : w21.cell? ⟨gb202, 2, none⟩ = some (.int .i64 0) := (blk_cell BK202.out 2).trans rfl; have hcz23_3 : w21.cell? ⟨gb202, 3, none⟩ = some (.int .i64 0) := (blk_cell BK202.out 3).trans rfl; have hfz23_0 := blk_frozen BK202.out 0; have hfz23_1 := blk_frozen BK202.out 1; have hfz23_2 := blk_frozen BK202.out 2; have hfz23_3 := blk_frozen BK202.out 3; have hcz24_0 : w21.cell? ⟨gb190, 0, none⟩ = some (.int .i64 1) := (blk_cell BK190.out 0).trans rfl; have hcz24_1 : w21.cell? ⟨gb190, 1, none⟩ = some (.int .i64 0) := (blk_cell BK190.out 1).trans rfl; have hcz24_2 : w21.cell? ⟨gb190, 2, none⟩ = some (.string (⟨#[]⟩ : ByteArray)) := (blk_cell BK190.out 2).trans rfl; have hfz24_0 := blk_frozen BK190.out 0; have hfz24_1 := blk_frozen BK190.out 1; have hfz24_2 := blk_frozen BK190.out 2) | ((with_reducible refine gate_callee (f := 14) rfl ?_); refine goesL_ (some 22) rfl rfl Try.func14 (by kernel_rfl) rfl #[.slice Ao19 y187.length co19, .agg #[.int .i64 4, .int .i64 2, .string (⟨#[]⟩ : ByteArray)], .agg #[.int .i64 1, .int .i64 0, .string (⟨#[]⟩ : ByteArray)]] rfl goa_ ?_; (with_reducible refine (resolve_Span.calls k _ _ y187 4 2 (⟨#[]⟩ : ByteArray) 1 0 (⟨#[]⟩ : ByteArray) t203 t204 t205 t206 t207 _ ?side1 ?side2 A5.out).mono ?_); (case side1 => refine (Kd.S_reads' (e := 28) (base := w.heap.size) (ok := fun k_ => True) (n := y187.length) (c := co19) ?_).2.2; exact (by (with_reducible repeat (first | apply Kd.S_alloc | apply Kd.S_drewN | apply Kd.S_drew)); exact (Kd.S_mono (Kd.S_far (p := ⟨gb202, 3, none⟩) (Kd.S_far (p := ⟨gb202, 2, none⟩) (Kd.S_far (p := ⟨gb202, 1, none⟩) (Kd.S_far (p := ⟨gb202, 0, none⟩) (Kd.S_types HO189.out BK202.out (by decide)) (fun _ hk => hk.2) (.bool t197)) (fun _ hk => hk.2) (.int .i64 t198)) (fun _ hk => hk.2) (.int .i64 t199)) (fun _ hk => hk.2) (.int .i64 t200)) (fun _ h_ => h_.1)))); (case side2 => exact (Kd.S_reads' HO189.out).2.1); rintro e w25 ⟨rfl, hb⟩; refine ⟨_, rfl, ?_⟩; have n0_ := Aside0.mk (Kd.S_below (by (with_reducible repeat (first | apply Kd.S_alloc | apply Kd.S_drewN | apply Kd.S_drew)); exact (Kd.S_mono (Kd.S_far (p := ⟨gb202, 3, none⟩) (Kd.S_far (p := ⟨gb202, 2, none⟩) (Kd.S_far (p := ⟨gb202, 1, none⟩) (Kd.S_far (p := ⟨gb202, 0, none⟩) (Kd.S_types HO189.out BK202.out (by decide)) (fun _ hk => hk.2) (.bool t197)) (fun _ hk => hk.2) (.int .i64 t198)) (fun _ hk => hk.2) (.int .i64 t199)) (fun _ hk => hk.2) (.int .i64 t200)) (fun _ h_ => h_.1))) hb); have n1_ := Aside0.mk (blk_below (g := gb190) (o := .cells #[.int .i64 1, .int .i64 0, .string (⟨#[]⟩ : ByteArray)] 34 (0, 0)) (by (with_reducible repeat (first | refine blk_drewN ?_ _ | refine blk_drew ?_ | refine blk_alloc ?_ _)); refine blk_far ?_ NB190_202.out _; (with_reducible repeat (first | refine blk_drewN ?_ _ | refine blk_drew ?_ | refine blk_alloc ?_ _)); refine blk_far ?_ NB190_202.out _; (with_reducible repeat (first | refine blk_drewN ?_ _ | refine blk_drew ?_ | refine blk_alloc ?_ _)); refine blk_far ?_ NB190_202.out _; (with_reducible repeat (first | refine blk_drewN ?_ _ | refine blk_drew ?_ | refine blk_alloc ?_ _)); refine blk_far ?_ NB190_202.out _; (with_reducible repeat (first | refine blk_drewN ?_ _ | refine blk_drew ?_ | refine blk_alloc ?_ _)); exact BK190.out) hb); have n2_ := Aside0.mk (blk_below (g := gb202) (o := .cells #[.bool t197, .int .i64 t198, .int .i64 t199, .int .i64 t200] 37 (0, 0)) (by (with_reducible repeat (first | refine blk_drewN ?_ _ | refine blk_drew ?_ | refine blk_alloc ?_ _)); refine blk_put (cs := #[.bool t197, .int .i64 t198, .int .i64 t199, .int .i64 0]) ?_ 3 _ rfl; (with_reducible repeat (first | refine blk_drewN ?_ _ | refine blk_drew ?_ | refine blk_alloc ?_ _)); refine blk_put (cs := #[.bool t197, .int .i64 t198, .int .i64 0, .int .i64 0]) ?_ 2 _ rfl; (with_reducible repeat (first | refine blk_drewN ?_ _ | refine blk_drew ?_ | refine blk_alloc ?_ _)); refine blk_put (cs := #[.bool t197, .int .i64 0, .int .i64 0, .int .i64 0]) ?_ 1 _ rfl; (with_reducible repeat (first | refine blk_drewN ?_ _ | refine blk_drew ?_ | refine blk_alloc ?_ _)); refine blk_put (cs := #[.bool false, .int .i64 0, .int .i64 0, .int .i64 0]) ?_ 0 _ rfl; (with_reducible repeat (first | refine blk_drewN ?_ _ | refine blk_drew ?_ | refine blk_alloc ?_ _)); exact BK202.out) hb); have n3_ := Aside0.mk (below_step bel_ hb); clear HO189; clear BK190; clear BK202; clear HB; have HO189 := n0_; have BK190 := n1_; have BK202 := n2_; have HB := n3_; clear n0_ n1_ n2_ n3_; clear hb) | ((with_reducible refine gate_dst (N := 5) rfl ?_); refine box_event ?hg (N := 5) ?hd (cs := #[.bool false, .int .i64 0, .int .i64 0, .int .i64 0]) (t := 37) ?hr ?_; (case hd => rfl); (case hg => rfl); (case hr => first | (go_simp; done) | (go_simp; rfl)); intro gb208 hg w26 hbox hb; have n0_ := Aside0.mk (Kd.S_below (by (with_reducible repeat (first | apply Kd.S_alloc | apply Kd.S_drewN | apply Kd.S_drew)); exact HO189.out) hb); have n1_ := blb_ BK190 hb; have n2_ := blb_ BK202 hb; have n3_ := Aside0.mk (below_step bel_ hb); have n4_ := Aside0.mk (hbox); have n5_ := Aside0.mk ((bsz_ hg : w.heap.size ≤ gb208)); have n6_ := Aside0.mk ((bsz_ hg : w.heap.size ≤ gb208)); have n7_ := Aside0.mk (bne_ BK190 hg : gb190 ≠ gb208); have n8_ := Aside0.mk (bng_ BK190 hg : gb208 ≠ gb190); have n9_ := Aside0.mk (bne_ BK202 hg : gb202 ≠ gb208); have n10_ := Aside0.mk (bng_ BK202 hg : gb208 ≠ gb202); clear HO189; clear BK190; clear BK202; clear HB; have HO189 := n0_; have BK190 := n1_; have BK202 := n2_; have HB := n3_; have BK208 := n4_; have GW208 := n5_; have GE208 := n6_; have NB190_208 := n7_; have NB208_190 := n8_; have NB202_208 := n9_; have NB208_202 := n10_; clear n0_ n1_ n2_ n3_ n4_ n5_ n6_ n7_ n8_ n9_ n10_; clear hb hbox hg; have hnb27 := NB208_190.out; have hnc27 := NB190_208.out; have hnb28 := NB208_202.out; have hnc28 := NB202_208.out; have hcz29_0 : w26.cell? ⟨gb208, 0, none⟩ = some (.bool false) := (blk_cell BK208.out 0).trans rfl; have hcz29_1 : w26.cell? ⟨gb208, 1, none⟩ = some (.int .i64 0) := (blk_cell BK208.out 1).trans rfl; have hcz29_2 : w26.cell? ⟨gb208, 2, none⟩ = some (.int .i64 0) := (blk_cell BK208.out 2).trans rfl; have hcz29_3 : w26.cell? ⟨gb208, 3, none⟩ = some (.int .i64 0) := (blk_cell BK208.out 3).trans rfl; have hfz29_0 := blk_frozen BK208.out 0; have hfz29_1 := blk_frozen BK208.out 1; have hfz29_2 := blk_frozen BK208.out 2; have hfz29_3 := blk_frozen BK208.out 3))
       have n0_ : Aside0 (Kd.S (Kd.slice 9 Kd.string) 28 ((((w26.setCell ⟨gb208, 0, none⟩ (.bool t203)).setCell ⟨gb208, 1, none⟩ (.int .i64 t204)).setCell ⟨gb208, 2, none⟩ (.int .i64 t205)).setCell ⟨gb208, 3, none⟩ (.int .i64 t206)) w.heap.size (fun _ => True) (.slice Ao19 y187.length co19) y187) := ⟨by (with_reducible repeat (first | apply Kd.S_alloc | apply Kd.S_drewN | apply Kd.S_drew)); exact Kd.S_mono (Kd.S_far (p := ⟨gb208, 3, none⟩) (Kd.S_far (p := ⟨gb208, 2, none⟩) (Kd.S_far (p := ⟨gb208, 1, none⟩) (Kd.S_far (p := ⟨gb208, 0, none⟩) (Kd.S_types HO189.out BK208.out (by decide)) (fun _ hk => hk.2) (.bool t203)) (fun _ hk => hk.2) (.int .i64 t204)) (fun _ hk => hk.2) (.int .i64 t205)) (fun _ hk => hk.2) (.int .i64 t206)) (fun _ hk => trivial)⟩
       have n1_ : Aside0 (((((w26.setCell ⟨gb208, 0, none⟩ (.bool t203)).setCell ⟨gb208, 1, none⟩ (.int .i64 t204)).setCell ⟨gb208, 2, none⟩ (.int .i64 t205)).setCell ⟨gb208, 3, none⟩ (.int .i64 t206)).heap[gb190]? = some (.cells #[.int .i64 1, .int .i64 0, .string (⟨#[]⟩ : ByteArray)] 34 (0, 0))) := ⟨by (with_reducible repeat (first | refine blk_drewN ?_ _ | refine blk_drew ?_ | refine blk_alloc ?_ _)); refine blk_far ?_ NB190_208.out _; (with_reducible repeat (first | refine blk_drewN ?_ _ | refine blk_drew ?_ | refine blk_alloc ?_ _)); refine blk_far ?_ NB190_208.out _; (with_reducible repeat (first | refine blk_drewN ?_ _ | refine blk_drew ?_ | refine blk_alloc ?_ _)); refine blk_far ?_ NB190_208.out _; (with_reducible repeat (first | refine blk_drewN ?_ _ | refine blk_drew ?_ | refine blk_alloc ?_ _)); refine blk_far ?_ NB190_208.out _; (with_reducible repeat (first | refine blk_drewN ?_ _ | refine blk_drew ?_ | refine blk_alloc ?_ _)); exact BK190.out⟩
       have n2_ : Aside0 (((((w26.setCell ⟨gb208, 0, none⟩ (.bool t203)).setCell ⟨gb208, 1, none⟩ (.int .i64 t204)).setCell ⟨gb208, 2, none⟩ (.int .i64 t205)).setCell ⟨gb208, 3, none⟩ (.int .i64 t206)).heap[gb202]? = some (.cells #[.bool t197, .int .i64 t198, .int .i64 t199, .int .i64 t200] 37 (0, 0))) := ⟨by (with_reducible repeat (first | refine blk_drewN ?_ _ | refine blk_drew ?_ | refine blk_alloc ?_ _)); refine blk_far ?_ NB202_208.out _; (with_reducible repeat (first | refine blk_drewN ?_ _ | refine blk_drew ?_ | refine blk_alloc ?_ _)); refine blk_far ?_ NB202_208.out _; (with_reducible repeat (first | refine blk_drewN ?_ _ | refine blk_drew ?_ | refine blk_alloc ?_ _)); refine blk_far ?_ NB202_208.out _; (with_reducible repeat (first | refine blk_drewN ?_ _ | refine blk_drew ?_ | refine blk_alloc ?_ _)); refine blk_far ?_ NB202_208.out _; (with_reducible repeat (first | refine blk_drewN ?_ _ | refine blk_drew ?_ | refine blk_alloc ?_ _)); exact BK202.out⟩
       have n3_ : Aside0 (((((w26.setCell ⟨gb208, 0, none⟩ (.bool t203)).setCell ⟨gb208, 1, none⟩ (.int .i64 t204)).setCell ⟨gb208, 2, none⟩ (.int .i64 t205)).setCell ⟨gb208, 3, none⟩ (.int .i64 t206)).heap[gb208]? = some (.cells #[.bool t203, .int .i64 t204, .int .i64 t205, .int .i64 t206] 37 (0, 0))) := ⟨by (with_reducible repeat (first | refine blk_drewN ?_ _ | refine blk_drew ?_ | refine blk_alloc ?_ _)); refine blk_put (cs := #[.bool t203, .int .i64 t204, .int .i64 t205, .int .i64 0]) ?_ 3 _ rfl; (with_reducible repeat (first | refine blk_drewN ?_ _ | refine blk_drew ?_ | refine blk_alloc ?_ _)); refine blk_put (cs := #[.bool t203, .int .i64 t204, .int .i64 0, .int .i64 0]) ?_ 2 _ rfl; (with_reducible repeat (first | refine blk_drewN ?_ _ | refine blk_drew ?_ | refine blk_alloc ?_ _)); refine blk_put (cs := #[.bool t203, .int .i64 0, .int .i64 0, .int .i64 0]) ?_ 1 _ rfl; (with_reducible repeat (first | refine blk_drewN ?_ _ | refine blk_drew ?_ | refine blk_alloc ?_ _)); refine blk_put (cs := #[.bool false, .int .i64 0, .int .i64 0, .int .i64 0]) ?_ 0 _ rfl; (with_reducible repeat (first | refine blk_drewN ?_ _ | refine blk_drew ?_ | refine blk_alloc ?_ _)); exact BK208.out⟩
       have n4_ : Aside0 (Below w.heap.size w ((((w26.setCell ⟨gb208, 0, none⟩ (.bool t203)).setCell ⟨gb208, 1, none⟩ (.int .i64 t204)).setCell ⟨gb208, 2, none⟩ (.int .i64 t205)).setCell ⟨gb208, 3, none⟩ (.int .i64 t206))) := ⟨bel_⟩
       (try clear HO189)
       (try clear BK190)
       (try clear BK202)
       (try clear BK208)
       (try clear HB)
       generalize ((((w26.setCell ⟨gb208, 0, none⟩ (.bool t203)).setCell ⟨gb208, 1, none⟩ (.int .i64 t204)).setCell ⟨gb208, 2, none⟩ (.int .i64 t205)).setCell ⟨gb208, 3, none⟩ (.int .i64 t206)) = w30 at n0_ n1_ n2_ n3_ n4_ ⊢
       have HO189 := n0_
       have BK190 := n1_
       have BK202 := n2_
       have BK208 := n3_
       have HB := n4_
       clear n0_ n1_ n2_ n3_ n4_
       have n0_ := Aside0.mk (Kd.S_drew HO189.out)
       have n1_ := Aside0.mk (blk_drew BK190.out)
       have n2_ := Aside0.mk (blk_drew BK202.out)
       have n3_ := Aside0.mk (blk_drew BK208.out)
       have n4_ := Aside0.mk (below_drew1 HB.out)
       clear HO189
       clear BK190
       clear BK202
       clear BK208
       clear HB
       have HO189 := n0_
       have BK190 := n1_
       have BK202 := n2_
       have BK208 := n3_
       have HB := n4_
       clear n0_ n1_ n2_ n3_ n4_
       refine start_ (n := 10) (S := fun w' => w'.cell? ⟨gb190, 0, none⟩ = some (.int .i64 1) ∧ w'.cell? ⟨gb190, 1, none⟩ = some (.int .i64 0) ∧ w'.cell? ⟨gb190, 2, none⟩ = some (.string (⟨#[]⟩ : ByteArray))) (ds := []) #[false, false, false, false, false, false, false, false, false, false] (by kernel_rfl) rfl rfl ⟨(blk_cell BK190.out 0).trans rfl, (blk_cell BK190.out 1).trans rfl, (blk_cell BK190.out 2).trans rfl⟩ (fun hHeld => ?_); refine with_tabW parterrelaw18_lives.tab5 parterrelaw18_lives.bits5 (fun HT_ HW_ => ?_)
       generalize w30.drew = w31 at HO189 BK190 BK202 BK208 HB hHeld ⊢
       refine pure_ (i := 0) (N := some 26) (v := ?_) (a' := ?_) #[true, false, false, false, false, false, false, false, false, false] rfl rfl (any_of HT_.out (by kernel_rfl)) (fun _ _ _ h => h) (Or.inl ⟨by rfl, ?_⟩) ?_ ?_
       rotate_left
       ·intro w'
        go_simp
        with_reducible rfl
       rotate_left
       ·simp only [Act.put, List.setIfInBounds_toArray, List.set_cons_zero, List.set_cons_succ, i64_w, i32_w]
        rfl
       refine take_ (i := 2) (N := some 28) (v := ?_) (a' := ?_) #[true, false, true, false, false, false, false, false, false, false] rfl rfl (take_ofW HT_.out HW_.out (by kernel_rfl)) (fun _ _ _ h => h) (Or.inl ⟨by rfl, ?_⟩) hHeld ?_ ?_
       rotate_left
       ·rintro w' ⟨s0, s1, s2⟩
        go_simp
        with_reducible rfl
       rotate_left
       ·simp only [Act.put, List.setIfInBounds_toArray, List.set_cons_zero, List.set_cons_succ, i64_w, i32_w]
        rfl
       refine join_ (σ := Nat) 2 #[true, true, true, true, true, true, true, true, false, false] (fun s_ => [(27, .agg #[.int .i64 t209, .int .i64 t210, .string t211]), (29, .tuple #[.agg #[.bool t212, .int .i64 t213, .int .i64 t214, .int .i64 t215], .int .i64 t216]), (7, .pointer (some ⟨s_, 0, none⟩)), (25, .tuple #[.agg #[.bool t212, .int .i64 t213, .int .i64 t214, .int .i64 t215], .int .i64 t216]), (30, .agg #[.bool t212, .int .i64 t213, .int .i64 t214, .int .i64 t215]), (31, .int .i64 t216)]) (fun s_ w' => (w'.cell? ⟨gb190, 0, none⟩ = some (.int .i64 1) ∧ w'.cell? ⟨gb190, 1, none⟩ = some (.int .i64 0) ∧ w'.cell? ⟨gb190, 2, none⟩ = some (.string (⟨#[]⟩ : ByteArray))) ∧ (Kd.S (Kd.slice 9 Kd.string) 28 w' w.heap.size (fun _ => True) (.slice Ao19 y187.length co19) y187) ∧ (w'.heap[gb190]? = some (.cells #[.int .i64 1, .int .i64 0, .string (⟨#[]⟩ : ByteArray)] 34 (0, 0))) ∧ (w'.heap[gb202]? = some (.cells #[.bool t197, .int .i64 t198, .int .i64 t199, .int .i64 t200] 37 (0, 0))) ∧ (w'.heap[gb208]? = some (.cells #[.bool t203, .int .i64 t204, .int .i64 t205, .int .i64 t206] 37 (0, 0))) ∧ (w'.heap[s_]? = some (.cells #[.bool false, .int .i64 0, .int .i64 0, .int .i64 0] 37 (0, 0))) ∧ (w.heap.size ≤ s_) ∧ (w.heap.size ≤ s_) ∧ (gb190 ≠ s_) ∧ (s_ ≠ gb190) ∧ (gb202 ≠ s_) ∧ (s_ ≠ gb202) ∧ (gb208 ≠ s_) ∧ (s_ ≠ gb208) ∧ (Below w.heap.size w w')) ?_ ?_
       rotate_left
       ·intro hCont
        refine two_ (i := 1) (j := 7) (Ni := some 27) (Nj := some 7) #[true, true, true, false, false, false, false, false, false, false] #[true, false, true, false, false, false, false, true, false, false] rfl rfl rfl rfl (two_of HT_.out (by kernel_rfl)) (by decide) (by decide) (fun K hK => ?_) (fun K hK => ?_)
        ·skip
         refine goes_ Try.func20 (by kernel_rfl) rfl #[.int .i64 (-1)] (by rfl) rfl rfl goa_ ?_
         with_reducible refine (parterrelaw18_num.calls (-1) t209 t210 t211 _ A6.out).mono ?_
         rintro e w32 ⟨rfl, hb⟩
         refine ⟨_, rfl, ?_⟩
         have n0_ := Aside0.mk (Kd.S_below (by (with_reducible repeat (first | apply Kd.S_alloc | apply Kd.S_drewN | apply Kd.S_drew)); exact HO189.out) hb)
         have n1_ := blb_ BK190 hb
         have n2_ := blb_ BK202 hb
         have n3_ := blb_ BK208 hb
         have n4_ := Aside0.mk (below_step bel_ hb)
         clear HO189
         clear BK190
         clear BK202
         clear BK208
         clear HB
         have HO189 := n0_
         have BK190 := n1_
         have BK202 := n2_
         have BK208 := n3_
         have HB := n4_
         clear n0_ n1_ n2_ n3_ n4_
         (try clear hb)
         (try clear hb2)
         (try clear hk)
         (try clear hi)
         refine hK.out _ _ ⟨(blk_cell BK190.out 0).trans rfl, (blk_cell BK190.out 1).trans rfl, (blk_cell BK190.out 2).trans rfl⟩ (fun hHeld => ?_)
         clear hK K
         refine norm_ (a' := ?_) ?_ ?_
         rotate_left
         ·show Act.put _ (some 27) _ = _
          simp only [Act.put, List.setIfInBounds_toArray, List.set_cons_zero, List.set_cons_succ, i64_w, i32_w]
          rfl
         refine two_ (i := 3) (j := 7) (Ni := some 29) (Nj := some 7) #[true, true, true, true, false, false, false, false, false, false] #[true, true, true, false, false, false, false, true, false, false] rfl rfl rfl rfl (two_of HT_.out (by kernel_rfl)) (by decide) (by decide) (fun K hK => ?_) (fun K hK => ?_)
         ·skip
          refine goes_ Try.func14 (by kernel_rfl) rfl #[.slice Ao19 y187.length co19, .agg #[.int .i64 t209, .int .i64 t210, .string t211], .agg #[.int .i64 1, .int .i64 0, .string (⟨#[]⟩ : ByteArray)]] (by rfl) rfl rfl goa_ ?_
          with_reducible refine (resolve_Span.calls k _ _ y187 t209 t210 t211 1 0 (⟨#[]⟩ : ByteArray) t212 t213 t214 t215 t216 _ ?side1 ?side2 A7.out).mono ?_
          (case side1 => repeat (first | exact (Kd.S_reads' HO189.out).2.2 | (with_reducible refine Kd.C_alloc ?_ _) | (with_reducible refine Kd.C_drewN ?_ _) | (with_reducible refine Kd.C_drew ?_)))
          (case side2 => exact (Kd.S_reads' HO189.out).2.1)
          rintro e w33 ⟨rfl, hb⟩
          refine ⟨_, rfl, ?_⟩
          have n0_ := Aside0.mk (Kd.S_below (by (with_reducible repeat (first | apply Kd.S_alloc | apply Kd.S_drewN | apply Kd.S_drew)); exact HO189.out) hb)
          have n1_ := blb_ BK190 hb
          have n2_ := blb_ BK202 hb
          have n3_ := blb_ BK208 hb
          have n4_ := Aside0.mk (below_step bel_ hb)
          clear HO189
          clear BK190
          clear BK202
          clear BK208
          clear HB
          have HO189 := n0_
          have BK190 := n1_
          have BK202 := n2_
          have BK208 := n3_
          have HB := n4_
          clear n0_ n1_ n2_ n3_ n4_
          (try clear hb)
          (try clear hb2)
          (try clear hk)
          (try clear hi)
          refine hK.out _ _ ⟨(blk_cell BK190.out 0).trans rfl, (blk_cell BK190.out 1).trans rfl, (blk_cell BK190.out 2).trans rfl⟩ (fun hHeld => ?_)
          clear hK K
          refine norm_ (a' := ?_) ?_ ?_
          rotate_left
          ·show Act.put _ (some 29) _ = _
           simp only [Act.put, List.setIfInBounds_toArray, List.set_cons_zero, List.set_cons_succ, i64_w, i32_w]
           rfl
          refine pure_ (i := 4) (N := some 25) (v := ?_) (a' := ?_) #[true, true, true, true, true, false, false, false, false, false] rfl rfl (any_of HT_.out (by kernel_rfl)) (fun _ _ _ h => h) (Or.inl ⟨by rfl, ?_⟩) ?_ ?_
          rotate_left
          ·intro w'
           go_simp
           with_reducible rfl
          rotate_left
          ·simp only [Act.put, List.setIfInBounds_toArray, List.set_cons_zero, List.set_cons_succ, i64_w, i32_w]
           rfl
          refine pure_ (i := 5) (N := some 30) (v := ?_) (a' := ?_) #[true, true, true, true, true, true, false, false, false, false] rfl rfl (any_of HT_.out (by kernel_rfl)) (fun _ _ _ h => h) (Or.inl ⟨by rfl, ?_⟩) ?_ ?_
          rotate_left
          ·intro w'
           go_simp
           with_reducible rfl
          rotate_left
          ·simp only [Act.put, List.setIfInBounds_toArray, List.set_cons_zero, List.set_cons_succ, i64_w, i32_w]
           rfl
          refine pure_ (i := 6) (N := some 31) (v := ?_) (a' := ?_) #[true, true, true, true, true, true, true, false, false, false] rfl rfl (any_of HT_.out (by kernel_rfl)) (fun _ _ _ h => h) (Or.inl ⟨by rfl, ?_⟩) ?_ ?_
          rotate_left
          ·intro w'
           go_simp
           with_reducible rfl
          rotate_left
          ·simp only [Act.put, List.setIfInBounds_toArray, List.set_cons_zero, List.set_cons_succ, i64_w, i32_w]
           rfl
          refine one_ (i := 7) (N := some 7) #[true, true, true, true, true, true, true, true, false, false] rfl rfl (one_of HT_.out (by kernel_rfl)) (by decide) (fun K hK => ?_)
          refine box_step ?hg (N := 7) ?hd (cs := #[.bool false, .int .i64 0, .int .i64 0, .int .i64 0]) (t := 37) ?hr ?_; (case hd => rfl); (case hg => rfl); (case hr => first | (go_simp; done) | (go_simp; rfl))
          intro gb217 hg w34 hbox hb
          have n0_ := Aside0.mk (Kd.S_below (by (with_reducible repeat (first | apply Kd.S_alloc | apply Kd.S_drewN | apply Kd.S_drew)); exact HO189.out) hb)
          have n1_ := blb_ BK190 hb
          have n2_ := blb_ BK202 hb
          have n3_ := blb_ BK208 hb
          have n4_ := Aside0.mk (below_step bel_ hb)
          have n5_ := Aside0.mk (hbox)
          have n6_ := Aside0.mk ((bsz_ hg : w.heap.size ≤ gb217))
          have n7_ := Aside0.mk ((bsz_ hg : w.heap.size ≤ gb217))
          have n8_ := Aside0.mk (bne_ BK190 hg : gb190 ≠ gb217)
          have n9_ := Aside0.mk (bng_ BK190 hg : gb217 ≠ gb190)
          have n10_ := Aside0.mk (bne_ BK202 hg : gb202 ≠ gb217)
          have n11_ := Aside0.mk (bng_ BK202 hg : gb217 ≠ gb202)
          have n12_ := Aside0.mk (bne_ BK208 hg : gb208 ≠ gb217)
          have n13_ := Aside0.mk (bng_ BK208 hg : gb217 ≠ gb208)
          clear HO189
          clear BK190
          clear BK202
          clear BK208
          clear HB
          have HO189 := n0_
          have BK190 := n1_
          have BK202 := n2_
          have BK208 := n3_
          have HB := n4_
          have BK217 := n5_
          have GW217 := n6_
          have GE217 := n7_
          have NB190_217 := n8_
          have NB217_190 := n9_
          have NB202_217 := n10_
          have NB217_202 := n11_
          have NB208_217 := n12_
          have NB217_208 := n13_
          clear n0_ n1_ n2_ n3_ n4_ n5_ n6_ n7_ n8_ n9_ n10_ n11_ n12_ n13_
          clear hb hbox hg
          refine hK.out _ _ ⟨(blk_cell BK190.out 0).trans rfl, (blk_cell BK190.out 1).trans rfl, (blk_cell BK190.out 2).trans rfl⟩ (fun hHeld => ?_)
          clear hK K
          refine norm_ (a' := ?_) ?_ ?_
          rotate_left
          ·show Act.put _ (some 7) _ = _
           simp only [Act.put, List.setIfInBounds_toArray, List.set_cons_zero, List.set_cons_succ, i64_w, i32_w]
           rfl
          exact norm_ (by simp only [putAll, Act.put, List.setIfInBounds_toArray, List.set_cons_zero, List.set_cons_succ]) (hCont (gb217) _ ⟨hHeld, (by (with_reducible repeat (first | apply Kd.S_alloc | apply Kd.S_drewN | apply Kd.S_drew)); exact HO189.out), blk_, blk_, blk_, blk_, GW217.out, GE217.out, NB190_217.out, NB217_190.out, NB202_217.out, NB217_202.out, NB208_217.out, NB217_208.out, bel_⟩)
         ·skip
          refine box_step ?hg (N := 7) ?hd (cs := #[.bool false, .int .i64 0, .int .i64 0, .int .i64 0]) (t := 37) ?hr ?_; (case hd => rfl); (case hg => rfl); (case hr => first | (go_simp; done) | (go_simp; rfl))
          intro gb217 hg w33 hbox hb
          have n0_ := Aside0.mk (Kd.S_below (by (with_reducible repeat (first | apply Kd.S_alloc | apply Kd.S_drewN | apply Kd.S_drew)); exact HO189.out) hb)
          have n1_ := blb_ BK190 hb
          have n2_ := blb_ BK202 hb
          have n3_ := blb_ BK208 hb
          have n4_ := Aside0.mk (below_step bel_ hb)
          have n5_ := Aside0.mk (hbox)
          have n6_ := Aside0.mk ((bsz_ hg : w.heap.size ≤ gb217))
          have n7_ := Aside0.mk ((bsz_ hg : w.heap.size ≤ gb217))
          have n8_ := Aside0.mk (bne_ BK190 hg : gb190 ≠ gb217)
          have n9_ := Aside0.mk (bng_ BK190 hg : gb217 ≠ gb190)
          have n10_ := Aside0.mk (bne_ BK202 hg : gb202 ≠ gb217)
          have n11_ := Aside0.mk (bng_ BK202 hg : gb217 ≠ gb202)
          have n12_ := Aside0.mk (bne_ BK208 hg : gb208 ≠ gb217)
          have n13_ := Aside0.mk (bng_ BK208 hg : gb217 ≠ gb208)
          clear HO189
          clear BK190
          clear BK202
          clear BK208
          clear HB
          have HO189 := n0_
          have BK190 := n1_
          have BK202 := n2_
          have BK208 := n3_
          have HB := n4_
          have BK217 := n5_
          have GW217 := n6_
          have GE217 := n7_
          have NB190_217 := n8_
          have NB217_190 := n9_
          have NB202_217 := n10_
          have NB217_202 := n11_
          have NB208_217 := n12_
          have NB217_208 := n13_
          clear n0_ n1_ n2_ n3_ n4_ n5_ n6_ n7_ n8_ n9_ n10_ n11_ n12_ n13_
          clear hb hbox hg
          refine hK.out _ _ ⟨(blk_cell BK190.out 0).trans rfl, (blk_cell BK190.out 1).trans rfl, (blk_cell BK190.out 2).trans rfl⟩ (fun hHeld => ?_)
          clear hK K
          refine norm_ (a' := ?_) ?_ ?_
          rotate_left
          ·show Act.put _ (some 7) _ = _
           simp only [Act.put, List.setIfInBounds_toArray, List.set_cons_zero, List.set_cons_succ, i64_w, i32_w]
           rfl
          refine one_ (i := 3) (N := some 29) #[true, true, true, true, false, false, false, true, false, false] rfl rfl (one_of HT_.out (by kernel_rfl)) (by decide) (fun K hK => ?_)
          refine goes_ Try.func14 (by kernel_rfl) rfl #[.slice Ao19 y187.length co19, .agg #[.int .i64 t209, .int .i64 t210, .string t211], .agg #[.int .i64 1, .int .i64 0, .string (⟨#[]⟩ : ByteArray)]] (by rfl) rfl rfl goa_ ?_
          with_reducible refine (resolve_Span.calls k _ _ y187 t209 t210 t211 1 0 (⟨#[]⟩ : ByteArray) t212 t213 t214 t215 t216 _ ?side1 ?side2 A7.out).mono ?_
          (case side1 => repeat (first | exact (Kd.S_reads' HO189.out).2.2 | (with_reducible refine Kd.C_alloc ?_ _) | (with_reducible refine Kd.C_drewN ?_ _) | (with_reducible refine Kd.C_drew ?_)))
          (case side2 => exact (Kd.S_reads' HO189.out).2.1)
          rintro e w34 ⟨rfl, hb⟩
          refine ⟨_, rfl, ?_⟩
          have n0_ := Aside0.mk (Kd.S_below (by (with_reducible repeat (first | apply Kd.S_alloc | apply Kd.S_drewN | apply Kd.S_drew)); exact HO189.out) hb)
          have n1_ := blb_ BK190 hb
          have n2_ := blb_ BK202 hb
          have n3_ := blb_ BK208 hb
          have n4_ := blb_ BK217 hb
          have n5_ := Aside0.mk (below_step bel_ hb)
          clear HO189
          clear BK190
          clear BK202
          clear BK208
          clear BK217
          clear HB
          have HO189 := n0_
          have BK190 := n1_
          have BK202 := n2_
          have BK208 := n3_
          have BK217 := n4_
          have HB := n5_
          clear n0_ n1_ n2_ n3_ n4_ n5_
          (try clear hb)
          (try clear hb2)
          (try clear hk)
          (try clear hi)
          refine hK.out _ _ ⟨(blk_cell BK190.out 0).trans rfl, (blk_cell BK190.out 1).trans rfl, (blk_cell BK190.out 2).trans rfl⟩ (fun hHeld => ?_)
          clear hK K
          refine norm_ (a' := ?_) ?_ ?_
          rotate_left
          ·show Act.put _ (some 29) _ = _
           simp only [Act.put, List.setIfInBounds_toArray, List.set_cons_zero, List.set_cons_succ, i64_w, i32_w]
           rfl
          refine pure_ (i := 4) (N := some 25) (v := ?_) (a' := ?_) #[true, true, true, true, true, false, false, true, false, false] rfl rfl (any_of HT_.out (by kernel_rfl)) (fun _ _ _ h => h) (Or.inl ⟨by rfl, ?_⟩) ?_ ?_
          rotate_left
          ·intro w'
           go_simp
           with_reducible rfl
          rotate_left
          ·simp only [Act.put, List.setIfInBounds_toArray, List.set_cons_zero, List.set_cons_succ, i64_w, i32_w]
           rfl
          refine pure_ (i := 5) (N := some 30) (v := ?_) (a' := ?_) #[true, true, true, true, true, true, false, true, false, false] rfl rfl (any_of HT_.out (by kernel_rfl)) (fun _ _ _ h => h) (Or.inl ⟨by rfl, ?_⟩) ?_ ?_
          rotate_left
          ·intro w'
           go_simp
           with_reducible rfl
          rotate_left
          ·simp only [Act.put, List.setIfInBounds_toArray, List.set_cons_zero, List.set_cons_succ, i64_w, i32_w]
           rfl
          refine pure_ (i := 6) (N := some 31) (v := ?_) (a' := ?_) #[true, true, true, true, true, true, true, true, false, false] rfl rfl (any_of HT_.out (by kernel_rfl)) (fun _ _ _ h => h) (Or.inl ⟨by rfl, ?_⟩) ?_ ?_
          rotate_left
          ·intro w'
           go_simp
           with_reducible rfl
          rotate_left
          ·simp only [Act.put, List.setIfInBounds_toArray, List.set_cons_zero, List.set_cons_succ, i64_w, i32_w]
           rfl
          exact norm_ (by simp only [putAll, Act.put, List.setIfInBounds_toArray, List.set_cons_zero, List.set_cons_succ]) (hCont (gb217) _ ⟨hHeld, (by (with_reducible repeat (first | apply Kd.S_alloc | apply Kd.S_drewN | apply Kd.S_drew)); exact HO189.out), blk_, blk_, blk_, blk_, GW217.out, GE217.out, NB190_217.out, NB217_190.out, NB202_217.out, NB217_202.out, NB208_217.out, NB217_208.out, bel_⟩)
        ·skip
         refine box_step ?hg (N := 7) ?hd (cs := #[.bool false, .int .i64 0, .int .i64 0, .int .i64 0]) (t := 37) ?hr ?_; (case hd => rfl); (case hg => rfl); (case hr => first | (go_simp; done) | (go_simp; rfl))
         intro gb217 hg w32 hbox hb
         have n0_ := Aside0.mk (Kd.S_below (by (with_reducible repeat (first | apply Kd.S_alloc | apply Kd.S_drewN | apply Kd.S_drew)); exact HO189.out) hb)
         have n1_ := blb_ BK190 hb
         have n2_ := blb_ BK202 hb
         have n3_ := blb_ BK208 hb
         have n4_ := Aside0.mk (below_step bel_ hb)
         have n5_ := Aside0.mk (hbox)
         have n6_ := Aside0.mk ((bsz_ hg : w.heap.size ≤ gb217))
         have n7_ := Aside0.mk ((bsz_ hg : w.heap.size ≤ gb217))
         have n8_ := Aside0.mk (bne_ BK190 hg : gb190 ≠ gb217)
         have n9_ := Aside0.mk (bng_ BK190 hg : gb217 ≠ gb190)
         have n10_ := Aside0.mk (bne_ BK202 hg : gb202 ≠ gb217)
         have n11_ := Aside0.mk (bng_ BK202 hg : gb217 ≠ gb202)
         have n12_ := Aside0.mk (bne_ BK208 hg : gb208 ≠ gb217)
         have n13_ := Aside0.mk (bng_ BK208 hg : gb217 ≠ gb208)
         clear HO189
         clear BK190
         clear BK202
         clear BK208
         clear HB
         have HO189 := n0_
         have BK190 := n1_
         have BK202 := n2_
         have BK208 := n3_
         have HB := n4_
         have BK217 := n5_
         have GW217 := n6_
         have GE217 := n7_
         have NB190_217 := n8_
         have NB217_190 := n9_
         have NB202_217 := n10_
         have NB217_202 := n11_
         have NB208_217 := n12_
         have NB217_208 := n13_
         clear n0_ n1_ n2_ n3_ n4_ n5_ n6_ n7_ n8_ n9_ n10_ n11_ n12_ n13_
         clear hb hbox hg
         refine hK.out _ _ ⟨(blk_cell BK190.out 0).trans rfl, (blk_cell BK190.out 1).trans rfl, (blk_cell BK190.out 2).trans rfl⟩ (fun hHeld => ?_)
         clear hK K
         refine norm_ (a' := ?_) ?_ ?_
         rotate_left
         ·show Act.put _ (some 7) _ = _
          simp only [Act.put, List.setIfInBounds_toArray, List.set_cons_zero, List.set_cons_succ, i64_w, i32_w]
          rfl
         refine one_ (i := 1) (N := some 27) #[true, true, true, false, false, false, false, true, false, false] rfl rfl (one_of HT_.out (by kernel_rfl)) (by decide) (fun K hK => ?_)
         refine goes_ Try.func20 (by kernel_rfl) rfl #[.int .i64 (-1)] (by rfl) rfl rfl goa_ ?_
         with_reducible refine (parterrelaw18_num.calls (-1) t209 t210 t211 _ A6.out).mono ?_
         rintro e w33 ⟨rfl, hb⟩
         refine ⟨_, rfl, ?_⟩
         have n0_ := Aside0.mk (Kd.S_below (by (with_reducible repeat (first | apply Kd.S_alloc | apply Kd.S_drewN | apply Kd.S_drew)); exact HO189.out) hb)
         have n1_ := blb_ BK190 hb
         have n2_ := blb_ BK202 hb
         have n3_ := blb_ BK208 hb
         have n4_ := blb_ BK217 hb
         have n5_ := Aside0.mk (below_step bel_ hb)
         clear HO189
         clear BK190
         clear BK202
         clear BK208
         clear BK217
         clear HB
         have HO189 := n0_
         have BK190 := n1_
         have BK202 := n2_
         have BK208 := n3_
         have BK217 := n4_
         have HB := n5_
         clear n0_ n1_ n2_ n3_ n4_ n5_
         (try clear hb)
         (try clear hb2)
         (try clear hk)
         (try clear hi)
         refine hK.out _ _ ⟨(blk_cell BK190.out 0).trans rfl, (blk_cell BK190.out 1).trans rfl, (blk_cell BK190.out 2).trans rfl⟩ (fun hHeld => ?_)
         clear hK K
         refine norm_ (a' := ?_) ?_ ?_
         rotate_left
         ·show Act.put _ (some 27) _ = _
          simp only [Act.put, List.setIfInBounds_toArray, List.set_cons_zero, List.set_cons_succ, i64_w, i32_w]
          rfl
         refine one_ (i := 3) (N := some 29) #[true, true, true, true, false, false, false, true, false, false] rfl rfl (one_of HT_.out (by kernel_rfl)) (by decide) (fun K hK => ?_)
         refine goes_ Try.func14 (by kernel_rfl) rfl #[.slice Ao19 y187.length co19, .agg #[.int .i64 t209, .int .i64 t210, .string t211], .agg #[.int .i64 1, .int .i64 0, .string (⟨#[]⟩ : ByteArray)]] (by rfl) rfl rfl goa_ ?_
         with_reducible refine (resolve_Span.calls k _ _ y187 t209 t210 t211 1 0 (⟨#[]⟩ : ByteArray) t212 t213 t214 t215 t216 _ ?side1 ?side2 A7.out).mono ?_
         (case side1 => repeat (first | exact (Kd.S_reads' HO189.out).2.2 | (with_reducible refine Kd.C_alloc ?_ _) | (with_reducible refine Kd.C_drewN ?_ _) | (with_reducible refine Kd.C_drew ?_)))
         (case side2 => exact (Kd.S_reads' HO189.out).2.1)
         rintro e w34 ⟨rfl, hb⟩
         refine ⟨_, rfl, ?_⟩
         have n0_ := Aside0.mk (Kd.S_below (by (with_reducible repeat (first | apply Kd.S_alloc | apply Kd.S_drewN | apply Kd.S_drew)); exact HO189.out) hb)
         have n1_ := blb_ BK190 hb
         have n2_ := blb_ BK202 hb
         have n3_ := blb_ BK208 hb
         have n4_ := blb_ BK217 hb
         have n5_ := Aside0.mk (below_step bel_ hb)
         clear HO189
         clear BK190
         clear BK202
         clear BK208
         clear BK217
         clear HB
         have HO189 := n0_
         have BK190 := n1_
         have BK202 := n2_
         have BK208 := n3_
         have BK217 := n4_
         have HB := n5_
         clear n0_ n1_ n2_ n3_ n4_ n5_
         (try clear hb)
         (try clear hb2)
         (try clear hk)
         (try clear hi)
         refine hK.out _ _ ⟨(blk_cell BK190.out 0).trans rfl, (blk_cell BK190.out 1).trans rfl, (blk_cell BK190.out 2).trans rfl⟩ (fun hHeld => ?_)
         clear hK K
         refine norm_ (a' := ?_) ?_ ?_
         rotate_left
         ·show Act.put _ (some 29) _ = _
          simp only [Act.put, List.setIfInBounds_toArray, List.set_cons_zero, List.set_cons_succ, i64_w, i32_w]
          rfl
         refine pure_ (i := 4) (N := some 25) (v := ?_) (a' := ?_) #[true, true, true, true, true, false, false, true, false, false] rfl rfl (any_of HT_.out (by kernel_rfl)) (fun _ _ _ h => h) (Or.inl ⟨by rfl, ?_⟩) ?_ ?_
         rotate_left
         ·intro w'
          go_simp
          with_reducible rfl
         rotate_left
         ·simp only [Act.put, List.setIfInBounds_toArray, List.set_cons_zero, List.set_cons_succ, i64_w, i32_w]
          rfl
         refine pure_ (i := 5) (N := some 30) (v := ?_) (a' := ?_) #[true, true, true, true, true, true, false, true, false, false] rfl rfl (any_of HT_.out (by kernel_rfl)) (fun _ _ _ h => h) (Or.inl ⟨by rfl, ?_⟩) ?_ ?_
         rotate_left
         ·intro w'
          go_simp
          with_reducible rfl
         rotate_left
         ·simp only [Act.put, List.setIfInBounds_toArray, List.set_cons_zero, List.set_cons_succ, i64_w, i32_w]
          rfl
         refine pure_ (i := 6) (N := some 31) (v := ?_) (a' := ?_) #[true, true, true, true, true, true, true, true, false, false] rfl rfl (any_of HT_.out (by kernel_rfl)) (fun _ _ _ h => h) (Or.inl ⟨by rfl, ?_⟩) ?_ ?_
         rotate_left
         ·intro w'
          go_simp
          with_reducible rfl
         rotate_left
         ·simp only [Act.put, List.setIfInBounds_toArray, List.set_cons_zero, List.set_cons_succ, i64_w, i32_w]
          rfl
         exact norm_ (by simp only [putAll, Act.put, List.setIfInBounds_toArray, List.set_cons_zero, List.set_cons_succ]) (hCont (gb217) _ ⟨hHeld, (by (with_reducible repeat (first | apply Kd.S_alloc | apply Kd.S_drewN | apply Kd.S_drew)); exact HO189.out), blk_, blk_, blk_, blk_, GW217.out, GE217.out, NB190_217.out, NB217_190.out, NB202_217.out, NB217_202.out, NB208_217.out, NB217_208.out, bel_⟩)
       rintro gb217 w35 ⟨hS_, h0_, h1_, h2_, h3_, h4_, h5_, h6_, h7_, h8_, h9_, h10_, h11_, h12_, h13_⟩
       have n0_ : Aside0 (Kd.S (Kd.slice 9 Kd.string) 28 w35 w.heap.size (fun _ => True) (.slice Ao19 y187.length co19) y187) := ⟨h0_⟩
       have n1_ : Aside0 (w35.heap[gb190]? = some (.cells #[.int .i64 1, .int .i64 0, .string (⟨#[]⟩ : ByteArray)] 34 (0, 0))) := ⟨h1_⟩
       have n2_ : Aside0 (w35.heap[gb202]? = some (.cells #[.bool t197, .int .i64 t198, .int .i64 t199, .int .i64 t200] 37 (0, 0))) := ⟨h2_⟩
       have n3_ : Aside0 (w35.heap[gb208]? = some (.cells #[.bool t203, .int .i64 t204, .int .i64 t205, .int .i64 t206] 37 (0, 0))) := ⟨h3_⟩
       have n4_ : Aside0 (w35.heap[gb217]? = some (.cells #[.bool false, .int .i64 0, .int .i64 0, .int .i64 0] 37 (0, 0))) := ⟨h4_⟩
       have n5_ : Aside0 (w.heap.size ≤ gb217) := ⟨h5_⟩
       have n6_ : Aside0 (w.heap.size ≤ gb217) := ⟨h6_⟩
       have n7_ : Aside0 (gb190 ≠ gb217) := ⟨h7_⟩
       have n8_ : Aside0 (gb217 ≠ gb190) := ⟨h8_⟩
       have n9_ : Aside0 (gb202 ≠ gb217) := ⟨h9_⟩
       have n10_ : Aside0 (gb217 ≠ gb202) := ⟨h10_⟩
       have n11_ : Aside0 (gb208 ≠ gb217) := ⟨h11_⟩
       have n12_ : Aside0 (gb217 ≠ gb208) := ⟨h12_⟩
       have n13_ : Aside0 (Below w.heap.size w w35) := ⟨h13_⟩
       clear HO189
       clear BK190
       clear BK202
       clear BK208
       clear HB
       clear h0_ h1_ h2_ h3_ h4_ h5_ h6_ h7_ h8_ h9_ h10_ h11_ h12_ h13_
       have HO189 := n0_
       have BK190 := n1_
       have BK202 := n2_
       have BK208 := n3_
       have BK217 := n4_
       have GW217 := n5_
       have GE217 := n6_
       have NB190_217 := n7_
       have NB217_190 := n8_
       have NB202_217 := n9_
       have NB217_202 := n10_
       have NB208_217 := n11_
       have NB217_208 := n12_
       have HB := n13_
       clear n0_ n1_ n2_ n3_ n4_ n5_ n6_ n7_ n8_ n9_ n10_ n11_ n12_ n13_
       have hHeld : w35.cell? ⟨gb190, 0, none⟩ = some (.int .i64 1) ∧ w35.cell? ⟨gb190, 1, none⟩ = some (.int .i64 0) ∧ w35.cell? ⟨gb190, 2, none⟩ = some (.string (⟨#[]⟩ : ByteArray)) := hS_
       refine norm_ (a' := ?_) ?_ ?_
       rotate_left
       ·simp only [putAll, Act.put, List.setIfInBounds_toArray, List.set_cons_zero, List.set_cons_succ]
        rfl
       refine one_ (i := 8) (N := none) #[true, true, true, true, true, true, true, true, true, false] rfl rfl (one_of HT_.out (by kernel_rfl)) (by decide) (fun K hK => ?_)
       have hs36 : w35.cell? ⟨gb217, 0, none⟩ = some (.bool false) := (blk_cell BK217.out 0).trans rfl
       have hfs36 := blk_frozen BK217.out 0
       have hns36_0 := NB190_217.out
       have hns36_1 := NB202_217.out
       have hns36_2 := NB208_217.out
       have hms36_0 := NB217_190.out
       have hms36_1 := NB217_202.out
       have hms36_2 := NB217_208.out
       have hs37 : w35.cell? ⟨gb217, 1, none⟩ = some (.int .i64 0) := (blk_cell BK217.out 1).trans rfl
       have hfs37 := blk_frozen BK217.out 1
       have hns37_0 := NB190_217.out
       have hns37_1 := NB202_217.out
       have hns37_2 := NB208_217.out
       have hms37_0 := NB217_190.out
       have hms37_1 := NB217_202.out
       have hms37_2 := NB217_208.out
       have hs38 : w35.cell? ⟨gb217, 2, none⟩ = some (.int .i64 0) := (blk_cell BK217.out 2).trans rfl
       have hfs38 := blk_frozen BK217.out 2
       have hns38_0 := NB190_217.out
       have hns38_1 := NB202_217.out
       have hns38_2 := NB208_217.out
       have hms38_0 := NB217_190.out
       have hms38_1 := NB217_202.out
       have hms38_2 := NB217_208.out
       have hs39 : w35.cell? ⟨gb217, 3, none⟩ = some (.int .i64 0) := (blk_cell BK217.out 3).trans rfl
       have hfs39 := blk_frozen BK217.out 3
       have hns39_0 := NB190_217.out
       have hns39_1 := NB202_217.out
       have hns39_2 := NB208_217.out
       have hms39_0 := NB217_190.out
       have hms39_1 := NB217_202.out
       have hms39_2 := NB217_208.out
       refine skip_ (w1 := ?_) (by rfl) rfl ?_ ?_
       rotate_left
       ·go_simp
        rfl
       refine hK.out _ _ ⟨((cell_far (p := ⟨gb217, _, none⟩) NB190_217.out _).trans (((cell_far (p := ⟨gb217, _, none⟩) NB190_217.out _).trans (((cell_far (p := ⟨gb217, _, none⟩) NB190_217.out _).trans (((cell_far (p := ⟨gb217, _, none⟩) NB190_217.out _).trans (hHeld.1)))))))), ((cell_far (p := ⟨gb217, _, none⟩) NB190_217.out _).trans (((cell_far (p := ⟨gb217, _, none⟩) NB190_217.out _).trans (((cell_far (p := ⟨gb217, _, none⟩) NB190_217.out _).trans (((cell_far (p := ⟨gb217, _, none⟩) NB190_217.out _).trans (hHeld.2.1)))))))), ((cell_far (p := ⟨gb217, _, none⟩) NB190_217.out _).trans (((cell_far (p := ⟨gb217, _, none⟩) NB190_217.out _).trans (((cell_far (p := ⟨gb217, _, none⟩) NB190_217.out _).trans (((cell_far (p := ⟨gb217, _, none⟩) NB190_217.out _).trans (hHeld.2.2))))))))⟩ (fun hHeld => ?_)
       clear hK K
       refine pure_ (i := 9) (N := some 8) (v := ?_) (a' := ?_) #[true, true, true, true, true, true, true, true, true, true] rfl rfl (any_of HT_.out (by kernel_rfl)) (fun _ _ _ h => h) (Or.inl ⟨by rfl, ?_⟩) ?_ ?_
       rotate_left
       ·intro w'
        go_simp
        with_reducible rfl
       rotate_left
       ·simp only [Act.put, List.setIfInBounds_toArray, List.set_cons_zero, List.set_cons_succ, i64_w, i32_w]
        rfl
       refine done_ (done_of HT_.out (by kernel_rfl)) ?_
       have hnb40 := NB202_217.out
       have hnc40 := NB217_202.out
       have hcz41_0 : w35.cell? ⟨gb202, 0, none⟩ = some (.bool t197) := (blk_cell BK202.out 0).trans rfl
       have hcz41_1 : w35.cell? ⟨gb202, 1, none⟩ = some (.int .i64 t198) := (blk_cell BK202.out 1).trans rfl
       have hcz41_2 : w35.cell? ⟨gb202, 2, none⟩ = some (.int .i64 t199) := (blk_cell BK202.out 2).trans rfl
       have hcz41_3 : w35.cell? ⟨gb202, 3, none⟩ = some (.int .i64 t200) := (blk_cell BK202.out 3).trans rfl
       have hfz41_0 := blk_frozen BK202.out 0
       have hfz41_1 := blk_frozen BK202.out 1
       have hfz41_2 := blk_frozen BK202.out 2
       have hfz41_3 := blk_frozen BK202.out 3
       have hnb42 := NB208_217.out
       have hnc42 := NB217_208.out
       have hcz43_0 : w35.cell? ⟨gb208, 0, none⟩ = some (.bool t203) := (blk_cell BK208.out 0).trans rfl
       have hcz43_1 : w35.cell? ⟨gb208, 1, none⟩ = some (.int .i64 t204) := (blk_cell BK208.out 1).trans rfl
       have hcz43_2 : w35.cell? ⟨gb208, 2, none⟩ = some (.int .i64 t205) := (blk_cell BK208.out 2).trans rfl
       have hcz43_3 : w35.cell? ⟨gb208, 3, none⟩ = some (.int .i64 t206) := (blk_cell BK208.out 3).trans rfl
       have hfz43_0 := blk_frozen BK208.out 0
       have hfz43_1 := blk_frozen BK208.out 1
       have hfz43_2 := blk_frozen BK208.out 2
       have hfz43_3 := blk_frozen BK208.out 3
       have hnb44 := NB217_190.out
       have hnc44 := NB190_217.out
       have hcz45_0 : w35.cell? ⟨gb217, 0, none⟩ = some (.bool false) := (blk_cell BK217.out 0).trans rfl
       have hcz45_1 : w35.cell? ⟨gb217, 1, none⟩ = some (.int .i64 0) := (blk_cell BK217.out 1).trans rfl
       have hcz45_2 : w35.cell? ⟨gb217, 2, none⟩ = some (.int .i64 0) := (blk_cell BK217.out 2).trans rfl
       have hcz45_3 : w35.cell? ⟨gb217, 3, none⟩ = some (.int .i64 0) := (blk_cell BK217.out 3).trans rfl
       have hfz45_0 := blk_frozen BK217.out 0
       have hfz45_1 := blk_frozen BK217.out 1
       have hfz45_2 := blk_frozen BK217.out 2
       have hfz45_3 := blk_frozen BK217.out 3
       try go_wp2
       go_ret
       exact ⟨rsl_, bel_⟩
      ·rw [if_neg c12] at H
       exact absurd H (by simp)
     ·rw [if_neg c11] at H
      exact absurd H (by simp)
    ·rw [if_neg c10] at H
     exact absurd H (by simp)
   ·rw [if_neg c9] at H
    exact absurd H (by simp)
  ·rw [if_neg c8] at H
   exact absurd H (by simp)
 ·rw [if_neg c1] at H
  exact absurd H (by simp)

end Go.Proofs.Ytaalmkkekbhpnaa.PRa
