-- Written by a program of this session (wip/p2) out of the translation; Lean checks it.
import Derived.Test.YtdjfdhnmbimkoaaSq
import Derived.Test.YtdjfdhnmbimkoaaPRsx0
import Derived.Test.YtdjfdhnmbimkoaaPRsx3
namespace Go.Proofs.Ytdjfdhnmbimkoaa.PRs
open Go.RowKit Go.Proofs.YtdjfdhnmbimkoaaW.PrintWords Go.Proofs.YtdjfdhnmbimkoaaW.PrintLast Go.Proofs.YtdjfdhnmbimkoaaW.PrintMore
attribute [local go_sem] max2_int min2_int max_two min_two max_three min_three max_four min_four   -- for this text's walks alone
set_option linter.unusedVariables false
set_option linter.unusedSimpArgs false
open Go.Proofs.Ytdjfdhnmbimkoaa.Opn Go.Proofs.Ytdjfdhnmbimkoaa.Giv

/-! ### ident_Custom: function 52 -/
def ident_Custom.f (a0 : ByteArray) : Option (Bool) := (ident_Lower.f a0).bind fun t103 => (if t103.toList = ([115, 112, 97, 110] : List UInt8) then (some false) else (if t103.toList = ([97, 117, 116, 111] : List UInt8) then (some false) else (if t103.toList = ([105, 110, 105, 116, 105, 97, 108] : List UInt8) then (some false) else (if t103.toList = ([105, 110, 104, 101, 114, 105, 116] : List UInt8) then (some false) else (if t103.toList = ([117, 110, 115, 101, 116] : List UInt8) then (some false) else (if t103.toList = ([100, 101, 102, 97, 117, 108, 116] : List UInt8) then (some false) else (if t103.toList = ([114, 101, 118, 101, 114, 116] : List UInt8) then (some false) else ((ident_Name.f a0).bind fun t104 => (some t104)))))))))
set_option maxHeartbeats 8000000 in
set_option maxRecDepth 100000 in
theorem ident_Custom.calls (a0 : ByteArray) (r : Bool) (w : World) (h : ident_Custom.f a0 = some r) :
  Calls Try.prog 52 #[.string a0] w fun e w' => e = .returned (.bool r) ∧ Below w.heap.size w w' := by
 have HB := Aside0.mk (Below.refl w.heap.size w)
 have H : ((ident_Lower.f a0).bind fun t103 => (if t103.toList = ([115, 112, 97, 110] : List UInt8) then (some false) else (if t103.toList = ([97, 117, 116, 111] : List UInt8) then (some false) else (if t103.toList = ([105, 110, 105, 116, 105, 97, 108] : List UInt8) then (some false) else (if t103.toList = ([105, 110, 104, 101, 114, 105, 116] : List UInt8) then (some false) else (if t103.toList = ([117, 110, 115, 101, 116] : List UInt8) then (some false) else (if t103.toList = ([100, 101, 102, 97, 117, 108, 116] : List UInt8) then (some false) else (if t103.toList = ([114, 101, 118, 101, 114, 116] : List UInt8) then (some false) else ((ident_Name.f a0).bind fun t104 => (some t104)))))))))) = some r := h
 clear h
 replace H := Option.bind_eq_some_iff.mp H
 obtain ⟨t103, A20, H⟩ := H
 try dsimp only at H
 have A2 := Aside0.mk A20
 clear A20
 by_cases c3 : t103.toList = ([115, 112, 97, 110] : List UInt8)
 ·rw [if_pos c3] at H
  have c3b0 : (t103.toList == ([115, 112, 97, 110] : List UInt8)) = true := beq_iff_eq.mpr c3
  have c3b1 : (t103.toList != ([115, 112, 97, 110] : List UInt8)) = false := bne_eq_false_iff_eq.mpr c3
  clear c3
  obtain rfl := Option.some.inj H
  go_enter Try.func52, Try.ntmps52
  go_wp2_with (first | ((with_reducible refine gate_callee (f := 46) rfl ?_); refine goesL_ (some 4) rfl rfl Try.func46 (by kernel_rfl) rfl #[.string a0] rfl goa_ ?_; (with_reducible refine (ident_Lower.calls a0 t103 _ A2.out).mono ?_); rintro e w4 ⟨rfl, hb⟩; refine ⟨_, rfl, ?_⟩; have n0_ := Aside0.mk (below_step bel_ hb); clear HB; have HB := n0_; clear n0_; clear hb))
  go_ret
  exact ⟨rsl_, bel_⟩
 ·rw [if_neg c3] at H
  have c3b0 : (t103.toList == ([115, 112, 97, 110] : List UInt8)) = false := beq_eq_false_iff_ne.mpr c3
  have c3b1 : (t103.toList != ([115, 112, 97, 110] : List UInt8)) = true := bne_iff_ne.mpr c3
  by_cases c5 : t103.toList = ([97, 117, 116, 111] : List UInt8)
  ·rw [if_pos c5] at H
   have c5b0 : (t103.toList == ([97, 117, 116, 111] : List UInt8)) = true := beq_iff_eq.mpr c5
   have c5b1 : (t103.toList != ([97, 117, 116, 111] : List UInt8)) = false := bne_eq_false_iff_eq.mpr c5
   clear c5
   obtain rfl := Option.some.inj H
   go_enter Try.func52, Try.ntmps52
   go_wp2_with (first | ((with_reducible refine gate_callee (f := 46) rfl ?_); refine goesL_ (some 4) rfl rfl Try.func46 (by kernel_rfl) rfl #[.string a0] rfl goa_ ?_; (with_reducible refine (ident_Lower.calls a0 t103 _ A2.out).mono ?_); rintro e w6 ⟨rfl, hb⟩; refine ⟨_, rfl, ?_⟩; have n0_ := Aside0.mk (below_step bel_ hb); clear HB; have HB := n0_; clear n0_; clear hb))
   go_ret
   exact ⟨rsl_, bel_⟩
  ·rw [if_neg c5] at H
   have c5b0 : (t103.toList == ([97, 117, 116, 111] : List UInt8)) = false := beq_eq_false_iff_ne.mpr c5
   have c5b1 : (t103.toList != ([97, 117, 116, 111] : List UInt8)) = true := bne_iff_ne.mpr c5
   by_cases c7 : t103.toList = ([105, 110, 105, 116, 105, 97, 108] : List UInt8)
   ·rw [if_pos c7] at H
    have c7b0 : (t103.toList == ([105, 110, 105, 116, 105, 97, 108] : List UInt8)) = true := beq_iff_eq.mpr c7
    have c7b1 : (t103.toList != ([105, 110, 105, 116, 105, 97, 108] : List UInt8)) = false := bne_eq_false_iff_eq.mpr c7
    clear c7
    obtain rfl := Option.some.inj H
    go_enter Try.func52, Try.ntmps52
    go_wp2_with (first | ((with_reducible refine gate_callee (f := 46) rfl ?_); refine goesL_ (some 4) rfl rfl Try.func46 (by kernel_rfl) rfl #[.string a0] rfl goa_ ?_; (with_reducible refine (ident_Lower.calls a0 t103 _ A2.out).mono ?_); rintro e w8 ⟨rfl, hb⟩; refine ⟨_, rfl, ?_⟩; have n0_ := Aside0.mk (below_step bel_ hb); clear HB; have HB := n0_; clear n0_; clear hb))
    go_ret
    exact ⟨rsl_, bel_⟩
   ·rw [if_neg c7] at H
    have c7b0 : (t103.toList == ([105, 110, 105, 116, 105, 97, 108] : List UInt8)) = false := beq_eq_false_iff_ne.mpr c7
    have c7b1 : (t103.toList != ([105, 110, 105, 116, 105, 97, 108] : List UInt8)) = true := bne_iff_ne.mpr c7
    by_cases c9 : t103.toList = ([105, 110, 104, 101, 114, 105, 116] : List UInt8)
    ·rw [if_pos c9] at H
     have c9b0 : (t103.toList == ([105, 110, 104, 101, 114, 105, 116] : List UInt8)) = true := beq_iff_eq.mpr c9
     have c9b1 : (t103.toList != ([105, 110, 104, 101, 114, 105, 116] : List UInt8)) = false := bne_eq_false_iff_eq.mpr c9
     clear c9
     obtain rfl := Option.some.inj H
     go_enter Try.func52, Try.ntmps52
     go_wp2_with (first | ((with_reducible refine gate_callee (f := 46) rfl ?_); refine goesL_ (some 4) rfl rfl Try.func46 (by kernel_rfl) rfl #[.string a0] rfl goa_ ?_; (with_reducible refine (ident_Lower.calls a0 t103 _ A2.out).mono ?_); rintro e w10 ⟨rfl, hb⟩; refine ⟨_, rfl, ?_⟩; have n0_ := Aside0.mk (below_step bel_ hb); clear HB; have HB := n0_; clear n0_; clear hb))
     go_ret
     exact ⟨rsl_, bel_⟩
    ·rw [if_neg c9] at H
     have c9b0 : (t103.toList == ([105, 110, 104, 101, 114, 105, 116] : List UInt8)) = false := beq_eq_false_iff_ne.mpr c9
     have c9b1 : (t103.toList != ([105, 110, 104, 101, 114, 105, 116] : List UInt8)) = true := bne_iff_ne.mpr c9
     by_cases c11 : t103.toList = ([117, 110, 115, 101, 116] : List UInt8)
     ·rw [if_pos c11] at H
      have c11b0 : (t103.toList == ([117, 110, 115, 101, 116] : List UInt8)) = true := beq_iff_eq.mpr c11
      have c11b1 : (t103.toList != ([117, 110, 115, 101, 116] : List UInt8)) = false := bne_eq_false_iff_eq.mpr c11
      clear c11
      obtain rfl := Option.some.inj H
      go_enter Try.func52, Try.ntmps52
      go_wp2_with (first | ((with_reducible refine gate_callee (f := 46) rfl ?_); refine goesL_ (some 4) rfl rfl Try.func46 (by kernel_rfl) rfl #[.string a0] rfl goa_ ?_; (with_reducible refine (ident_Lower.calls a0 t103 _ A2.out).mono ?_); rintro e w12 ⟨rfl, hb⟩; refine ⟨_, rfl, ?_⟩; have n0_ := Aside0.mk (below_step bel_ hb); clear HB; have HB := n0_; clear n0_; clear hb))
      go_ret
      exact ⟨rsl_, bel_⟩
     ·rw [if_neg c11] at H
      have c11b0 : (t103.toList == ([117, 110, 115, 101, 116] : List UInt8)) = false := beq_eq_false_iff_ne.mpr c11
      have c11b1 : (t103.toList != ([117, 110, 115, 101, 116] : List UInt8)) = true := bne_iff_ne.mpr c11
      by_cases c13 : t103.toList = ([100, 101, 102, 97, 117, 108, 116] : List UInt8)
      ·rw [if_pos c13] at H
       have c13b0 : (t103.toList == ([100, 101, 102, 97, 117, 108, 116] : List UInt8)) = true := beq_iff_eq.mpr c13
       have c13b1 : (t103.toList != ([100, 101, 102, 97, 117, 108, 116] : List UInt8)) = false := bne_eq_false_iff_eq.mpr c13
       clear c13
       obtain rfl := Option.some.inj H
       go_enter Try.func52, Try.ntmps52
       go_wp2_with (first | ((with_reducible refine gate_callee (f := 46) rfl ?_); refine goesL_ (some 4) rfl rfl Try.func46 (by kernel_rfl) rfl #[.string a0] rfl goa_ ?_; (with_reducible refine (ident_Lower.calls a0 t103 _ A2.out).mono ?_); rintro e w14 ⟨rfl, hb⟩; refine ⟨_, rfl, ?_⟩; have n0_ := Aside0.mk (below_step bel_ hb); clear HB; have HB := n0_; clear n0_; clear hb))
       go_ret
       exact ⟨rsl_, bel_⟩
      ·rw [if_neg c13] at H
       have c13b0 : (t103.toList == ([100, 101, 102, 97, 117, 108, 116] : List UInt8)) = false := beq_eq_false_iff_ne.mpr c13
       have c13b1 : (t103.toList != ([100, 101, 102, 97, 117, 108, 116] : List UInt8)) = true := bne_iff_ne.mpr c13
       by_cases c15 : t103.toList = ([114, 101, 118, 101, 114, 116] : List UInt8)
       ·rw [if_pos c15] at H
        have c15b0 : (t103.toList == ([114, 101, 118, 101, 114, 116] : List UInt8)) = true := beq_iff_eq.mpr c15
        have c15b1 : (t103.toList != ([114, 101, 118, 101, 114, 116] : List UInt8)) = false := bne_eq_false_iff_eq.mpr c15
        clear c15
        obtain rfl := Option.some.inj H
        go_enter Try.func52, Try.ntmps52
        go_wp2_with (first | ((with_reducible refine gate_callee (f := 46) rfl ?_); refine goesL_ (some 4) rfl rfl Try.func46 (by kernel_rfl) rfl #[.string a0] rfl goa_ ?_; (with_reducible refine (ident_Lower.calls a0 t103 _ A2.out).mono ?_); rintro e w16 ⟨rfl, hb⟩; refine ⟨_, rfl, ?_⟩; have n0_ := Aside0.mk (below_step bel_ hb); clear HB; have HB := n0_; clear n0_; clear hb))
        go_ret
        exact ⟨rsl_, bel_⟩
       ·rw [if_neg c15] at H
        have c15b0 : (t103.toList == ([114, 101, 118, 101, 114, 116] : List UInt8)) = false := beq_eq_false_iff_ne.mpr c15
        have c15b1 : (t103.toList != ([114, 101, 118, 101, 114, 116] : List UInt8)) = true := bne_iff_ne.mpr c15
        replace H := Option.bind_eq_some_iff.mp H
        obtain ⟨t104, A170, H⟩ := H
        try dsimp only at H
        have A17 := Aside0.mk A170
        clear A170
        obtain rfl := Option.some.inj H
        go_enter Try.func52, Try.ntmps52
        go_wp2_with (first | ((with_reducible refine gate_callee (f := 46) rfl ?_); refine goesL_ (some 4) rfl rfl Try.func46 (by kernel_rfl) rfl #[.string a0] rfl goa_ ?_; (with_reducible refine (ident_Lower.calls a0 t103 _ A2.out).mono ?_); rintro e w18 ⟨rfl, hb⟩; refine ⟨_, rfl, ?_⟩; have n0_ := Aside0.mk (below_step bel_ hb); clear HB; have HB := n0_; clear n0_; clear hb) | ((with_reducible refine gate_callee (f := 50) rfl ?_); refine goesL_ (some 14) rfl rfl Try.func50 (by kernel_rfl) rfl #[.string a0] rfl goa_ ?_; (with_reducible refine (ident_Name.calls a0 t104 _ A17.out).mono ?_); rintro e w' ⟨rfl, ⟨nd, rfl⟩⟩; refine ⟨_, rfl, ?_⟩))
        go_ret
        exact ⟨rsl_, bel_⟩

/-! ### line_auto: function 86 -/
def line_auto.f  : Option (Int × Int × ByteArray) := some (1, 0, (⟨#[]⟩ : ByteArray))
set_option maxHeartbeats 8000000 in
set_option maxRecDepth 100000 in
theorem line_auto.calls  (r1 : Int) (r2 : Int) (r3 : ByteArray) (w : World) (h : line_auto.f  = some (r1, r2, r3)) :
  Calls Try.prog 86 #[] w fun e w' => e = .returned (.agg #[.int .i64 r1, .int .i64 r2, .string r3]) ∧ Below w.heap.size w w' := by
 have hu69 := Try.underlying69
 have HB := Aside0.mk (Below.refl w.heap.size w)
 have H : (some (1, 0, (⟨#[]⟩ : ByteArray))) = some (r1, r2, r3) := h
 clear h
 simp only [Option.some.injEq, Prod.mk.injEq] at H
 obtain ⟨rfl, rfl, rfl⟩ := H
 go_enter Try.func86, Try.ntmps86
 go_wp2_with (first | ((with_reducible refine gate_dst (N := 0) rfl ?_); refine box_event ?hg (N := 0) ?hd (cs := #[.int .i64 0, .int .i64 0, .string (⟨#[]⟩ : ByteArray)]) (t := 69) ?hr ?_; (case hd => rfl); (case hg => rfl); (case hr => first | (go_simp; done) | (go_simp; rfl)); intro gb105 hg w1 hbox hb; have n0_ := Aside0.mk (below_step bel_ hb); have n1_ := Aside0.mk (hbox); have n2_ := Aside0.mk ((bsz_ hg : w.heap.size ≤ gb105)); have n3_ := Aside0.mk ((bsz_ hg : w.heap.size ≤ gb105)); clear HB; have HB := n0_; have BK105 := n1_; have GW105 := n2_; have GE105 := n3_; clear n0_ n1_ n2_ n3_; clear hb hbox hg; have hcz2_0 : w1.cell? ⟨gb105, 0, none⟩ = some (.int .i64 0) := (blk_cell BK105.out 0).trans rfl; have hcz2_1 : w1.cell? ⟨gb105, 1, none⟩ = some (.int .i64 0) := (blk_cell BK105.out 1).trans rfl; have hcz2_2 : w1.cell? ⟨gb105, 2, none⟩ = some (.string (⟨#[]⟩ : ByteArray)) := (blk_cell BK105.out 2).trans rfl; have hfz2_0 := blk_frozen BK105.out 0; have hfz2_1 := blk_frozen BK105.out 1; have hfz2_2 := blk_frozen BK105.out 2))
 refine bodyPost_ret (results_cell_row rfl _ _ gb105 69 #[.int .i64 1, .int .i64 0, .string (⟨#[]⟩ : ByteArray)] (0, 0) _ rfl (by (with_reducible repeat (first | refine blk_drewN ?_ _ | refine blk_drew ?_ | refine blk_alloc ?_ _)); refine blk_put (cs := #[.int .i64 1, .int .i64 0, .string (⟨#[]⟩ : ByteArray)]) ?_ 2 _ rfl; (with_reducible repeat (first | refine blk_drewN ?_ _ | refine blk_drew ?_ | refine blk_alloc ?_ _)); refine blk_put (cs := #[.int .i64 1, .int .i64 0, .string (⟨#[]⟩ : ByteArray)]) ?_ 1 _ rfl; (with_reducible repeat (first | refine blk_drewN ?_ _ | refine blk_drew ?_ | refine blk_alloc ?_ _)); refine blk_put (cs := #[.int .i64 0, .int .i64 0, .string (⟨#[]⟩ : ByteArray)]) ?_ 0 _ rfl; (with_reducible repeat (first | refine blk_drewN ?_ _ | refine blk_drew ?_ | refine blk_alloc ?_ _)); exact BK105.out) Try.underlying69 rfl (by kernel_rfl)) rfl ?_
 exact ⟨rsl_, bel_⟩

end Go.Proofs.Ytdjfdhnmbimkoaa.PRs
