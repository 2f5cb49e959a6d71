/- AreaBackCardSaid, part 11 of 13: contracts of the program's functions, the words that they use, and the plain laws on what they compute. Conditions: none beyond what the statements say. -/
import Derived.Test.YtofdhdafabmhmaaDoorKAb1
import Derived.Test.YtofdhdafabmhmaaDoorKAb2
import Derived.Test.YtofdhdafabmhmaaDoorKAb7
import Derived.Test.YtofdhdafabmhmaaDoorKAb8
import Derived.Test.YtofdhdafabmhmaaDoorKAb9
import Derived.Test.YtofdhdafabmhmaaDoorKAb3
import Derived.Test.YtofdhdafabmhmaaDoorKAb4
import Derived.Test.YtofdhdafabmhmaaDoorKAb6
import Derived.Lib.IndexLaws
set_option linter.unusedVariables false
set_option linter.unusedSimpArgs false
section
namespace Go.Proofs.YtofdhdafabmhmaaDoor.PAr
open Go.RowKit Go.Proofs.YtofdhdafabmhmaaDoorW.PrintWords Go.Proofs.YtofdhdafabmhmaaDoorW.PrintLast Go.Proofs.YtofdhdafabmhmaaDoorW.PrintMore
attribute [local go_sem] max2_int min2_int max_two min_two max_three min_three max_four min_four
open Go.Proofs.YtofdhdafabmhmaaDoor.Opn Go.Proofs.YtofdhdafabmhmaaDoor.Giv

/-! ### parterrelaw08_AreaBack: function 5 -/
def parterrelaw08_AreaBack.j0 : Nat → List (List ByteArray) → Bool → Option (Bool)
 | 0, _, _ => none
 | k + 1, x0, x20 => if x20 = true then ((parterrelaw08_lives.f k).bind fun t326 => (some t326)) else ((area_Text.f k x0).bind fun t327 => ((parterrelaw08_words.f k t327).bind fun t328 => ((area_Read.f k t328 0).bind fun bt331 => (if bt331.2.2 = 0 then (if bt331.2.1 = (wrap64 ((t328.length : Int) - 1)) then ((area_Same.f k x0 bt331.1).bind fun t336 => (if t336 = true then ((parterrelaw08_lives.f k).bind fun t337 => (some t337)) else (none))) else (none)) else (none)))))
def parterrelaw08_AreaBack.f (k : Nat) (l0 : List (List ByteArray)) : Option (Bool) := (parterrelaw08_Light.f k l0).bind fun t323 => (if t323 = true then ((area_Good.f k l0).bind fun t324 => (if t324 = true then ((area_Text.f k l0).bind fun t325 => (parterrelaw08_AreaBack.j0 k l0 (decide ((t325.size : Int) > 60000)))) else (parterrelaw08_AreaBack.j0 k l0 true))) else (parterrelaw08_AreaBack.j0 k l0 true))
theorem parterrelaw08_AreaBack.mono_l : ∀ k, (∀ y0 y1, LeO (parterrelaw08_AreaBack.j0 k y0 y1) (parterrelaw08_AreaBack.j0 (k + 1) y0 y1))
 | 0 => fun _ _ r h => by simp [parterrelaw08_AreaBack.j0] at h
 | k + 1 => by
  have ih0 := parterrelaw08_AreaBack.mono_l k
  ·intro y0 y1
   unfold parterrelaw08_AreaBack.j0
   repeat' first
   | (with_reducible exact ih0 _ _)
   | (with_reducible exact area_Good.mono _ _)
   | (with_reducible exact area_Read.mono _ _ _)
   | (with_reducible exact area_Same.mono _ _ _)
   | (with_reducible exact area_Text.mono _ _)
   | (with_reducible exact parterrelaw08_Light.mono _ _)
   | (with_reducible exact parterrelaw08_lives.mono _)
   | (with_reducible exact parterrelaw08_words.mono _ _)
   | (with_reducible exact LeO.refl _)
   | (with_reducible exact LeO.none _)
   | (with_reducible refine LeO.ite ?_ ?_)
   | (with_reducible refine LeO.bind ?_ (fun _ => ?_))
theorem parterrelaw08_AreaBack.mono : ∀ a0 k, LeO (parterrelaw08_AreaBack.f k a0) (parterrelaw08_AreaBack.f (k + 1) a0) := by
 intro a0 k
 have ih0 := parterrelaw08_AreaBack.mono_l k
 unfold parterrelaw08_AreaBack.f
 repeat' first
   | (with_reducible exact ih0 _ _)
   | (with_reducible exact area_Good.mono _ _)
   | (with_reducible exact area_Read.mono _ _ _)
   | (with_reducible exact area_Same.mono _ _ _)
   | (with_reducible exact area_Text.mono _ _)
   | (with_reducible exact parterrelaw08_Light.mono _ _)
   | (with_reducible exact parterrelaw08_lives.mono _)
   | (with_reducible exact parterrelaw08_words.mono _ _)
   | (with_reducible exact LeO.refl _)
   | (with_reducible exact LeO.none _)
   | (with_reducible refine LeO.ite ?_ ?_)
   | (with_reducible refine LeO.bind ?_ (fun _ => ?_))
set_option maxHeartbeats 8000000 in
set_option maxRecDepth 100000 in
theorem parterrelaw08_AreaBack.calls (k : Nat) (A0 : Option Addr) (c0 : Nat) (l0 : List (List ByteArray)) (r : Bool) (w : World) (hr0 : Kd.C (Kd.slice 9 Kd.string) w A0 l0.length l0) (hc0 : l0.length ≤ c0) (h : parterrelaw08_AreaBack.f k l0 = some r) :
  Calls Tryd.prog 5 #[.slice A0 l0.length c0] w fun e w' => e = .returned (.bool r) ∧ Below w.heap.size w w' := by
 have HR0 := Aside0.mk hr0
 have HC0 := Aside0.mk hc0
 clear hr0 hc0
 have HB := Aside0.mk (Below.refl w.heap.size w)
 have H : ((parterrelaw08_Light.f k l0).bind fun t323 => (if t323 = true then ((area_Good.f k l0).bind fun t324 => (if t324 = true then ((area_Text.f k l0).bind fun t325 => (parterrelaw08_AreaBack.j0 k l0 (decide ((t325.size : Int) > 60000)))) else (parterrelaw08_AreaBack.j0 k l0 true))) else (parterrelaw08_AreaBack.j0 k l0 true))) = some r := h
 clear h
 have HC2 := Aside0.mk H
 clear H
 go_enter Tryd.func5, Tryd.ntmps5
 go_upto_region 1 with (fail)
 go_cut [20] (fun v20 wc => ∃ (kq : Nat) (x20_1 : Bool), v20 = .bool x20_1 ∧ Aside0 (parterrelaw08_AreaBack.j0 kq l0 x20_1 = some r) ∧ Aside0 (kq ≤ k) ∧ Aside0 (Below w.heap.size w wc))
 case first =>
  have H := HC2.out
  clear HC2
  replace H := Option.bind_eq_some_iff.mp H
  obtain ⟨t323, A30, H⟩ := H
  try dsimp only at H
  have A3 := Aside0.mk A30
  clear A30
  by_cases c4 : t323 = true
  ·subst c4
   rw [if_pos rfl] at H
   replace H := Option.bind_eq_some_iff.mp H
   obtain ⟨t324, A50, H⟩ := H
   try dsimp only at H
   have A5 := Aside0.mk A50
   clear A50
   by_cases c6 : t324 = true
   ·subst c6
    rw [if_pos rfl] at H
    replace H := Option.bind_eq_some_iff.mp H
    obtain ⟨t325, A70, H⟩ := H
    try dsimp only at H
    have A7 := Aside0.mk A70
    clear A70
    have H' := Aside0.mk H
    clear H
    go_wp2_with (first | ((with_reducible refine gate_callee (f := 12) rfl ?_); refine goesL_ (some 8) rfl rfl Tryd.func12 (by kernel_rfl) rfl #[.slice A0 l0.length c0] rfl goa_ ?_; (with_reducible refine (parterrelaw08_Light.calls k _ _ l0 true _ ?side1 ?side2 A3.out).mono ?_); (case side1 => repeat (first | exact (Kd.C_below HR0.out HB.out) | (with_reducible refine Kd.C_alloc ?_ _) | (with_reducible refine Kd.C_drewN ?_ _) | (with_reducible refine Kd.C_drew ?_))); (case side2 => exact HC0.out); rintro e w8 ⟨rfl, hb⟩; refine ⟨_, rfl, ?_⟩; have n0_ := Aside0.mk (below_step bel_ hb); clear HB; have HB := n0_; clear n0_; clear hb) | (go_at_call 13; (with_reducible refine (area_Good.calls k _ _ l0 true _ ?side1 ?side2 A5.out).mono ?_); (case side1 => repeat (first | exact (Kd.C_below HR0.out HB.out) | (with_reducible refine Kd.C_alloc ?_ _) | (with_reducible refine Kd.C_drewN ?_ _) | (with_reducible refine Kd.C_drew ?_))); (case side2 => exact HC0.out); rintro e w9 ⟨rfl, hb⟩; have n0_ := Aside0.mk (below_step bel_ hb); clear HB; have HB := n0_; clear n0_; clear hb) | (go_at_call 15; (with_reducible refine (area_Text.calls k _ _ l0 t325 _ ?side1 ?side2 A7.out).mono ?_); (case side1 => repeat (first | exact (Kd.C_below HR0.out HB.out) | (with_reducible refine Kd.C_alloc ?_ _) | (with_reducible refine Kd.C_drewN ?_ _) | (with_reducible refine Kd.C_drew ?_))); (case side2 => exact HC0.out); rintro e w10 ⟨rfl, hb⟩; have n0_ := Aside0.mk (below_step bel_ hb); clear HB; have HB := n0_; clear n0_; clear hb))
    go_meet
    case rel => exact ⟨_, (decide ((t325.size : Int) > 60000)), rfs_, (by first | exact H' | (subst_vars; exact H')), ⟨ole_⟩, ⟨bel_⟩⟩
   ·replace c6 := Bool.eq_false_iff.mpr c6
    subst c6
    rw [if_neg (show ¬ (false = true) by decide)] at H
    have H' := Aside0.mk H
    clear H
    go_wp2_with (first | ((with_reducible refine gate_callee (f := 12) rfl ?_); refine goesL_ (some 8) rfl rfl Tryd.func12 (by kernel_rfl) rfl #[.slice A0 l0.length c0] rfl goa_ ?_; (with_reducible refine (parterrelaw08_Light.calls k _ _ l0 true _ ?side1 ?side2 A3.out).mono ?_); (case side1 => repeat (first | exact (Kd.C_below HR0.out HB.out) | (with_reducible refine Kd.C_alloc ?_ _) | (with_reducible refine Kd.C_drewN ?_ _) | (with_reducible refine Kd.C_drew ?_))); (case side2 => exact HC0.out); rintro e w11 ⟨rfl, hb⟩; refine ⟨_, rfl, ?_⟩; have n0_ := Aside0.mk (below_step bel_ hb); clear HB; have HB := n0_; clear n0_; clear hb) | (go_at_call 13; (with_reducible refine (area_Good.calls k _ _ l0 false _ ?side1 ?side2 A5.out).mono ?_); (case side1 => repeat (first | exact (Kd.C_below HR0.out HB.out) | (with_reducible refine Kd.C_alloc ?_ _) | (with_reducible refine Kd.C_drewN ?_ _) | (with_reducible refine Kd.C_drew ?_))); (case side2 => exact HC0.out); rintro e w12 ⟨rfl, hb⟩; have n0_ := Aside0.mk (below_step bel_ hb); clear HB; have HB := n0_; clear n0_; clear hb))
    go_meet
    case rel => exact ⟨_, (true), rfs_, (by first | exact H' | (subst_vars; exact H')), ⟨ole_⟩, ⟨bel_⟩⟩
  ·replace c4 := Bool.eq_false_iff.mpr c4
   subst c4
   rw [if_neg (show ¬ (false = true) by decide)] at H
   have H' := Aside0.mk H
   clear H
   go_wp2_with (first | ((with_reducible refine gate_callee (f := 12) rfl ?_); refine goesL_ (some 8) rfl rfl Tryd.func12 (by kernel_rfl) rfl #[.slice A0 l0.length c0] rfl goa_ ?_; (with_reducible refine (parterrelaw08_Light.calls k _ _ l0 false _ ?side1 ?side2 A3.out).mono ?_); (case side1 => repeat (first | exact (Kd.C_below HR0.out HB.out) | (with_reducible refine Kd.C_alloc ?_ _) | (with_reducible refine Kd.C_drewN ?_ _) | (with_reducible refine Kd.C_drew ?_))); (case side2 => exact HC0.out); rintro e w13 ⟨rfl, hb⟩; refine ⟨_, rfl, ?_⟩; have n0_ := Aside0.mk (below_step bel_ hb); clear HB; have HB := n0_; clear n0_; clear hb))
   go_meet
   case rel => exact ⟨_, (true), rfs_, (by first | exact H' | (subst_vars; exact H')), ⟨ole_⟩, ⟨bel_⟩⟩
 case rest =>
  clear HC2
  try clear c1
  try clear p2
  try clear c4
  try clear c5
  try clear c6
  try clear c12
  obtain ⟨kq, x20_1, rfl, HA, HJ1, HB⟩ := hcut
  cases kq with
  | zero => exact absurd HA.out (by simp [parterrelaw08_AreaBack.j0])
  | succ kj1 =>
   have H := HA.out
   clear HA
   simp only [parterrelaw08_AreaBack.j0] at H
   by_cases c14 : x20_1 = true
   ·subst c14
    rw [if_pos rfl] at H
    replace H := Option.bind_eq_some_iff.mp H
    obtain ⟨t326, A150, H⟩ := H
    try dsimp only at H
    have A15 := Aside0.mk A150
    clear A150
    obtain rfl := Option.some.inj H
    go_wp2_with (first | ((with_reducible refine gate_callee (f := 8) rfl ?_); refine goesL_ (some 21) rfl rfl Tryd.func8 (by kernel_rfl) rfl #[] rfl goa_ ?_; (with_reducible refine (parterrelaw08_lives.calls kj1  t326 _ A15.out).mono ?_); rintro e w16 ⟨rfl, hb⟩; refine ⟨_, rfl, ?_⟩; have n0_ := Aside0.mk (below_step bel_ hb); clear HB; have HB := n0_; clear n0_; clear hb))
    go_ret
    exact ⟨rsl_, bel_⟩
   ·replace c14 := Bool.eq_false_iff.mpr c14
    subst c14
    rw [if_neg (show ¬ (false = true) by decide)] at H
    replace H := Option.bind_eq_some_iff.mp H
    obtain ⟨t327, A170, H⟩ := H
    try dsimp only at H
    have A17 := Aside0.mk A170
    clear A170
    replace H := Option.bind_eq_some_iff.mp H
    obtain ⟨t328, A180, H⟩ := H
    try dsimp only at H
    have A18 := Aside0.mk A180
    clear A180
    replace H := Option.bind_eq_some_iff.mp H
    obtain ⟨⟨t331, t332, t333⟩, A190, H⟩ := H
    try dsimp only at H
    have A19 := Aside0.mk A190
    clear A190
    by_cases c20 : t333 = 0
    ·rw [if_pos c20] at H
     have c20b0 : (t333 == 0) = true := beq_iff_eq.mpr c20
     have c20b1 : (t333 != 0) = false := bne_eq_false_iff_eq.mpr c20
     clear c20
     by_cases c21 : t332 = (wrap64 ((t328.length : Int) - 1))
     ·rw [if_pos c21] at H
      have c21b0 : (t332 == (wrap64 ((t328.length : Int) - 1))) = true := beq_iff_eq.mpr c21
      have c21b1 : (t332 != (wrap64 ((t328.length : Int) - 1))) = false := bne_eq_false_iff_eq.mpr c21
      clear c21
      replace H := Option.bind_eq_some_iff.mp H
      obtain ⟨t336, A220, H⟩ := H
      try dsimp only at H
      have A22 := Aside0.mk A220
      clear A220
      by_cases c23 : t336 = true
      ·subst c23
       rw [if_pos rfl] at H
       replace H := Option.bind_eq_some_iff.mp H
       obtain ⟨t337, A240, H⟩ := H
       try dsimp only at H
       have A24 := Aside0.mk A240
       clear A240
       obtain rfl := Option.some.inj H
       go_wp2_with (first | ((with_reducible refine gate_callee (f := 15) rfl ?_); refine goesL_ (some 23) rfl rfl Tryd.func15 (by kernel_rfl) rfl #[.slice A0 l0.length c0] rfl goa_ ?_; (with_reducible refine (area_Text.calls kj1 _ _ l0 t327 _ ?side1 ?side2 A17.out).mono ?_); (case side1 => repeat (first | exact (Kd.C_below HR0.out HB.out) | (with_reducible refine Kd.C_alloc ?_ _) | (with_reducible refine Kd.C_drewN ?_ _) | (with_reducible refine Kd.C_drew ?_))); (case side2 => exact HC0.out); rintro e w25 ⟨rfl, hb⟩; refine ⟨_, rfl, ?_⟩; have n0_ := Aside0.mk (below_step bel_ hb); clear HB; have HB := n0_; clear n0_; clear hb) | ((with_reducible refine gate_callee (f := 16) rfl ?_); refine goesL_ (some 24) rfl rfl Tryd.func16 (by kernel_rfl) rfl #[.string t327] rfl goa_ ?_; (with_reducible refine (parterrelaw08_words.calls kj1 t327 t328 _ A18.out).mono ?_); rintro e w26 ⟨v329, rfl, ho0, hb⟩; refine ⟨_, rfl, ?_⟩; have n0_ := Aside0.mk (Kd.R_lower ho0 (below_size bel_)); have n1_ := Aside0.mk (below_step bel_ hb); clear HB; have HO330 := n0_; have HB := n1_; clear n0_ n1_; (try clear hb); (try clear hb2); (try clear hk); (try clear hi); (try clear ho0); obtain ⟨Ao27, co27, eo27⟩ := Kd.R_slice HO330.out; subst eo27) | ((with_reducible refine gate_callee (f := 17) rfl ?_); refine goesL_ (some 27) rfl rfl Tryd.func17 (by kernel_rfl) rfl #[.slice Ao27 t328.length co27, .int .i64 0] rfl goa_ ?_; (with_reducible refine (area_Read.calls kj1 _ _ t328 0 t331 t332 t333 _ ?side1 ?side2 A19.out).mono ?_); (case side1 => repeat (first | exact (Kd.R_reads' HO330.out).2.2 | (with_reducible refine Kd.C_alloc ?_ _) | (with_reducible refine Kd.C_drewN ?_ _) | (with_reducible refine Kd.C_drew ?_))); (case side2 => exact (Kd.R_reads' HO330.out).2.1); rintro e w28 ⟨v334, rfl, ho0, hb⟩; refine ⟨_, rfl, ?_⟩; have n0_ := Aside0.mk (Kd.R_below (by (with_reducible repeat (first | apply Kd.R_alloc | apply Kd.R_drewN | apply Kd.R_drew)); exact HO330.out) hb); have n1_ := Aside0.mk (Kd.S_lower ho0 (below_size bel_)); have n2_ := Aside0.mk (below_step bel_ hb); clear HO330; clear HB; have HO330 := n0_; have HO335 := n1_; have HB := n2_; clear n0_ n1_ n2_; (try clear hb); (try clear hb2); (try clear hk); (try clear hi); (try clear ho0); obtain ⟨Ao29, co29, eo29⟩ := Kd.S_slice HO335.out; subst eo29) | (go_at_call 18; (with_reducible refine (area_Same.calls kj1 _ _ l0 _ _ t331 true _ ?side1 ?side2 ?side3 ?side4 A22.out).mono ?_); (case side1 => repeat (first | exact (Kd.C_below HR0.out HB.out) | (with_reducible refine Kd.C_alloc ?_ _) | (with_reducible refine Kd.C_drewN ?_ _) | (with_reducible refine Kd.C_drew ?_))); (case side2 => exact HC0.out); (case side3 => repeat (first | exact (Kd.S_reads' HO335.out).2.2 | (with_reducible refine Kd.C_alloc ?_ _) | (with_reducible refine Kd.C_drewN ?_ _) | (with_reducible refine Kd.C_drew ?_))); (case side4 => exact (Kd.S_reads' HO335.out).2.1); rintro e w' ⟨rfl, ⟨nd, rfl⟩⟩) | (go_at_call 8; (with_reducible refine (parterrelaw08_lives.calls kj1  t337 _ A24.out).mono ?_); rintro e w30 ⟨rfl, hb⟩; have n0_ := Aside0.mk (Kd.R_below (by (with_reducible repeat (first | apply Kd.R_alloc | apply Kd.R_drewN | apply Kd.R_drew)); exact HO330.out) hb); have n1_ := Aside0.mk (Kd.S_below (by (with_reducible repeat (first | apply Kd.S_alloc | apply Kd.S_drewN | apply Kd.S_drew)); exact HO335.out) hb); have n2_ := Aside0.mk (below_step bel_ hb); clear HO330; clear HO335; clear HB; have HO330 := n0_; have HO335 := n1_; have HB := n2_; clear n0_ n1_ n2_; clear hb))
       go_ret
       exact ⟨rsl_, bel_⟩
      ·replace c23 := Bool.eq_false_iff.mpr c23
       subst c23
       rw [if_neg (show ¬ (false = true) by decide)] at H
       exact absurd H (by simp)
     ·rw [if_neg c21] at H
      exact absurd H (by simp)
    ·rw [if_neg c20] at H
     exact absurd H (by simp)

/-- THE ONE PURE STATEMENT of parterrelaw08_AreaBack. -/
def parterrelaw08_AreaBack.Pure : Prop := ∀ (l0 : List (List ByteArray)), gSl 24 (gSl 16 gStr) l0 → ∃ k, parterrelaw08_AreaBack.f k l0 = some true

end Go.Proofs.YtofdhdafabmhmaaDoor.PAr
end
section
/- Rows' cells: area.Cells and the document's Cells, of any text. Conditions: as each theorem says. -/
namespace Go.Proofs.YtofdhdafabmhmaaDoor.PureAr
open Go.RowKit Go.Proofs.YtofdhdafabmhmaaDoorW.PrintWords Go.Proofs.YtofdhdafabmhmaaDoorW.PrintMore Go.Proofs.YtofdhdafabmhmaaDoor.Evs Go.Proofs.YtofdhdafabmhmaaDoor.Opn Go.Proofs.YtofdhdafabmhmaaDoor.PAr Go.Proofs.YtofdhdafabmhmaaDoor.Giv
open Go
theorem lives_ev : Ev (fun k => parterrelaw08_lives.f k) true := Ev.of (fun k => parterrelaw08_lives.mono k) (k := 100) (by decide +kernel)

/-! ### The 256 bytes -/
def inB (c : UInt8) : Bool := area_inner.f (c.toNat : Int) == some true
def blB (c : UInt8) : Bool := [32, 9, 10, 13, 12].contains c
def doB (c : UInt8) : Bool := c == 46
def fineA (n : Nat) : Bool := (area_inner.f (n : Int)).isSome && (parterreref08_inner.f (n : Int) == area_inner.f (n : Int) && (parterreref03_Blank.f (n : Int) == some (blB (UInt8.ofNat n)) && (area_inner.f (n : Int) != some true || (n != 46 && (n != 0 && !blB (UInt8.ofNat n))))))
theorem fineA_all : (List.range 256).all fineA = true := by decide +kernel
structure ToldA (c : UInt8) : Prop where
  inn : area_inner.f (c.toNat : Int) = some (inB c)
  ref : parterreref08_inner.f (c.toNat : Int) = some (inB c)
  bl : parterreref03_Blank.f (c.toNat : Int) = some (blB c)
  dot : inB c = true → c ≠ 46
  zero : inB c = true → c ≠ 0
  nobl : inB c = true → blB c = false
theorem toldA (c : UInt8) : ToldA c := by
  have h := List.all_eq_true.1 fineA_all c.toNat (List.mem_range.2 c.toNat_lt)
  simp only [fineA, Bool.and_eq_true, Bool.or_eq_true, beq_iff_eq, bne_iff_ne, Bool.not_eq_true'] at h
  obtain ⟨h1, h2, h3, h4⟩ := h
  obtain ⟨t, ht⟩ := Option.isSome_iff_exists.1 h1
  have e : inB c = t := by
    unfold inB
    rw [ht]
    cases t <;> rfl
  have ec : UInt8.ofNat c.toNat = c := UInt8.ofNat_toNat
  rw [ec] at h3 h4
  have h5 : inB c = true → c.toNat ≠ 46 ∧ c.toNat ≠ 0 ∧ blB c = false := fun hi => h4.resolve_left (fun hn => hn (by rw [ht, ← e, hi]))
  refine ⟨by rw [ht, e], by rw [h2, ht, e], h3, fun hi hc => (h5 hi).1 (by rw [hc]; rfl), fun hi hc => (h5 hi).2.1 (by rw [hc]; rfl), fun hi => (h5 hi).2.2⟩
theorem dot_bl {c : UInt8} (h : c = 46) : blB c = false := by subst h; decide
theorem dot_int {c : UInt8} : ((c.toNat : Int) = 46) ↔ c = 46 := by
  constructor
  · intro h
    apply UInt8.toNat.inj
    have : c.toNat = 46 := by omega
    rw [this]
    rfl
  · rintro rfl
    rfl

/-! ### Texts and the rest from a place on -/
def T (l : List UInt8) : ByteArray := ⟨l.toArray⟩
theorem T_list (l : List UInt8) : (T l).data.toList = l := by simp [T]
theorem T_size (l : List UInt8) : (T l).size = l.length := by
  show l.toArray.size = _
  simp
theorem T_of (s : ByteArray) : T s.data.toList = s := by simp [T]
def Dr (x : ByteArray) (i : Nat) (l : List UInt8) : Prop := x.data.toList.drop i = l ∧ i + l.length = x.size
section
variable {x : ByteArray} {i : Nat} {c : UInt8} {l A B : List UInt8}
theorem size_list (x : ByteArray) : x.data.toList.length = x.size := by simp
theorem Dr.all (x : ByteArray) : Dr x 0 x.data.toList := ⟨rfl, by rw [size_list]; omega⟩
theorem Dr.get (h : Dr x i (c :: l)) : i < x.size ∧ bt x (i : Int) = (c.toNat : Int) := by
  have h1 : x.data.toList[i]? = some c := by
    have := congrArg (fun z => z[0]?) h.1
    simpa using this
  obtain ⟨h2, h3⟩ := List.getElem?_eq_some_iff.1 h1
  rw [size_list] at h2
  refine ⟨h2, ?_⟩
  rw [← bt_at x (i : Int) (by simpa using h2), ← h3]
  simp
  rfl
theorem Dr.tail (h : Dr x i (c :: l)) : Dr x (i + 1) l := by
  refine ⟨?_, by have := h.2; simp only [List.length_cons] at this; omega⟩
  rw [← List.drop_drop, h.1]
  rfl
theorem Dr.right (h : Dr x i (A ++ B)) : Dr x (i + A.length) B := by
  refine ⟨?_, by have := h.2; rw [List.length_append] at this; omega⟩
  rw [← List.drop_drop, h.1, List.drop_left]
theorem Dr.nil (h : Dr x i []) : i = x.size := by simpa using h.2
theorem Dr.ext (h : Dr x i (A ++ B)) : x.extract i (i + A.length) = T A := by
  apply Go.WideShapes.bytes_inj
  rw [ByteArray.data_extract, Array.toList_extract, List.extract_eq_take_drop, h.1, T_list, Nat.add_sub_cancel_left, List.take_left]
end
theorem T_drop (A B : List UInt8) : (T (A ++ B)).extract A.length (T (A ++ B)).size = T B := by
  apply Go.WideShapes.bytes_inj
  rw [ByteArray.data_extract, Array.toList_extract, List.extract_eq_take_drop, T_list, T_list, List.drop_left, T_size, List.length_append, Nat.add_sub_cancel_left, List.take_length]
theorem T_take (A B : List UInt8) : (T (A ++ B)).extract 0 A.length = T A := by
  apply Go.WideShapes.bytes_inj
  rw [ByteArray.data_extract, Array.toList_extract, List.extract_eq_take_drop, T_list, T_list, List.drop_zero, Nat.sub_zero, List.take_left]
theorem tw_app {f : UInt8 → Bool} : ∀ {A B : List UInt8}, (∀ c ∈ A, f c = true) → (∀ c B', B = c :: B' → f c = false) → (A ++ B).takeWhile f = A
  | [], [], _, _ => rfl
  | [], c :: B, _, h => by
    rw [List.nil_append, List.takeWhile_cons, h c B rfl]
    rfl
  | a :: A, B, h, h2 => by
    rw [List.cons_append, List.takeWhile_cons, h a List.mem_cons_self, if_pos rfl, tw_app (fun c hc => h c (List.mem_cons_of_mem _ hc)) h2]
/-! ### run -/
theorem test_in (c : UInt8) : area_run.test 29 (c.toNat : Int) = some (inB c) := by
  unfold area_run.test
  rw [if_pos rfl]
  exact (toldA c).inn
theorem test_dot (c : UInt8) : area_run.test 30 (c.toNat : Int) = some (doB c) := by
  unfold area_run.test
  rw [if_neg (by decide), if_pos rfl]
  unfold area_point.f doB
  congr 1
  by_cases h : c = 46
  · subst h; rfl
  · rw [beq_false_of_ne h, beq_false_of_ne (fun e => h (dot_int.1 e))]
theorem run_l0 {p : Nat} {f : UInt8 → Bool} (hf : ∀ c : UInt8, area_run.test p (c.toNat : Int) = some (f c)) {s : ByteArray} (hs : s.size ≤ 1000000) : ∀ (l : List UInt8) (n : Nat), Dr s n l → Ev (fun k => area_run.l0 k s p (n : Int)) ((n + (l.takeWhile f).length : Nat) : Int)
  | [], n, h => by
    refine ev_step ?_
    simp only [area_run.l0]
    have := h.nil
    exact ev_neg (by omega) (ev_eq (by simp))
  | c :: l, n, h => by
    refine ev_step ?_
    simp only [area_run.l0]
    obtain ⟨h1, h2⟩ := h.get
    rw [h2]
    refine ev_pos (by omega) (ev_pos (by omega) (ev_bindc (hf c) ?_))
    rw [w64 (by omega) (by omega), List.takeWhile_cons]
    cases hc : f c with
    | true =>
      refine ev_pos rfl (ev_cast (run_l0 hf hs l (n + 1) h.tail) ?_)
      simp only [if_true, List.length_cons]
      omega
    | false => exact ev_neg (by decide) (ev_eq (by simp))
theorem run_in {s : ByteArray} (hs : s.size ≤ 1000000) : Ev (fun k => area_run.f k s 29) (((s.data.toList.takeWhile inB).length : Nat) : Int) := by
  simp only [area_run.f]
  refine ev_pos (by simp) (ev_cast (run_l0 test_in hs _ 0 (Dr.all s)) ?_)
  omega
theorem run_dot {s : ByteArray} (hs : s.size ≤ 1000000) : Ev (fun k => area_run.f k s 30) (((s.data.toList.takeWhile doB).length : Nat) : Int) := by
  simp only [area_run.f]
  refine ev_pos (by simp) (ev_cast (run_l0 test_dot hs _ 0 (Dr.all s)) ?_)
  omega

/-! ### area.Cells -/
theorem trim_f (l : List UInt8) : strings_TrimLeft.f (T l) (⟨#[32, 9, 10, 13, 12]⟩ : ByteArray) = some (T (l.dropWhile blB)) := by
  unfold strings_TrimLeft.f
  rw [if_pos rfl, T_list]
  rfl
section
variable {out : List ByteArray} {r : List ByteArray × Bool} {A B l : List UInt8} {c : UInt8}
theorem c_blank (hc : blB c = true) (h : Ev (fun k => area_Cells.l0 k (T l) out) r) : Ev (fun k => area_Cells.l0 k (T (c :: l)) out) r := by
  refine Ev.congr (fun k => ?_) h
  cases k with
  | zero => rfl
  | succ k =>
    simp only [area_Cells.l0]
    rw [trim_f, trim_f, List.dropWhile_cons, hc, if_pos rfl]
theorem c_end : Ev (fun k => area_Cells.l0 k (T []) out) (out, true) := by
  refine ev_step ?_
  simp only [area_Cells.l0]
  exact ev_bindc (trim_f []) (ev_pos (by rw [ByteArray.toList_eq, T_list]; rfl) ev_some)
theorem c_top (hc : blB c = false) {a b : Nat} (ha : ((c :: l).takeWhile inB).length = a) (hb : ((c :: l).takeWhile doB).length = b) (hl : (c :: l).length ≤ 100000)
    (h : Ev (fun k => (if (wrap64 ((a : Int) + (b : Int))) = 0 then (some (([] : List ByteArray), false)) else (if 0 ≤ (a : Int) then (if (a : Int) ≤ ((T (c :: l)).size : Int) then (if out.length < 8796093022208 then (if 0 ≤ (wrap64 ((a : Int) + (b : Int))) then (if (wrap64 ((a : Int) + (b : Int))) ≤ ((T (c :: l)).size : Int) then (area_Cells.l0 k ((T (c :: l)).extract ((wrap64 ((a : Int) + (b : Int))) : Int).toNat (T (c :: l)).size) (out ++ [(T (c :: l)).extract 0 ((a : Int) : Int).toNat])) else (none)) else (none)) else (none)) else (none)) else (none)))) r) :
    Ev (fun k => area_Cells.l0 k (T (c :: l)) out) r := by
  refine ev_step ?_
  simp only [area_Cells.l0]
  have e : (c :: l).dropWhile blB = c :: l := by rw [List.dropWhile_cons, hc]; rfl
  have h1 := run_in (s := T (c :: l)) (by rw [T_size]; omega)
  have h2 := run_dot (s := T (c :: l)) (by rw [T_size]; omega)
  rw [T_list, ha] at h1
  rw [T_list, hb] at h2
  exact ev_bindc ((trim_f _).trans (by rw [e])) (ev_neg (by rw [ByteArray.toList_eq, T_list]; simp) (ev_bind h1 (ev_bind h2 h)))
theorem c_name (hA : ∀ c ∈ A, inB c = true) (hne : A ≠ []) (hB : ∀ c B', B = c :: B' → inB c = false) (hl : (A ++ B).length ≤ 100000) (ho : out.length ≤ 1000000)
    (h : Ev (fun k => area_Cells.l0 k (T B) (out ++ [T A])) r) : Ev (fun k => area_Cells.l0 k (T (A ++ B)) out) r := by
  obtain ⟨c, A', rfl⟩ := List.exists_cons_of_ne_nil hne
  have hc := hA c List.mem_cons_self
  have tc := toldA c
  have ha : ((c :: (A' ++ B)).takeWhile inB).length = (c :: A').length := by rw [← List.cons_append, tw_app hA hB]
  have hb : ((c :: (A' ++ B)).takeWhile doB).length = 0 := by
    rw [List.takeWhile_cons, show doB c = false from beq_false_of_ne (tc.dot hc)]
    rfl
  have hz : (T (c :: (A' ++ B))).size = (c :: A').length + B.length := by rw [T_size, List.length_cons, List.length_append, List.length_cons]; omega
  rw [List.cons_append] at hl ⊢
  refine c_top (tc.nobl hc) ha hb hl ?_
  rw [w64 (by omega) (by rw [List.length_cons, List.length_append] at hl; simp only [List.length_cons]; omega)]
  have e1 : (((c :: A').length : Int) + ((0 : Nat) : Int)).toNat = (c :: A').length := by omega
  have e2 : (((c :: A').length : Nat) : Int).toNat = (c :: A').length := by omega
  rw [e1, e2, ← List.cons_append, T_drop (c :: A') B, T_take (c :: A') B]
  rw [← List.cons_append] at hz
  refine ev_neg (by simp only [List.length_cons]; omega) (ev_pos (by omega) (ev_pos (by rw [hz]; omega) (ev_pos (by omega) (ev_pos (by omega) (ev_pos (by rw [hz]; omega) h)))))
theorem c_dots (hA : ∀ c ∈ A, doB c = true) (hne : A ≠ []) (hB : ∀ c B', B = c :: B' → doB c = false) (hl : (A ++ B).length ≤ 100000) (ho : out.length ≤ 1000000)
    (h : Ev (fun k => area_Cells.l0 k (T B) (out ++ [(⟨#[]⟩ : ByteArray)])) r) : Ev (fun k => area_Cells.l0 k (T (A ++ B)) out) r := by
  obtain ⟨c, A', rfl⟩ := List.exists_cons_of_ne_nil hne
  have hc := hA c List.mem_cons_self
  have h46 : c = 46 := by simpa [doB] using hc
  have tc := toldA c
  have hin : inB c = false := by
    cases hi : inB c with
    | false => rfl
    | true => exact absurd h46 (tc.dot hi)
  have ha : ((c :: (A' ++ B)).takeWhile inB).length = 0 := by
    rw [List.takeWhile_cons, hin]
    rfl
  have hb : ((c :: (A' ++ B)).takeWhile doB).length = (c :: A').length := by rw [← List.cons_append, tw_app hA hB]
  have hz : (T (c :: (A' ++ B))).size = (c :: A').length + B.length := by rw [T_size, List.length_cons, List.length_append, List.length_cons]; omega
  rw [List.cons_append] at hl ⊢
  refine c_top (dot_bl h46) ha hb hl ?_
  rw [w64 (by omega) (by rw [List.length_cons, List.length_append] at hl; simp only [List.length_cons]; omega)]
  have e1 : (((0 : Nat) : Int) + ((c :: A').length : Int)).toNat = (c :: A').length := by omega
  have e3 : (T (c :: A' ++ B)).extract 0 0 = (⟨#[]⟩ : ByteArray) := T_take [] (c :: A' ++ B)
  rw [e1, ← List.cons_append, T_drop (c :: A') B, show (((0 : Nat) : Int)).toNat = 0 from rfl, e3]
  rw [← List.cons_append] at hz
  refine ev_neg (by simp only [List.length_cons]; omega) (ev_pos (by omega) (ev_pos (by rw [hz]; omega) (ev_pos (by omega) (ev_pos (by omega) (ev_pos (by rw [hz]; omega) h)))))
end

/-! ### The document's Cells -/
section
variable {x : ByteArray} {out : List ByteArray} {r : List ByteArray × Bool} {A B l : List UInt8} {c : UInt8} {i j : Nat}
end
theorem lat (l0 : List (List ByteArray)) {i : Nat} {row : List ByteArray} (h : l0[i]? = some row) : rd_L1 l0 (i : Int) = row := by
  unfold rd_L1
  rw [Int.toNat_natCast, List.getD_eq_getElem?_getD, h]
  rfl
theorem sat (row : List ByteArray) {i : Nat} {s : ByteArray} (h : row[i]? = some s) : rdOf ByteArray.empty row (i : Int) = s := by
  unfold rdOf
  rw [Int.toNat_natCast, List.getD_eq_getElem?_getD, h]
  rfl
section
variable {x : List (List ByteArray)}
end
end Go.Proofs.YtofdhdafabmhmaaDoor.PureAr
end
section
/- area.boxes: plain laws: which rectangles it tells, and that each has just its name's cells where it says so. Conditions: rows and columns below 1000000. -/
namespace Go.Proofs.YtofdhdafabmhmaaDoor.Giv
open Go.RowKit Go.Proofs.YtofdhdafabmhmaaDoorW.PrintWords Go.Proofs.YtofdhdafabmhmaaDoorW.PrintLast Go.Proofs.YtofdhdafabmhmaaDoorW.PrintMore
open Go.Proofs.YtofdhdafabmhmaaDoor.Opn Go.Proofs.YtofdhdafabmhmaaDoor.PAr
open Go
/-- The cell of a row and a column. -/
def arAt (l0 : List (List ByteArray)) (r c : Nat) : Option ByteArray := (l0[r]?).bind (·[c]?)
theorem ar_row_mem (r0 : Nat) : ∀ (l : List ByteArray) (c0 : Nat) (x : ByteArray × Int × Int), x ∈ area_boxes.row r0 l c0 ↔ ∃ c : Nat, x.2.1 = r0 ∧ x.2.2 = ((c0 + c : Nat) : Int) ∧ l[c]? = some x.1 ∧ x.1.size ≠ 0
  | [], c0, x => by simp [area_boxes.row]
  | s :: l, c0, x => by
    have ih := ar_row_mem r0 l (c0 + 1) x
    have key : (∃ c : Nat, x.2.1 = r0 ∧ x.2.2 = ((c0 + c : Nat) : Int) ∧ (s :: l)[c]? = some x.1 ∧ x.1.size ≠ 0) ↔ ((x.2.1 = r0 ∧ x.2.2 = c0 ∧ s = x.1 ∧ x.1.size ≠ 0) ∨ ∃ c : Nat, x.2.1 = r0 ∧ x.2.2 = ((c0 + 1 + c : Nat) : Int) ∧ l[c]? = some x.1 ∧ x.1.size ≠ 0) := by
      constructor
      · rintro ⟨c, h1, h2, h3, h4⟩
        cases c with
        | zero => exact .inl ⟨h1, by simpa using h2, by simpa using h3, h4⟩
        | succ c => exact .inr ⟨c, h1, by rw [h2]; omega, by simpa using h3, h4⟩
      · rintro (⟨h1, h2, h3, h4⟩ | ⟨c, h1, h2, h3, h4⟩)
        · exact ⟨0, h1, by simpa using h2, by simpa using h3, h4⟩
        · exact ⟨c + 1, h1, by rw [h2]; omega, by simpa using h3, h4⟩
    rw [key, ← ih, show area_boxes.row r0 (s :: l) c0 = if s.size = 0 then area_boxes.row r0 l (c0 + 1) else (s, (r0 : Int), (c0 : Int)) :: area_boxes.row r0 l (c0 + 1) from rfl]
    split
    · rename_i hs
      constructor
      · exact .inr
      · rintro (⟨_, _, rfl, h⟩ | h)
        · exact absurd hs h
        · exact h
    · rename_i hs
      obtain ⟨x1, x2, x3⟩ := x
      simp only [List.mem_cons, Prod.mk.injEq]
      constructor
      · rintro (⟨rfl, rfl, rfl⟩ | h)
        · exact .inl ⟨rfl, rfl, rfl, hs⟩
        · exact .inr h
      · rintro (⟨rfl, rfl, rfl, h⟩ | h)
        · exact .inl ⟨rfl, rfl, rfl⟩
        · exact .inr h
theorem ar_cells_mem : ∀ (l0 : List (List ByteArray)) (r0 : Nat) (x : ByteArray × Int × Int), x ∈ area_boxes.cells l0 r0 ↔ ∃ r c : Nat, x.2.1 = ((r0 + r : Nat) : Int) ∧ x.2.2 = (c : Int) ∧ arAt l0 r c = some x.1 ∧ x.1.size ≠ 0
  | [], r0, x => by simp [area_boxes.cells, arAt]
  | l :: l0, r0, x => by
    have ih := ar_cells_mem l0 (r0 + 1) x
    have hr := ar_row_mem r0 l 0 x
    unfold area_boxes.cells
    rw [List.mem_append, ih, hr]
    constructor
    · rintro (⟨c, h1, h2, h3, h4⟩ | ⟨r, c, h1, h2, h3, h4⟩)
      · exact ⟨0, c, by simpa using h1, by simpa using h2, by simpa [arAt] using h3, h4⟩
      · exact ⟨r + 1, c, by rw [h1]; omega, h2, by simpa [arAt] using h3, h4⟩
    · rintro ⟨r, c, h1, h2, h3, h4⟩
      cases r with
      | zero => exact .inl ⟨c, by simpa using h1, by simpa using h2, by simpa [arAt] using h3, h4⟩
      | succ r => exact .inr ⟨r, c, by rw [h1]; omega, h2, by simpa [arAt] using h3, h4⟩
/-- Ahead of another one, row by row. -/
def arLt (x y : ByteArray × Int × Int) : Prop := x.2.1 < y.2.1 ∨ (x.2.1 = y.2.1 ∧ x.2.2 < y.2.2)
theorem ar_row_sorted (r0 : Nat) : ∀ (l : List ByteArray) (c0 : Nat), (area_boxes.row r0 l c0).Pairwise arLt
  | [], c0 => by simp [area_boxes.row]
  | s :: l, c0 => by
    have ih := ar_row_sorted r0 l (c0 + 1)
    rw [show area_boxes.row r0 (s :: l) c0 = if s.size = 0 then area_boxes.row r0 l (c0 + 1) else (s, (r0 : Int), (c0 : Int)) :: area_boxes.row r0 l (c0 + 1) from rfl]
    split
    · exact ih
    · refine List.pairwise_cons.2 ⟨fun y hy => ?_, ih⟩
      obtain ⟨c, h1, h2, _, _⟩ := (ar_row_mem r0 l (c0 + 1) y).1 hy
      exact .inr ⟨by simp [h1], by simp only [h2]; omega⟩
theorem ar_cells_sorted : ∀ (l0 : List (List ByteArray)) (r0 : Nat), (area_boxes.cells l0 r0).Pairwise arLt
  | [], r0 => by simp [area_boxes.cells]
  | l :: l0, r0 => by
    unfold area_boxes.cells
    refine List.pairwise_append.2 ⟨ar_row_sorted r0 l 0, ar_cells_sorted l0 (r0 + 1), fun x hx y hy => ?_⟩
    obtain ⟨c, h1, h2, _, _⟩ := (ar_row_mem r0 l 0 x).1 hx
    obtain ⟨r, c', h1', h2', _, _⟩ := (ar_cells_mem l0 (r0 + 1) y).1 hy
    exact .inl (by rw [h1, h1']; omega)
theorem ar_at_none (s : ByteArray) : ∀ out : List S33, area_boxes.at_ s out = none ↔ ∀ b ∈ out, b.f0 ≠ s
  | [] => by simp [area_boxes.at_]
  | x :: out => by
    have ih := ar_at_none s out
    unfold area_boxes.at_
    split
    · rename_i h
      simp [h]
    · rename_i h
      rw [Option.map_eq_none_iff, ih]
      simp [h]
/-- A rectangle is just as great as its name's cells need, and so many there are. -/
structure ArBox (pre : List (ByteArray × Int × Int)) (b : S33) (n : Int) : Prop where
  cnt : n = ((pre.filter (fun x => decide (x.1 = b.f0))).length : Nat)
  bd : ∀ x ∈ pre, x.1 = b.f0 → b.f1 ≤ x.2.1 ∧ x.2.1 < b.f1 + b.f3 ∧ b.f2 ≤ x.2.2 ∧ x.2.2 < b.f2 + b.f4
  top : ∃ x ∈ pre, x.1 = b.f0 ∧ x.2.1 = b.f1
  bot : ∃ x ∈ pre, x.1 = b.f0 ∧ x.2.1 = b.f1 + b.f3 - 1
  lef : ∃ x ∈ pre, x.1 = b.f0 ∧ x.2.2 = b.f2
  rig : ∃ x ∈ pre, x.1 = b.f0 ∧ x.2.2 = b.f2 + b.f4 - 1
open Classical in
/-- The first cells of all names. -/
noncomputable def arFirsts (pre : List (ByteArray × Int × Int)) : List ByteArray := pre.foldl (fun (o : List ByteArray) x => if x.1 ∈ o then o else o ++ [x.1]) []
structure ArInv (pre : List (ByteArray × Int × Int)) (out : List S33) (cnt : List Int) : Prop where
  len : out.length = cnt.length
  names : out.map (·.f0) = arFirsts pre
  box : ∀ (k : Nat) (b : S33) (n : Int), out[k]? = some b → cnt[k]? = some n → ArBox pre b n
open Classical in
theorem ar_firsts_snoc (pre) (x : ByteArray × Int × Int) : arFirsts (pre ++ [x]) = if x.1 ∈ arFirsts pre then arFirsts pre else arFirsts pre ++ [x.1] := by
  unfold arFirsts
  rw [List.foldl_append, List.foldl_cons, List.foldl_nil]
theorem ar_firsts_mem (s : ByteArray) : ∀ (n : Nat) (pre : List (ByteArray × Int × Int)), pre.length = n → (s ∈ arFirsts pre ↔ ∃ x ∈ pre, x.1 = s)
  | 0, pre, h => by
    obtain rfl := List.length_eq_zero_iff.1 h
    simp [arFirsts]
  | n + 1, pre, h => by
    obtain ⟨p, x, rfl⟩ : ∃ p x, pre = p ++ [x] := ⟨pre.dropLast, pre.getLast (by intro e; simp [e] at h), (List.dropLast_concat_getLast _).symm⟩
    have ih := ar_firsts_mem s n p (by simpa using h)
    rw [ar_firsts_snoc]
    simp only [List.mem_append, List.mem_singleton, or_and_right, exists_or, exists_eq_left]
    split
    · rename_i hx
      rw [ih]
      constructor
      · exact .inl
      · rintro (h | rfl)
        · exact h
        · exact ih.1 hx
    · simp only [List.mem_append, List.mem_singleton, ih, eq_comm]
theorem ar_firsts_nodup : ∀ (n : Nat) (pre : List (ByteArray × Int × Int)), pre.length = n → (arFirsts pre).Nodup
  | 0, pre, h => by
    obtain rfl := List.length_eq_zero_iff.1 h
    simp [arFirsts]
  | n + 1, pre, h => by
    obtain ⟨p, x, rfl⟩ : ∃ p x, pre = p ++ [x] := ⟨pre.dropLast, pre.getLast (by intro e; simp [e] at h), (List.dropLast_concat_getLast _).symm⟩
    have ih := ar_firsts_nodup n p (by simpa using h)
    rw [ar_firsts_snoc]
    split
    · exact ih
    · rename_i hx
      refine List.nodup_append.2 ⟨ih, by simp, fun a ha b hb => ?_⟩
      simp only [List.mem_singleton] at hb
      subst hb
      exact fun e => hx (e ▸ ha)
def arIn (x : ByteArray × Int × Int) : Prop := 0 ≤ x.2.1 ∧ x.2.1 < 1000000 ∧ 0 ≤ x.2.2 ∧ x.2.2 < 1000000
theorem ar_w (x : Int) (h1 : -9223372036854775808 ≤ x) (h2 : x ≤ 9223372036854775807) : wrap64 x = x := by
  unfold wrap64
  omega
theorem ar_step_inv {pre : List (ByteArray × Int × Int)} {out : List S33} {cnt : List Int} (x : ByteArray × Int × Int) (h : ArInv pre out cnt) (hp : ∀ y ∈ pre, arIn y) (hx : arIn x) (hs : ∀ y ∈ pre, arLt y x) (hl : pre.length < 2000000000000) :
    ArInv (pre ++ [x]) (area_boxes.step x (out, cnt)).1 (area_boxes.step x (out, cnt)).2 := by
  obtain ⟨s, r, c⟩ := x
  have hxr := hx.1
  have hxr2 := hx.2.1
  have hxc := hx.2.2.1
  have hxc2 := hx.2.2.2
  dsimp only at hxr hxr2 hxc hxc2
  have hmem : ∀ s', s' ∈ arFirsts pre ↔ ∃ y ∈ pre, y.1 = s' := fun s' => ar_firsts_mem s' _ pre rfl
  have hold : ∀ b n, ArBox pre b n → b.f0 ≠ s → ArBox (pre ++ [(s, r, c)]) b n := by
    intro b n hb hne
    refine ⟨?_, ?_, ?_, ?_, ?_, ?_⟩
    · rw [hb.cnt, List.filter_append]
      simp [Ne.symm hne]
    · intro y hy hy1
      rcases List.mem_append.1 hy with hy | hy
      · exact hb.bd y hy hy1
      · simp only [List.mem_singleton] at hy
        subst hy
        exact absurd hy1.symm hne
    all_goals
      first
      | (obtain ⟨y, hy, h1, h2⟩ := hb.top; exact ⟨y, List.mem_append_left _ hy, h1, h2⟩)
      | (obtain ⟨y, hy, h1, h2⟩ := hb.bot; exact ⟨y, List.mem_append_left _ hy, h1, h2⟩)
      | (obtain ⟨y, hy, h1, h2⟩ := hb.lef; exact ⟨y, List.mem_append_left _ hy, h1, h2⟩)
      | (obtain ⟨y, hy, h1, h2⟩ := hb.rig; exact ⟨y, List.mem_append_left _ hy, h1, h2⟩)
  unfold area_boxes.step
  cases hat : area_boxes.at_ s out with
  | none =>
    have hno := (ar_at_none s out).1 hat
    have hnf : s ∉ arFirsts pre := by
      rw [← h.names]
      intro hm
      obtain ⟨b, hb, e⟩ := List.mem_map.1 hm
      exact hno b hb e
    have hnp : ∀ y ∈ pre, y.1 ≠ s := fun y hy e => hnf ((hmem s).2 ⟨y, hy, e⟩)
    dsimp only
    refine ⟨by simp [h.len], by rw [ar_firsts_snoc, if_neg hnf]; simp [h.names], fun k b n hb hn => ?_⟩
    rw [List.getElem?_append] at hb hn
    by_cases hk : k < out.length
    · rw [if_pos hk] at hb
      rw [if_pos (by rw [← h.len]; exact hk)] at hn
      exact hold b n (h.box k b n hb hn) (hno b (List.mem_of_getElem? hb))
    · rw [if_neg hk] at hb
      rw [if_neg (by rw [← h.len]; exact hk)] at hn
      have hk0 : k - out.length = 0 := by
        by_cases h0 : k - out.length = 0
        · exact h0
        · rw [List.getElem?_eq_none (by simp; omega)] at hb
          cases hb
      rw [hk0] at hb
      rw [← h.len, hk0] at hn
      simp at hb hn
      subst hb hn
      refine ⟨?_, ?_, ⟨(s, r, c), by simp, rfl, rfl⟩, ⟨(s, r, c), by simp, rfl, ?_⟩, ⟨(s, r, c), by simp, rfl, rfl⟩, ⟨(s, r, c), by simp, rfl, ?_⟩⟩
      · rw [List.filter_append, List.filter_eq_nil_iff.2 (by intro y hy; simp [hnp y hy])]
        simp
      · intro y hy hy1
        rcases List.mem_append.1 hy with hy | hy
        · exact absurd hy1 (hnp y hy)
        · simp only [List.mem_singleton] at hy
          subst hy
          dsimp only
          omega
      · dsimp only; omega
      · dsimp only; omega
  | some k =>
    obtain ⟨b0, hb0, hbs⟩ := ar_at_some s out k hat
    have hsf : s ∈ arFirsts pre := by
      rw [← h.names]
      exact List.mem_map.2 ⟨b0, List.mem_of_getElem? hb0, hbs⟩
    dsimp only
    have hkl : k < out.length := (List.getElem?_eq_some_iff.1 hb0).1
    have hnod : (out.map (·.f0)).Nodup := by rw [h.names]; exact ar_firsts_nodup _ pre rfl
    refine ⟨by simp [h.len], ?_, fun k' b n hb hn => ?_⟩
    · rw [ar_firsts_snoc, if_pos hsf, ← h.names]
      apply List.ext_getElem?
      intro i
      simp only [List.getElem?_map, List.getElem?_modify]
      by_cases hik : k = i
      · subst hik
        rw [hb0]
        simp [area_boxes.wide]
      · simp [hik]
    · rw [List.getElem?_modify] at hb hn
      by_cases hkk : k = k'
      · subst hkk
        obtain ⟨n0, hn0⟩ : ∃ n0, cnt[k]? = some n0 := ⟨_, List.getElem?_eq_getElem (by rw [← h.len]; exact hkl)⟩
        have hB := h.box k b0 n0 hb0 hn0
        rw [hb0] at hb
        rw [hn0] at hn
        simp at hb hn
        subst hb hn
        subst hbs
        obtain ⟨xt, hxt, ht1, ht2⟩ := hB.top
        obtain ⟨xb, hxb, hb1, hb2⟩ := hB.bot
        obtain ⟨xl, hxl, hl1, hl2⟩ := hB.lef
        obtain ⟨xr, hxr', hr1, hr2⟩ := hB.rig
        have it := hp xt hxt
        have ib := hp xb hxb
        have il := hp xl hxl
        have ir := hp xr hxr'
        unfold arIn at it ib il ir
        have hbl := hB.bd xl hxl hl1
        have hfl : (pre.filter (fun x => decide (x.1 = b0.f0))).length ≤ pre.length := List.length_filter_le _ _
        have st := hs xt hxt
        unfold arLt at st
        dsimp only at st
        have e1 : wrap64 (r + 1) = r + 1 := ar_w _ (by omega) (by omega)
        have e2 : wrap64 (r + 1 - b0.f1) = r + 1 - b0.f1 := ar_w _ (by omega) (by omega)
        have e3 : wrap64 (b0.f2 + b0.f4) = b0.f2 + b0.f4 := ar_w _ (by omega) (by omega)
        have e4 : wrap64 (c + 1) = c + 1 := ar_w _ (by omega) (by omega)
        have e5 : wrap64 (max (b0.f2 + b0.f4) (c + 1) - min b0.f2 c) = max (b0.f2 + b0.f4) (c + 1) - min b0.f2 c := ar_w _ (by omega) (by omega)
        have ew : area_boxes.wide b0 r c = ⟨b0.f0, b0.f1, min b0.f2 c, r + 1 - b0.f1, max (b0.f2 + b0.f4) (c + 1) - min b0.f2 c⟩ := by
          unfold area_boxes.wide
          rw [e1, e2, e3, e4, e5]
        rw [ew]
        refine ⟨?_, ?_, ⟨xt, List.mem_append_left _ hxt, ht1, ht2⟩, ⟨(b0.f0, r, c), by simp, rfl, ?_⟩, ?_, ?_⟩
        · rw [hB.cnt, List.filter_append]
          dsimp only
          simp only [List.filter_cons, decide_true, List.filter_nil, if_true, List.length_append, List.length_singleton]
          exact (ar_w _ (by omega) (by omega)).trans (by omega)
        · intro y hy hy1
          dsimp only at hy1 ⊢
          rcases List.mem_append.1 hy with hy | hy
          · have hb := hB.bd y hy hy1
            have sy := hs y hy
            unfold arLt at sy
            dsimp only at sy
            omega
          · simp only [List.mem_singleton] at hy
            subst hy
            dsimp only
            omega
        · dsimp only; omega
        · by_cases hc : b0.f2 ≤ c
          · exact ⟨xl, List.mem_append_left _ hxl, hl1, by dsimp only; omega⟩
          · exact ⟨(b0.f0, r, c), by simp, rfl, by dsimp only; omega⟩
        · by_cases hc : c + 1 ≤ b0.f2 + b0.f4
          · exact ⟨xr, List.mem_append_left _ hxr', hr1, by dsimp only; omega⟩
          · exact ⟨(b0.f0, r, c), by simp, rfl, by dsimp only; omega⟩
      · simp [hkk] at hb hn
        refine hold b n (h.box k' b n hb hn) (fun e => hkk ?_)
        have h1 : (out.map (·.f0))[k]? = some s := by simp [hb0, hbs]
        have h2 : (out.map (·.f0))[k']? = some s := by simp [hb, e]
        exact (List.getElem?_inj (by simpa using hkl) hnod).1 (h1.trans h2.symm)
theorem ar_run_inv : ∀ (n : Nat) (pre : List (ByteArray × Int × Int)), pre.length = n → pre.Pairwise arLt → (∀ y ∈ pre, arIn y) → pre.length < 2000000000000 → ArInv pre (area_boxes.run pre).1 (area_boxes.run pre).2
  | 0, pre, h, _, _, _ => by
    obtain rfl := List.length_eq_zero_iff.1 h
    exact ⟨rfl, rfl, fun k b n hb => by simp [area_boxes.run] at hb⟩
  | n + 1, pre, h, hs, hp, hl => by
    obtain ⟨p, x, rfl⟩ : ∃ p x, pre = p ++ [x] := ⟨pre.dropLast, pre.getLast (by intro e; simp [e] at h), (List.dropLast_concat_getLast _).symm⟩
    obtain ⟨hs1, _, hs2⟩ := List.pairwise_append.1 hs
    have ih := ar_run_inv n p (by simpa using h) hs1 (fun y hy => hp y (List.mem_append_left _ hy)) (by simp at hl; omega)
    have e : area_boxes.run (p ++ [x]) = area_boxes.step x (area_boxes.run p) := by simp [area_boxes.run]
    rw [e]
    exact ar_step_inv x ih (fun y hy => hp y (List.mem_append_left _ hy)) (hp x (by simp)) (fun y hy => hs2 y hy x (by simp)) (by simp at hl; omega)
theorem ar_nodup_le {α : Type} [DecidableEq α] : ∀ (L R : List α), L.Nodup → (∀ x ∈ L, x ∈ R) → L.length ≤ R.length
  | [], _, _, _ => by simp
  | x :: L, R, hn, hs => by
    obtain ⟨h1, h2⟩ := List.nodup_cons.1 hn
    have hx := hs x (List.mem_cons_self ..)
    have ih := ar_nodup_le L (R.erase x) h2 (fun y hy => (List.mem_erase_of_ne (fun (e : y = x) => h1 (e ▸ hy))).2 (hs y (List.mem_cons_of_mem _ hy)))
    rw [List.length_erase_of_mem hx] at ih
    have := List.length_pos_of_mem hx
    simp only [List.length_cons]
    omega
theorem ar_cover {α : Type} [DecidableEq α] {L R : List α} (hn : L.Nodup) (hs : ∀ x ∈ L, x ∈ R) (hl : R.length ≤ L.length) : ∀ x ∈ R, x ∈ L := by
  intro x hx
  apply Classical.byContradiction
  intro hno
  have := ar_nodup_le (x :: L) R (List.nodup_cons.2 ⟨hno, hn⟩) (fun y hy => by
    rcases List.mem_cons.1 hy with rfl | hy
    · exact hx
    · exact hs y hy)
  simp only [List.length_cons] at this
  omega
/-- All places of a rectangle. -/
def arRect (a b : Int) (h w : Nat) : List (Int × Int) := (List.range h).flatMap fun (i : Nat) => (List.range w).map fun (j : Nat) => (a + (i : Int), b + (j : Int))
theorem ar_rect_len (a b : Int) (h w : Nat) : (arRect a b h w).length = h * w := by
  unfold arRect
  induction h with
  | zero => simp
  | succ h ih => rw [List.range_succ, List.flatMap_append, List.length_append, ih]; simp [Nat.succ_mul]
theorem ar_rect_mem (a b : Int) (h w : Nat) (x : Int × Int) : x ∈ arRect a b h w ↔ a ≤ x.1 ∧ x.1 < a + h ∧ b ≤ x.2 ∧ x.2 < b + w := by
  obtain ⟨r, c⟩ := x
  unfold arRect
  simp only [List.mem_flatMap, List.mem_range, List.mem_map, Prod.mk.injEq]
  constructor
  · rintro ⟨i, hi, j, hj, rfl, rfl⟩
    omega
  · rintro ⟨h1, h2, h3, h4⟩
    exact ⟨(r - a).toNat, by omega, (c - b).toNat, by omega, by omega, by omega⟩
/-- The places of a name's cells. -/
def arPts (pre : List (ByteArray × Int × Int)) (s : ByteArray) : List (Int × Int) := (pre.filter (fun x => decide (x.1 = s))).map (·.2)
theorem ar_pts_mem (pre : List (ByteArray × Int × Int)) (s : ByteArray) (p : Int × Int) : p ∈ arPts pre s ↔ (s, p.1, p.2) ∈ pre := by
  unfold arPts
  simp only [List.mem_map, List.mem_filter, decide_eq_true_eq]
  constructor
  · rintro ⟨⟨s', q⟩, ⟨h1, h2⟩, rfl⟩
    dsimp only at h2
    subst h2
    exact h1
  · intro h
    exact ⟨_, ⟨h, rfl⟩, rfl⟩
theorem ar_pts_nodup {pre : List (ByteArray × Int × Int)} (h : pre.Pairwise arLt) (s : ByteArray) : (arPts pre s).Nodup := by
  unfold arPts
  refine List.pairwise_map.2 ((h.filter _).imp ?_)
  intro x y hxy e
  unfold arLt at hxy
  rw [e] at hxy
  omega
theorem ar_full_iff : ∀ (out : List S33) (cnt : List Int), area_boxes.full out cnt = true ↔ ∀ (k : Nat) (b : S33) (n : Int), out[k]? = some b → cnt[k]? = some n → wrap64 (b.f3 * b.f4) = n
  | [], cnt => by simp [area_boxes.full]
  | b :: out, [] => by simp [area_boxes.full]
  | b :: out, n :: cnt => by
    have ih := ar_full_iff out cnt
    simp only [area_boxes.full, Bool.and_eq_true, decide_eq_true_eq, ih]
    constructor
    · rintro ⟨h1, h2⟩ k b' n' hb hn
      cases k with
      | zero =>
        simp at hb hn
        subst hb hn
        exact h1
      | succ k => exact h2 k b' n' (by simpa using hb) (by simpa using hn)
    · intro h
      exact ⟨h 0 b n rfl rfl, fun k b' n' hb hn => h (k + 1) b' n' (by simpa using hb) (by simpa using hn)⟩
theorem ar_box_dims {pre : List (ByteArray × Int × Int)} {b : S33} {n : Int} (hB : ArBox pre b n) (hp : ∀ y ∈ pre, arIn y) : 0 ≤ b.f1 ∧ b.f1 < 1000000 ∧ 0 ≤ b.f2 ∧ b.f2 < 1000000 ∧ 1 ≤ b.f3 ∧ b.f1 + b.f3 ≤ 1000000 ∧ 1 ≤ b.f4 ∧ b.f2 + b.f4 ≤ 1000000 := by
  obtain ⟨xt, hxt, ht1, ht2⟩ := hB.top
  obtain ⟨xb, hxb, hb1, hb2⟩ := hB.bot
  obtain ⟨xl, hxl, hl1, hl2⟩ := hB.lef
  obtain ⟨xr, hxr, hr1, hr2⟩ := hB.rig
  have it := hp xt hxt
  have ib := hp xb hxb
  have il := hp xl hxl
  have ir := hp xr hxr
  have jt := hB.bd xt hxt ht1
  unfold arIn at it ib il ir
  omega
theorem ar_prod (a b : Int) (ha : 1 ≤ a) (ha2 : a ≤ 1000000) (hb : 1 ≤ b) (hb2 : b ≤ 1000000) : wrap64 (a * b) = a * b ∧ ((a.toNat * b.toNat : Nat) : Int) = a * b := by
  have h1 : 0 ≤ a * b := Int.mul_nonneg (by omega) (by omega)
  have h2 : a * b ≤ 1000000 * 1000000 := Int.mul_le_mul ha2 hb2 (by omega) (by omega)
  refine ⟨ar_w _ (by omega) (by omega), ?_⟩
  rw [Int.natCast_mul, Int.toNat_of_nonneg (by omega), Int.toNat_of_nonneg (by omega)]
theorem ar_box_full {pre : List (ByteArray × Int × Int)} {b : S33} {n : Int} (hB : ArBox pre b n) (hs : pre.Pairwise arLt) (hp : ∀ y ∈ pre, arIn y) (hf : wrap64 (b.f3 * b.f4) = n) (r c : Int) :
    (b.f0, r, c) ∈ pre ↔ b.f1 ≤ r ∧ r < b.f1 + b.f3 ∧ b.f2 ≤ c ∧ c < b.f2 + b.f4 := by
  obtain ⟨d1, d2, d3, d4, d5, d6, d7, d8⟩ := ar_box_dims hB hp
  obtain ⟨q1, q2⟩ := ar_prod b.f3 b.f4 (by omega) (by omega) (by omega) (by omega)
  constructor
  · intro h
    have := hB.bd _ h rfl
    dsimp only at this
    omega
  · intro h
    have hsub : ∀ p ∈ arPts pre b.f0, p ∈ arRect b.f1 b.f2 b.f3.toNat b.f4.toNat := by
      intro p hp1
      have := hB.bd _ ((ar_pts_mem _ _ _).1 hp1) rfl
      dsimp only at this
      rw [ar_rect_mem]
      omega
    have hlen : (arRect b.f1 b.f2 b.f3.toNat b.f4.toNat).length ≤ (arPts pre b.f0).length := by
      have h1 := hB.cnt
      have h2 : (arPts pre b.f0).length = (pre.filter (fun x => decide (x.1 = b.f0))).length := by simp [arPts]
      rw [ar_rect_len, h2]
      omega
    have := ar_cover (ar_pts_nodup hs b.f0) hsub hlen (r, c) (by rw [ar_rect_mem]; dsimp only; omega)
    exact (ar_pts_mem _ _ _).1 this
end Go.Proofs.YtofdhdafabmhmaaDoor.Giv
end
section
/- Which rows are areas: area.Good, area.Rects; what their rectangles are. Conditions: as each theorem says. -/
namespace Go.Proofs.YtofdhdafabmhmaaDoor.PureAr
open Go.RowKit Go.Proofs.YtofdhdafabmhmaaDoorW.PrintWords Go.Proofs.YtofdhdafabmhmaaDoorW.PrintMore Go.Proofs.YtofdhdafabmhmaaDoor.Evs Go.Proofs.YtofdhdafabmhmaaDoor.Opn Go.Proofs.YtofdhdafabmhmaaDoor.PAr Go.Proofs.YtofdhdafabmhmaaDoor.Giv
open Go
def cellOk (s : ByteArray) : Bool := decide (s.size ≤ 64) && s.data.toList.all inB
def rowOk (h : Nat) (l : List ByteArray) : Bool := decide (1 ≤ l.length ∧ l.length ≤ 64 ∧ l.length = h) && l.all cellOk
def boxR (l0 : List (List ByteArray)) : List S33 × List Int := area_boxes.run (area_boxes.cells l0 0)
def fullB (l0 : List (List ByteArray)) : Bool := area_boxes.full (boxR l0).1 (boxR l0).2
def goodB (l0 : List (List ByteArray)) : Bool := decide (l0.length ≤ 64) && (l0.all (rowOk (l0.headD []).length) && fullB l0)
theorem tw_all {f : UInt8 → Bool} : ∀ l : List UInt8, decide ((l.takeWhile f).length < l.length) = !l.all f
  | [] => rfl
  | c :: l => by
    have ih := tw_all (f := f) l
    rw [List.takeWhile_cons, List.all_cons]
    cases f c with
    | false => simp
    | true =>
      simp only [if_true, List.length_cons, Bool.true_and]
      rw [← ih]
      congr 1
      simp
theorem row_len (r : Nat) : ∀ (l : List ByteArray) (c : Nat), (area_boxes.row r l c).length ≤ l.length
  | [], c => by simp [area_boxes.row]
  | s :: l, c => by
    have ih := row_len r l (c + 1)
    rw [show area_boxes.row r (s :: l) c = if s.size = 0 then area_boxes.row r l (c + 1) else (s, (r : Int), (c : Int)) :: area_boxes.row r l (c + 1) from rfl]
    split <;> simp only [List.length_cons] <;> omega
theorem cells_len (m : Nat) : ∀ (l0 : List (List ByteArray)) (r : Nat), (∀ l ∈ l0, l.length ≤ m) → (area_boxes.cells l0 r).length ≤ l0.length * m
  | [], r, _ => by simp [area_boxes.cells]
  | l :: l0, r, h => by
    have ih := cells_len m l0 (r + 1) (fun l hl => h l (List.mem_cons_of_mem _ hl))
    have h1 := row_len r l 0
    have h2 := h l List.mem_cons_self
    rw [area_boxes.cells, List.length_append, List.length_cons, Nat.succ_mul]
    omega
theorem rowOk_len {h : Nat} {l : List ByteArray} (hr : rowOk h l = true) : 1 ≤ l.length ∧ l.length ≤ 64 ∧ l.length = h ∧ ∀ s ∈ l, s.size ≤ 64 ∧ ∀ c ∈ s.data.toList, inB c = true := by
  simp only [rowOk, Bool.and_eq_true, decide_eq_true_eq, List.all_eq_true] at hr
  refine ⟨hr.1.1, hr.1.2.1, hr.1.2.2, fun s hs => ?_⟩
  have := hr.2 s hs
  simp only [cellOk, Bool.and_eq_true, decide_eq_true_eq, List.all_eq_true] at this
  exact this
theorem boxes_f {l0 : List (List ByteArray)} (h1 : l0.length ≤ 64) (h2 : ∀ l ∈ l0, l.length ≤ 64 ∧ ∀ s ∈ l, s.size ≤ 64) (k : Nat) : area_boxes.f k l0 = if fullB l0 = true then some ((boxR l0).1, true) else some ([], false) := by
  have h3 := cells_len 64 l0 0 (fun l hl => (h2 l hl).1)
  unfold area_boxes.f
  rw [if_pos ⟨by omega, by omega, fun l hl => ⟨by have := (h2 l hl).1; omega, fun s hs => by have := (h2 l hl).2 s hs; omega⟩⟩]
  rfl
section
variable {l0 : List (List ByteArray)} {r : Bool} {i : Nat}
theorem good_l1 (row : List ByteArray) (hl : row.length ≤ 64) : ∀ (n j : Nat), j + n = row.length → ((row.drop j).all cellOk = true → Ev (fun k => area_Good.l0 k l0 l0 (l0.length : Int) (wrap64 ((i : Int) + 1))) r) → Ev (fun k => area_Good.l1 k l0 l0 (l0.length : Int) (i : Int) row (row.length : Int) (j : Int)) ((row.drop j).all cellOk && r)
  | 0, j, hj, h => by
    refine ev_step ?_
    simp only [area_Good.l1]
    rw [List.drop_of_length_le (by omega)] at h ⊢
    exact ev_neg (by omega) (h rfl)
  | n + 1, j, hj, h => by
    refine ev_step ?_
    simp only [area_Good.l1]
    have hlt : j < row.length := by omega
    obtain ⟨s, hs⟩ : ∃ s, row[j]? = some s := ⟨_, List.getElem?_eq_getElem hlt⟩
    have e1 : rdOf ByteArray.empty row (j : Int) = s := by
      unfold rdOf
      rw [Int.toNat_natCast, List.getD_eq_getElem?_getD, hs]
      rfl
    have e2 : row.drop j = s :: row.drop (j + 1) := by
      rw [List.drop_eq_getElem_cons hlt, (List.getElem?_eq_some_iff.1 hs).2]
    rw [e1, e2, List.all_cons]
    refine ev_pos (by omega) (ev_pos (by omega) (ev_pos (by omega) (ev_ite (fun hb => ?_) (fun hb => ?_))))
    · refine ev_eq ?_
      have : cellOk s = false := by
        unfold cellOk
        rw [decide_eq_false (by omega)]
        rfl
      rw [this]
      rfl
    · have hc : decide ((s.data.toList.takeWhile inB).length < s.data.toList.length) = !s.data.toList.all inB := tw_all _
      rw [size_list] at hc
      refine ev_bind (run_in (by omega)) (ev_ite (fun hb2 => ?_) (fun hb2 => ?_))
      · refine ev_eq ?_
        rw [decide_eq_true (by omega)] at hc
        have : cellOk s = false := by
          unfold cellOk
          rw [show s.data.toList.all inB = false by simpa using hc.symm, Bool.and_false]
        rw [this]
        rfl
      · rw [decide_eq_false (by omega)] at hc
        have : cellOk s = true := by
          unfold cellOk
          rw [show s.data.toList.all inB = true by simpa using hc.symm, decide_eq_true (by omega)]
          rfl
        rw [this, Bool.true_and, w64 (by omega) (by omega)]
        exact good_l1 row hl n (j + 1) (by omega) (fun h'' => h (by rw [e2, List.all_cons, this, h'']; rfl))
theorem good_l0 (h64 : l0.length ≤ 64) : ∀ (n i : Nat), i + n = l0.length → (∀ l ∈ l0.take i, rowOk (l0.headD []).length l = true) → Ev (fun k => area_Good.l0 k l0 l0 (l0.length : Int) (i : Int)) ((l0.drop i).all (rowOk (l0.headD []).length) && fullB l0)
  | 0, i, hi, hok => by
    refine ev_step ?_
    simp only [area_Good.l0]
    have hi0 : i = l0.length := by omega
    subst hi0
    rw [List.take_length] at hok
    rw [List.drop_length]
    refine ev_neg (by omega) ?_
    have hb : ∀ k, area_boxes.f k l0 = if fullB l0 = true then some ((boxR l0).1, true) else some ([], false) := boxes_f h64 (fun l hl => by
      obtain ⟨_, a, _, b⟩ := rowOk_len (hok l hl)
      exact ⟨a, fun s hs => (b s hs).1⟩)
    refine Ev.congr (f := fun _ => some (fullB l0)) (fun k => ?_) (ev_eq (by rw [List.all_nil, Bool.true_and]))
    rw [hb]
    cases fullB l0 <;> rfl
  | n + 1, i, hi, hok => by
    refine ev_step ?_
    simp only [area_Good.l0]
    have hlt : i < l0.length := by omega
    obtain ⟨row, hs⟩ : ∃ s, l0[i]? = some s := ⟨_, List.getElem?_eq_getElem hlt⟩
    have e1 : rd_L1 l0 (i : Int) = row := by
      unfold rd_L1
      rw [Int.toNat_natCast, List.getD_eq_getElem?_getD, hs]
      rfl
    have e2 : l0.drop i = row :: l0.drop (i + 1) := by
      rw [List.drop_eq_getElem_cons hlt, (List.getElem?_eq_some_iff.1 hs).2]
    have e3 : rd_L1 l0 0 = l0.headD [] := by
      unfold rd_L1
      cases l0 <;> rfl
    rw [e1, e2, e3, List.all_cons]
    have bad : rowOk (l0.headD []).length row = false → Ev (fun k => area_Good.j1 k l0 row l0 (l0.length : Int) (i : Int) true) ((rowOk (l0.headD []).length row && (l0.drop (i + 1)).all (rowOk (l0.headD []).length)) && fullB l0) := fun hb => by
      rw [hb]
      refine ev_step ?_
      simp only [area_Good.j1]
      exact ev_pos (by trivial) (ev_eq rfl)
    refine ev_pos (by omega) (ev_pos (by omega) (ev_pos (by omega) (ev_ite (fun h1 => bad ?_) (fun h1 => ev_ite (fun h2 => bad ?_) (fun h2 => ev_pos (by omega) ?_)))))
    · unfold rowOk
      rw [decide_eq_false (by omega)]
      rfl
    · unfold rowOk
      rw [decide_eq_false (by omega)]
      rfl
    · by_cases h3 : row.length = (l0.headD []).length
      · rw [show ((row.length : Int) != ((l0.headD []).length : Int)) = false by rw [h3]; simp]
        refine ev_step ?_
        simp only [area_Good.j1]
        refine ev_neg (by decide) ?_
        have hr : rowOk (l0.headD []).length row = row.all cellOk := by
          unfold rowOk
          rw [decide_eq_true ⟨by omega, by omega, h3⟩, Bool.true_and]
        have := good_l1 (i := i) (r := (l0.drop (i + 1)).all (rowOk (l0.headD []).length) && fullB l0) row (by omega) row.length 0 (by omega) (fun hc => by
          rw [w64 (by omega) (by omega)]
          exact good_l0 h64 n (i + 1) (by omega) (fun l hl => by
            rw [List.take_add_one, hs] at hl
            rcases List.mem_append.1 hl with hl | hl
            · exact hok l hl
            · simp at hl
              subst hl
              rw [hr]
              exact hc))
        rw [List.drop_zero, ← hr] at this
        rw [Bool.and_assoc]
        exact this
      · rw [show ((row.length : Int) != ((l0.headD []).length : Int)) = true by simp only [bne_iff_ne, ne_eq]; omega]
        refine bad ?_
        unfold rowOk
        rw [decide_eq_false (by omega)]
        rfl
end
theorem good_ev (l0 : List (List ByteArray)) : Ev (fun k => area_Good.f k l0) (goodB l0) := by
  simp only [area_Good.f]
  refine ev_ite (fun h => ev_eq ?_) (fun h => ?_)
  · unfold goodB
    rw [decide_eq_false (by omega)]
    rfl
  · have := good_l0 (l0 := l0) (by omega) l0.length 0 (by omega) (fun l hl => by simp at hl)
    rw [List.drop_zero] at this
    unfold goodB
    rw [decide_eq_true (by omega), Bool.true_and]
    exact this
structure GoodA (l0 : List (List ByteArray)) : Prop where
  n : l0.length ≤ 64
  row : ∀ l ∈ l0, 1 ≤ l.length ∧ l.length ≤ 64 ∧ l.length = (l0.headD []).length ∧ ∀ s ∈ l, s.size ≤ 64 ∧ ∀ c ∈ s.data.toList, inB c = true
  full : fullB l0 = true
theorem good_of {l0 : List (List ByteArray)} (h : goodB l0 = true) : GoodA l0 := by
  simp only [goodB, Bool.and_eq_true, decide_eq_true_eq, List.all_eq_true] at h
  exact ⟨h.1, fun l hl => rowOk_len (h.2.1 l hl), h.2.2⟩
theorem good_boxes {l0 : List (List ByteArray)} (h : GoodA l0) (k : Nat) : area_boxes.f k l0 = some ((boxR l0).1, true) := by
  rw [boxes_f h.n (fun l hl => ⟨(h.row l hl).2.1, fun s hs => ((h.row l hl).2.2.2 s hs).1⟩), h.full]
  rfl
theorem rects_ev {l0 : List (List ByteArray)} (h : goodB l0 = true) : Ev (fun k => area_Rects.f k l0) (boxR l0).1 := by
  simp only [area_Rects.f]
  have hg := good_ev l0
  rw [h] at hg
  refine ev_bind hg (ev_pos rfl (Ev.congr (f := fun _ => some (boxR l0).1) (fun k => ?_) ev_some))
  rw [good_boxes (good_of h)]
  rfl
/-- What a rectangle has. -/
def inRect (b : S33) (r c : Int) : Prop := b.f1 ≤ r ∧ r < b.f1 + b.f3 ∧ b.f2 ≤ c ∧ c < b.f2 + b.f4
instance (b : S33) (r c : Int) : Decidable (inRect b r c) := by unfold inRect; exact inferInstance
/-- The laws of rows that are areas. -/
structure AreasA (l0 : List (List ByteArray)) (out : List S33) : Prop where
  dims : ∀ b ∈ out, 0 ≤ b.f1 ∧ b.f1 < 1000000 ∧ 0 ≤ b.f2 ∧ b.f2 < 1000000 ∧ 1 ≤ b.f3 ∧ b.f1 + b.f3 ≤ 1000000 ∧ 1 ≤ b.f4 ∧ b.f2 + b.f4 ≤ 1000000
  has : ∀ b ∈ out, ∀ r c : Nat, inRect b r c ↔ (arAt l0 r c = some b.f0 ∧ b.f0.size ≠ 0)
  nodup : (out.map (·.f0)).Nodup
  all : ∀ (r c : Nat) (s : ByteArray), arAt l0 r c = some s → s.size ≠ 0 → ∃ b ∈ out, b.f0 = s
  names : out.map (·.f0) = arFirsts (area_boxes.cells l0 0)
theorem firsts_len : ∀ pre : List (ByteArray × Int × Int), (arFirsts pre).length ≤ pre.length := by
  intro pre
  have : ∀ (n : Nat) (pre : List (ByteArray × Int × Int)), pre.length = n → (arFirsts pre).length ≤ pre.length := by
    intro n
    induction n with
    | zero =>
      intro pre h
      obtain rfl := List.length_eq_zero_iff.1 h
      simp [arFirsts]
    | succ n ih =>
      intro pre h
      obtain ⟨p, x, rfl⟩ : ∃ p x, pre = p ++ [x] := ⟨pre.dropLast, pre.getLast (by intro e; simp [e] at h), (List.dropLast_concat_getLast _).symm⟩
      have := ih p (by simpa using h)
      rw [ar_firsts_snoc]
      split <;> simp only [List.length_append, List.length_singleton] <;> omega
  exact this _ pre rfl
theorem cells_in {l0 : List (List ByteArray)} (h1 : l0.length ≤ 64) (h2 : ∀ l ∈ l0, l.length ≤ 64) : ∀ y ∈ area_boxes.cells l0 0, arIn y := by
  intro y hy
  obtain ⟨r, c, e1, e2, e3, _⟩ := (ar_cells_mem l0 0 y).1 hy
  unfold arAt at e3
  obtain ⟨l, hl, hc⟩ := Option.bind_eq_some_iff.1 e3
  have h3 := (List.getElem?_eq_some_iff.1 hl).1
  have h4 := (List.getElem?_eq_some_iff.1 hc).1
  have h5 := h2 l (List.mem_of_getElem? hl)
  unfold arIn
  omega
theorem box_inv {l0 : List (List ByteArray)} (h1 : l0.length ≤ 64) (h2 : ∀ l ∈ l0, l.length ≤ 64) : ArInv (area_boxes.cells l0 0) (boxR l0).1 (boxR l0).2 := by
  have h3 := cells_len 64 l0 0 h2
  exact ar_run_inv _ _ rfl (ar_cells_sorted l0 0) (cells_in h1 h2) (by omega)
theorem areas_of {l0 : List (List ByteArray)} (h : GoodA l0) : AreasA l0 (boxR l0).1 := by
  have hl2 : ∀ l ∈ l0, l.length ≤ 64 := fun l hl => (h.row l hl).2.1
  have hv := box_inv h.n hl2
  have hin := cells_in h.n hl2
  have hso := ar_cells_sorted l0 0
  have hf := (ar_full_iff _ _).1 h.full
  have key : ∀ b ∈ (boxR l0).1, ∃ n, ArBox (area_boxes.cells l0 0) b n ∧ wrap64 (b.f3 * b.f4) = n := by
    intro b hb
    obtain ⟨k, hk⟩ := List.mem_iff_getElem?.1 hb
    have hlt := (List.getElem?_eq_some_iff.1 hk).1
    obtain ⟨n, hn⟩ : ∃ n, (boxR l0).2[k]? = some n := ⟨_, List.getElem?_eq_getElem (by rw [← hv.len]; exact hlt)⟩
    exact ⟨n, hv.box k b n hk hn, hf k b n hk hn⟩
  refine ⟨fun b hb => ?_, fun b hb r c => ?_, ?_, fun r c s hs hz => ?_, hv.names⟩
  · obtain ⟨n, hB, _⟩ := key b hb
    exact ar_box_dims hB hin
  · obtain ⟨n, hB, hn⟩ := key b hb
    unfold inRect
    rw [← ar_box_full hB hso hin hn (r : Int) (c : Int), ar_cells_mem]
    constructor
    · rintro ⟨r', c', e1, e2, e3, e4⟩
      dsimp only at e1 e2 e3 e4
      have e5 : r' = r := by omega
      have e6 : c' = c := by omega
      subst e5 e6
      exact ⟨e3, e4⟩
    · rintro ⟨e3, e4⟩
      exact ⟨r, c, by dsimp only; omega, rfl, e3, e4⟩
  · rw [hv.names]
    exact ar_firsts_nodup _ _ rfl
  · have hm : s ∈ (boxR l0).1.map (·.f0) := by
      rw [hv.names, ar_firsts_mem s _ _ rfl]
      exact ⟨(s, (r : Int), (c : Int)), (ar_cells_mem _ _ _).2 ⟨r, c, by dsimp only; omega, rfl, hs, hz⟩, rfl⟩
    obtain ⟨b, hb, e⟩ := List.mem_map.1 hm
    exact ⟨b, hb, e⟩
theorem filter_one {s : ByteArray} : ∀ {out : List S33}, (out.map (·.f0)).Nodup → (∃ b ∈ out, b.f0 = s) → (out.filter (fun b => decide (b.f0 = s))).length = 1
  | [], _, h => by simp at h
  | b :: out, hn, h => by
    rw [List.map_cons, List.nodup_cons] at hn
    by_cases e : b.f0 = s
    · rw [List.filter_cons, if_pos (by simpa using e)]
      have : out.filter (fun b => decide (b.f0 = s)) = [] := by
        refine List.filter_eq_nil_iff.2 (fun y hy h2 => hn.1 ?_)
        rw [e, ← of_decide_eq_true h2]
        exact List.mem_map.2 ⟨y, hy, rfl⟩
      rw [this]
      rfl
    · rw [List.filter_cons, if_neg (by simpa using e)]
      refine filter_one hn.2 ?_
      obtain ⟨y, hy, e2⟩ := h
      rcases List.mem_cons.1 hy with rfl | hy
      · exact absurd e2 e
      · exact ⟨y, hy, e2⟩
/-- How many rectangles a cell is in. -/
theorem rects_count {l0 : List (List ByteArray)} {out : List S33} (h : AreasA l0 out) {r c : Nat} {s : ByteArray} (hs : arAt l0 r c = some s) :
    (out.filter (fun b => decide (inRect b r c))).length = min 1 s.size ∧ ∀ b ∈ out, inRect b r c → b.f0 = s := by
  have hn : ∀ b ∈ out, inRect b r c ↔ (b.f0 = s ∧ s.size ≠ 0) := fun b hb => by
    rw [h.has b hb, hs]
    constructor
    · rintro ⟨e, hz⟩
      cases e
      exact ⟨rfl, hz⟩
    · rintro ⟨rfl, hz⟩
      exact ⟨rfl, hz⟩
  refine ⟨?_, fun b hb hi => ((hn b hb).1 hi).1⟩
  by_cases hz : s.size = 0
  · rw [List.filter_eq_nil_iff.2 (fun b hb hi => ((hn b hb).1 (of_decide_eq_true hi)).2 hz), hz]
    rfl
  · have e : out.filter (fun b => decide (inRect b r c)) = out.filter (fun b => decide (b.f0 = s)) := by
      apply List.filter_congr
      intro b hb
      have := hn b hb
      by_cases hi : inRect b r c
      · rw [decide_eq_true hi, decide_eq_true (this.1 hi).1]
      · rw [decide_eq_false hi, decide_eq_false (fun e => hi (this.2 ⟨e, hz⟩))]
    rw [e, filter_one h.nodup (h.all r c s hs hz)]
    omega
end Go.Proofs.YtofdhdafabmhmaaDoor.PureAr
end
section
/- AreaApart, as a statement on lists and numbers. Conditions: none beyond the argument's own kind. -/
namespace Go.Proofs.YtofdhdafabmhmaaDoor.PureAr
open Go.RowKit Go.Proofs.YtofdhdafabmhmaaDoorW.PrintWords Go.Proofs.YtofdhdafabmhmaaDoorW.PrintMore Go.Proofs.YtofdhdafabmhmaaDoor.Evs Go.Proofs.YtofdhdafabmhmaaDoor.Opn Go.Proofs.YtofdhdafabmhmaaDoor.PAr Go.Proofs.YtofdhdafabmhmaaDoor.Giv
section
variable {l0 : List (List ByteArray)}
theorem light_l1 {i : Nat} {row : List ByteArray} (hr : row.length ≤ 9000000000000) (x3 m : Int) {b : Bool} (h : Ev (fun k => parterrelaw08_Light.l0 k x3 l0 m (wrap64 ((i : Int) + 1))) b) : ∀ (n j : Nat), j + n = row.length → ∃ b, Ev (fun k => parterrelaw08_Light.l1 k x3 l0 m (i : Int) row (row.length : Int) (j : Int)) b
  | 0, j, hj => by
    refine ⟨b, ev_step ?_⟩
    simp only [parterrelaw08_Light.l1]
    exact ev_neg (by omega) h
  | n + 1, j, hj => by
    obtain ⟨b', hb⟩ := light_l1 hr x3 m h n (j + 1) (by omega)
    by_cases hs : ((rdOf ByteArray.empty row (j : Int)).size : Int) > 200
    · refine ⟨false, ev_step ?_⟩
      simp only [parterrelaw08_Light.l1]
      exact ev_pos (by omega) (ev_pos (by omega) (ev_pos (by omega) (ev_pos hs ev_some)))
    · refine ⟨b', ev_step ?_⟩
      simp only [parterrelaw08_Light.l1]
      rw [w64 (by omega) (by omega)]
      exact ev_pos (by omega) (ev_pos (by omega) (ev_pos (by omega) (ev_neg hs hb)))
theorem light_l0 (h0 : l0.length ≤ 9000000000000) (h1 : ∀ row ∈ l0, row.length ≤ 9000000000000) : ∀ (n i : Nat) (x3 : Int), i + n = l0.length → ∃ b, Ev (fun k => parterrelaw08_Light.l0 k x3 l0 (l0.length : Int) (i : Int)) b
  | 0, i, x3, hi => by
    refine ⟨true, ev_step ?_⟩
    simp only [parterrelaw08_Light.l0]
    exact ev_neg (by omega) ev_some
  | n + 1, i, x3, hi => by
    obtain ⟨row, hrow⟩ : ∃ row, l0[i]? = some row := ⟨_, List.getElem?_eq_getElem (by omega)⟩
    obtain ⟨b, hb⟩ := light_l0 h0 h1 n (i + 1) (wrap64 (x3 + (1 + (mn (row.length : Int) 2000)))) (by omega)
    obtain ⟨b', hb'⟩ := light_l1 (l0 := l0) (i := i) (h1 row (List.mem_of_getElem? hrow)) (wrap64 (x3 + (1 + (mn (row.length : Int) 2000)))) (l0.length : Int) (b := b) (by rw [show wrap64 ((i : Int) + 1) = ((i + 1 : Nat) : Int) by rw [w64 (by omega) (by omega)]; omega]; exact hb) row.length 0 (by omega)
    by_cases hs : (wrap64 (x3 + (1 + (mn (row.length : Int) 2000)))) > 1500
    · refine ⟨false, ev_step ?_⟩
      simp only [parterrelaw08_Light.l0]
      rw [lat l0 hrow]
      exact ev_pos (by omega) (ev_pos (by omega) (ev_pos (by omega) (ev_pos hs ev_some)))
    · refine ⟨b', ev_step ?_⟩
      simp only [parterrelaw08_Light.l0]
      rw [lat l0 hrow]
      exact ev_pos (by omega) (ev_pos (by omega) (ev_pos (by omega) (ev_neg hs hb')))
theorem light_ev (g : gSl 24 (gSl 16 gStr) l0) : ∃ b, Ev (fun k => parterrelaw08_Light.f k l0) b := by
  simp only [parterrelaw08_Light.f]
  exact light_l0 (by have := g.1; omega) (fun row hr => by have := (g.2 row hr).1; omega) l0.length 0 0 (by omega)
end
section
variable {l0 : List (List ByteArray)} {out : List S33}
theorem ap_w {j : Nat} (h : j ≤ 1000000) : wrap64 ((j : Int) + 1) = ((j + 1 : Nat) : Int) := by
  rw [w64 (by omega) (by omega)]
  omega
theorem ap_w2 {a b : Int} (h1 : 0 ≤ a) (h2 : a + b ≤ 1000000) (h3 : 1 ≤ b) : wrap64 (a + b) = a + b := w64 (by omega) (by omega)
theorem ap_q (q z : Nat) : q + 1 + z = q + (z + 1) := by omega
set_option maxHeartbeats 4000000 in
theorem ap_l2 {r c : Nat} {s : ByteArray} {x22 x23 x30 x31 : Int} {x29 : List ByteArray} (hd : ∀ b ∈ out, 0 ≤ b.f1 ∧ b.f1 < 1000000 ∧ 0 ≤ b.f2 ∧ b.f2 < 1000000 ∧ 1 ≤ b.f3 ∧ b.f1 + b.f3 ≤ 1000000 ∧ 1 ≤ b.f4 ∧ b.f2 + b.f4 ≤ 1000000) (hs : ∀ b ∈ out, inRect b r c → b.f0 = s) (ho : out.length ≤ 1000000)
    (h : Ev (fun k => parterrelaw08_AreaApart.l1 k l0 out (r : Int) x22 x23 x29 x30 (wrap64 (x31 + 1))) true) : ∀ (n j : Nat) (q : Nat), j + n = out.length → q + ((out.drop j).filter (fun b => decide (inRect b r c))).length = min 1 s.size → Ev (fun k => parterrelaw08_AreaApart.l2 k l0 out (r : Int) (c : Int) s (q : Int) x22 x23 x29 x30 x31 out (out.length : Int) (j : Int)) true
  | 0, j, q, hj, hq => by
    refine ev_step ?_
    simp only [parterrelaw08_AreaApart.l2]
    rw [List.drop_of_length_le (by omega)] at hq
    simp only [List.filter_nil, List.length_nil, Nat.add_zero] at hq
    exact ev_neg (by omega) (ev_pos (by rw [mn_eq]; omega) h)
  | n + 1, j, q, hj, hq => by
    have p0 : j < out.length := by omega
    have p1 : (j : Int) < (out.length : Int) := by omega
    have p2 : 0 ≤ (j : Int) := by omega
    have p3 : j + 1 + n = out.length := by omega
    have p4 : j ≤ 1000000 := by omega
    have p5 : q ≤ 1 := by omega
    have w3 : wrap64 ((j : Int) + 1) = ((j + 1 : Nat) : Int) := ap_w p4
    have w5 : wrap64 ((q : Int) + 1) = ((q + 1 : Nat) : Int) := ap_w (by omega)
    obtain ⟨b, hb⟩ : ∃ b, out[j]? = some b := ⟨_, List.getElem?_eq_getElem p0⟩
    have hbm := List.mem_of_getElem? hb
    have hlt := (List.getElem?_eq_some_iff.1 hb).1
    have e1 : rd_T33 out (j : Int) = b := by
      unfold rd_T33
      rw [Int.toNat_natCast, List.getD_eq_getElem?_getD, hb]
      rfl
    have e2 : out.drop j = b :: out.drop (j + 1) := by rw [List.drop_eq_getElem_cons hlt, (List.getElem?_eq_some_iff.1 hb).2]
    rw [e2, List.filter_cons] at hq
    have db := hd b hbm
    have w1 : wrap64 (b.f1 + b.f3) = b.f1 + b.f3 := ap_w2 db.1 db.2.2.2.2.2.1 db.2.2.2.2.1
    have w2 : wrap64 (b.f2 + b.f4) = b.f2 + b.f4 := ap_w2 db.2.2.1 db.2.2.2.2.2.2.2 db.2.2.2.2.2.2.1
    have no : ¬ inRect b r c → Ev (fun k => parterrelaw08_AreaApart.j4 k l0 out (r : Int) (c : Int) s (q : Int) x22 x23 x29 x30 x31 out (out.length : Int) (j : Int) false b.f0 b.f1 b.f2 b.f3 b.f4) true := fun hi => by
      refine ev_step ?_
      simp only [parterrelaw08_AreaApart.j4]
      rw [if_neg (by simpa using hi)] at hq
      refine ev_neg (by decide) ?_
      rw [w3]
      exact ap_l2 hd hs ho h n (j + 1) q p3 hq
    refine ev_step ?_
    simp only [parterrelaw08_AreaApart.l2]
    rw [e1, w1, w2]
    refine ev_pos p1 (ev_pos p2 (ev_pos p1 (ev_ite (fun a1 => ev_ite (fun a2 => ev_ite (fun a3 => ?_) (fun a3 => no ?_)) (fun a2 => no ?_)) (fun a1 => no ?_))))
    · by_cases a4 : (c : Int) < b.f2 + b.f4
      · have hi : inRect b r c := ⟨a1, a2, a3, a4⟩
        rw [decide_eq_true a4]
        refine ev_step ?_
        simp only [parterrelaw08_AreaApart.j4]
        rw [if_pos (by simpa using hi), List.length_cons] at hq
        refine ev_pos (by trivial) (ev_pos (by rw [hs b hbm hi]) ?_)
        rw [w3, w5]
        exact ap_l2 hd hs ho h n (j + 1) (q + 1) p3 ((ap_q _ _).trans hq)
      · rw [decide_eq_false a4]
        exact no (fun hi => a4 hi.2.2.2)
    · exact fun hi => a3 hi.2.2.1
    · exact fun hi => a2 hi.2.1
    · exact fun hi => a1 hi.1
theorem ap_l1 {r : Nat} {row : List ByteArray} (ha : AreasA l0 out) (hrow : l0[r]? = some row) (hr : row.length ≤ 1000000) (ho : out.length ≤ 1000000)
    (h : Ev (fun k => parterrelaw08_AreaApart.l0 k l0 out (l0.length : Int) (wrap64 ((r : Int) + 1))) true) : ∀ (n c : Nat), c + n = row.length → Ev (fun k => parterrelaw08_AreaApart.l1 k l0 out (r : Int) (l0.length : Int) (r : Int) row (row.length : Int) (c : Int)) true
  | 0, c, hc => by
    refine ev_step ?_
    simp only [parterrelaw08_AreaApart.l1]
    exact ev_neg (by omega) h
  | n + 1, c, hc => by
    refine ev_step ?_
    simp only [parterrelaw08_AreaApart.l1]
    obtain ⟨s, hs⟩ : ∃ s, row[c]? = some s := ⟨_, List.getElem?_eq_getElem (by omega)⟩
    have hat : arAt l0 r c = some s := by unfold arAt; rw [hrow]; exact hs
    obtain ⟨k1, k2⟩ := rects_count ha hat
    rw [sat row hs]
    have ih := ap_l1 ha hrow hr ho h n (c + 1) (by omega)
    refine ev_pos (by omega) (ev_pos (by omega) (ev_pos (by omega) ?_))
    have := ap_l2 (l0 := l0) (x22 := (l0.length : Int)) (x23 := (r : Int)) (x30 := (row.length : Int)) (x31 := (c : Int)) (x29 := row) ha.dims k2 ho (by rw [w64 (by omega) (by omega)]; exact ih) out.length 0 0 (by omega) (by rw [List.drop_zero, k1]; omega)
    exact this
theorem ap_l0 (ha : AreasA l0 out) (hg : GoodA l0) (ho : out.length ≤ 1000000) : ∀ (n r : Nat), r + n = l0.length → Ev (fun k => parterrelaw08_AreaApart.l0 k l0 out (l0.length : Int) (r : Int)) true
  | 0, r, hr => by
    refine ev_step ?_
    simp only [parterrelaw08_AreaApart.l0]
    exact ev_neg (by omega) (ev_bind lives_ev ev_some)
  | n + 1, r, hr => by
    refine ev_step ?_
    simp only [parterrelaw08_AreaApart.l0]
    obtain ⟨row, hrow⟩ : ∃ row, l0[r]? = some row := ⟨_, List.getElem?_eq_getElem (by omega)⟩
    have h1 := (hg.row row (List.mem_of_getElem? hrow)).2.1
    have hn := hg.n
    rw [lat l0 hrow]
    have ih := ap_l0 ha hg ho n (r + 1) (by omega)
    exact ev_pos (by omega) (ev_pos (by omega) (ev_pos (by omega) (ap_l1 ha hrow (by omega) ho (by rw [w64 (by omega) (by omega)]; exact ih) row.length 0 (by omega))))
end
theorem out_len {l0 : List (List ByteArray)} (hg : GoodA l0) : (boxR l0).1.length ≤ 4096 := by
  have h1 := cells_len 64 l0 0 (fun l hl => (hg.row l hl).2.1)
  have h2 : (boxR l0).1.length = (arFirsts (area_boxes.cells l0 0)).length := by rw [← (box_inv hg.n (fun l hl => (hg.row l hl).2.1)).names, List.length_map]
  have h3 := firsts_len (area_boxes.cells l0 0)
  have := hg.n
  omega
end Go.Proofs.YtofdhdafabmhmaaDoor.PureAr
namespace Go.Proofs.YtofdhdafabmhmaaDoor.Pure
open Go.RowKit Go.Proofs.YtofdhdafabmhmaaDoorW.PrintWords Go.Proofs.YtofdhdafabmhmaaDoorW.PrintMore Go.Proofs.YtofdhdafabmhmaaDoor.Evs Go.Proofs.YtofdhdafabmhmaaDoor.Opn Go.Proofs.YtofdhdafabmhmaaDoor.PAr Go.Proofs.YtofdhdafabmhmaaDoor.Giv Go.Proofs.YtofdhdafabmhmaaDoor.PureAr
theorem AreaApart : parterrelaw08_AreaApart.Pure := by
  intro l0 g
  refine Ev.rounds ?_
  simp only [parterrelaw08_AreaApart.f]
  obtain ⟨b, hb⟩ := light_ev g
  have triv : Ev (fun k => parterrelaw08_AreaApart.j0 k l0 true) true := by
    refine ev_step ?_
    simp only [parterrelaw08_AreaApart.j0]
    exact ev_pos (by trivial) (ev_bind lives_ev ev_some)
  refine ev_bind hb (ev_ite (fun _ => ?_) (fun _ => triv))
  refine ev_bind (good_ev l0) ?_
  cases hg : goodB l0 with
  | false => exact triv
  | true =>
    refine ev_step ?_
    simp only [parterrelaw08_AreaApart.j0]
    have hG := good_of hg
    have hl := out_len hG
    exact ev_neg (by decide) (ev_bind (rects_ev hg) (ap_l0 (areas_of hG) hG (by omega) l0.length 0 (by omega)))
end Go.Proofs.YtofdhdafabmhmaaDoor.Pure
end
section
/- Quoted texts with blanks between them, as the lexer reads them. Conditions: as each theorem says. -/
namespace Go.Proofs.YtofdhdafabmhmaaDoor.PureLx
open Go.RowKit Go.Proofs.YtofdhdafabmhmaaDoorW.PrintWords Go.Proofs.YtofdhdafabmhmaaDoorW.PrintMore Go.Proofs.YtofdhdafabmhmaaDoor.Evs Go.Proofs.YtofdhdafabmhmaaDoor.Opn Go.Proofs.YtofdhdafabmhmaaDoor.PAr Go.Proofs.YtofdhdafabmhmaaDoor.Giv
def ident_digit.f (a0 : Int) : Option Bool := if a0 ≥ 48 then (some (decide (a0 ≤ 57))) else (some false)
/-! ### Bytes at a place -/
def At (T : ByteArray) (p : Nat) (L : List UInt8) : Prop := ∃ pre post, T.data.toList = pre ++ (L ++ post) ∧ pre.length = p
section
variable {T : ByteArray} {p : Nat} {c : UInt8} {A B L : List UInt8}
theorem bt_list {s : ByteArray} {i : Nat} (h : s.data.toList[i]? = some c) : i < s.size ∧ bt s (i : Int) = (c.toNat : Int) := by
  obtain ⟨h1, h2⟩ := List.getElem?_eq_some_iff.1 h
  have h3 : i < s.size := by rw [data_length] at h1; exact h1
  refine ⟨h3, ?_⟩
  rw [← bt_at s (i : Int) (by simpa using h3), ← h2]
  simp
  rfl
theorem At.get (h : At T p (c :: L)) : p < T.size ∧ bt T (p : Int) = (c.toNat : Int) := by
  obtain ⟨pre, post, he, rfl⟩ := h
  refine bt_list ?_
  rw [he, List.getElem?_append_right (Nat.le_refl _), Nat.sub_self]
  rfl
theorem At.tail (h : At T p (c :: L)) : At T (p + 1) L := by
  obtain ⟨pre, post, he, rfl⟩ := h
  exact ⟨pre ++ [c], post, by rw [he]; simp, by simp⟩
theorem At.left (h : At T p (A ++ B)) : At T p A := by
  obtain ⟨pre, post, he, rfl⟩ := h
  exact ⟨pre, B ++ post, by rw [he]; simp, rfl⟩
theorem At.right (h : At T p (A ++ B)) : At T (p + A.length) B := by
  obtain ⟨pre, post, he, rfl⟩ := h
  exact ⟨pre ++ A, post, by rw [he]; simp, by simp⟩
theorem At.size (h : At T p L) : p + L.length ≤ T.size := by
  obtain ⟨pre, post, he, rfl⟩ := h
  rw [← data_length, he]
  simp only [List.length_append]
  omega
theorem At.ext (h : At T p L) : At (T.extract p T.size) 0 L := by
  obtain ⟨pre, post, he, rfl⟩ := h
  refine ⟨[], post, ?_, rfl⟩
  have h1 : T.data.size = T.size := rfl
  rw [ByteArray.data_extract, Array.toList_extract, List.extract_eq_take_drop, he, List.drop_left, ← h1, ← Array.length_toList, he, List.nil_append]
  exact List.take_of_length_le (by simp only [List.length_append]; omega)
end

/-! ### The 256 bytes -/
def escB (c : Int) : Bool := match ident_escaped.f c with
  | some r => (match r.data.toList with
    | [x, h, y] => x == 92 && (y == 32 && (token_hex.f 3 (h.toNat : Int) == some c && (token_feed.f (h.toNat : Int) == some false && h != 0)))
    | [x, h, g, y] => x == 92 && (y == 32 && ((match token_hex.f 3 (h.toNat : Int), token_hex.f 3 (g.toNat : Int) with
      | some a, some b => decide (0 ≤ a) && (decide (a ≤ 15) && (decide (0 ≤ b) && a * 16 + b == c))
      | _, _ => false) && (token_feed.f (h.toNat : Int) == some false && h != 0)))
    | _ => false)
  | none => false
def fineL (c : Int) : Bool := token_lexer_ident_1.f c == some true && (decide (c ≠ 45) && (token_blank.f c == some false && (token_feed.f c == some false && (number_digit.f c == some false && decide (c ≠ 43 ∧ c ≠ 46 ∧ c ≠ 47 ∧ c ≠ 34 ∧ c ≠ 39 ∧ c ≠ 92)))))
def fineO (c : Int) : Bool := token_hex.f 3 c == some (-1) && (token_feed.f c == some false && decide (c ≠ 0))
def fine (c : Int) : Bool := (token_Letter.f c).isSome && ((ident_digit.f c).isSome && ((ident_control.f c).isSome && ((ident_escaped.f c).isSome && ((token_Letter.f c != some true || fineL c) && ((ident_digit.f c != some true || token_lexer_ident_1.f c == some true) &&
  ((token_Letter.f c == some true || (ident_digit.f c == some true || (ident_control.f c == some true || fineO c))) && (escB c && ((ident_control.f c == some true || token_feed.f c == some false) && ((ident_control.f c != some true || decide (c < 128)) && (ident_digit.f c != some true || decide (c < 128)))))))))))
theorem fine_all : (List.range 256).all (fun n => fine (n : Int)) = true := by decide +kernel
theorem chr_all : (List.range 128).all (fun n => n == 0 || decide (token_character.f 6 (n : Int) = some (⟨#[UInt8.ofNat n]⟩ : ByteArray))) = true := by decide +kernel
theorem fine_of (c : UInt8) : fine (c.toNat : Int) = true := List.all_eq_true.1 fine_all c.toNat (List.mem_range.2 c.toNat_lt)
structure Told (c : UInt8) : Prop where
  ex : ∃ t1 t2 t3 t4, token_Letter.f (c.toNat : Int) = some t1 ∧ ident_digit.f (c.toNat : Int) = some t2 ∧ ident_control.f (c.toNat : Int) = some t3 ∧ ident_escaped.f (c.toNat : Int) = some t4
  letter : token_Letter.f (c.toNat : Int) = some true → fineL (c.toNat : Int) = true
  digit : ident_digit.f (c.toNat : Int) = some true → token_lexer_ident_1.f (c.toNat : Int) = some true
  other : token_Letter.f (c.toNat : Int) ≠ some true → ident_digit.f (c.toNat : Int) ≠ some true → ident_control.f (c.toNat : Int) ≠ some true → fineO (c.toNat : Int) = true
  esc : escB (c.toNat : Int) = true
  feed : ident_control.f (c.toNat : Int) ≠ some true → token_feed.f (c.toNat : Int) = some false
  c128 : ident_control.f (c.toNat : Int) = some true → (c.toNat : Int) < 128
  d128 : ident_digit.f (c.toNat : Int) = some true → (c.toNat : Int) < 128
theorem told (c : UInt8) : Told c := by
  have h := fine_of c
  simp only [fine, Bool.and_eq_true, Bool.or_eq_true, beq_iff_eq, bne_iff_ne, decide_eq_true_eq] at h
  obtain ⟨h1, h2, h3, h4, h5, h6, h7, h8, h9, h10, h11⟩ := h
  obtain ⟨t1, e1⟩ := Option.isSome_iff_exists.1 h1
  obtain ⟨t2, e2⟩ := Option.isSome_iff_exists.1 h2
  obtain ⟨t3, e3⟩ := Option.isSome_iff_exists.1 h3
  obtain ⟨t4, e4⟩ := Option.isSome_iff_exists.1 h4
  refine ⟨⟨t1, t2, t3, t4, e1, e2, e3, e4⟩, fun h => h5.resolve_left (fun g => g h), fun h => h6.resolve_left (fun g => g h), fun g1 g2 g3 => ((h7.resolve_left g1).resolve_left g2).resolve_left g3, h8, fun g => h9.resolve_left g, fun h => h10.resolve_left (fun g => g h), fun h => h11.resolve_left (fun g => g h)⟩
theorem chr_ev (c : UInt8) (h0 : c ≠ 0) (h1 : (c.toNat : Int) < 128) : Ev (fun k => token_character.f k (c.toNat : Int)) (⟨#[c]⟩ : ByteArray) := by
  have h := List.all_eq_true.1 chr_all c.toNat (List.mem_range.2 (by omega))
  simp only [Bool.or_eq_true, beq_iff_eq, decide_eq_true_eq] at h
  have h2 := h.resolve_left (fun e => h0 (UInt8.toNat_inj.1 (by simpa using e)))
  rw [UInt8.ofNat_toNat] at h2
  exact Ev.of (token_character.mono _) h2
theorem hexv {c : UInt8} {v : Int} (h : token_hex.f 3 (c.toNat : Int) = some v) : Ev (fun k => token_hex.f k (c.toNat : Int)) v := Ev.of (token_hex.mono _) h

theorem esc_cases {c : Int} {t : ByteArray} (he : escB c = true) (ht : ident_escaped.f c = some t) :
    (∃ h, t.data.toList = [92, h, 32] ∧ token_hex.f 3 (h.toNat : Int) = some c ∧ token_feed.f (h.toNat : Int) = some false ∧ h ≠ 0) ∨
    (∃ h g a b, t.data.toList = [92, h, g, 32] ∧ token_hex.f 3 (h.toNat : Int) = some a ∧ token_hex.f 3 (g.toNat : Int) = some b ∧ 0 ≤ a ∧ a ≤ 15 ∧ 0 ≤ b ∧ a * 16 + b = c ∧ token_feed.f (h.toNat : Int) = some false ∧ h ≠ 0) := by
  unfold escB at he
  rw [ht] at he
  dsimp only at he
  split at he
  · rename_i x h y e
    simp only [Bool.and_eq_true, beq_iff_eq, bne_iff_ne] at he
    obtain ⟨rfl, rfl, e1, e2, e3⟩ := he
    exact Or.inl ⟨h, e, e1, e2, e3⟩
  · rename_i x h g y e
    simp only [Bool.and_eq_true, beq_iff_eq, bne_iff_ne] at he
    obtain ⟨rfl, rfl, he, e2, e3⟩ := he
    split at he
    · rename_i a b ea eb
      simp only [Bool.and_eq_true, decide_eq_true_eq, beq_iff_eq] at he
      obtain ⟨a0, a15, b0, eab⟩ := he
      exact Or.inr ⟨h, g, a, b, e, ea, eb, a0, a15, b0, eab, e2, e3⟩
    · cases he
  · cases he

/-! ### Escapes -/
section
variable {T : ByteArray} {p : Nat} {c h g : UInt8} {L : List UInt8} {r : ByteArray × Int}
theorem hex_top (hT : T.size ≤ 1000000) (ha : At T p (92 :: h :: L)) (hf : token_feed.f (h.toNat : Int) = some false) (hr : Ev (fun k => token_Hex.l0 k T (p : Int) 0 0 0) r) : Ev (fun k => token_Hex.f k T (p : Int)) r := by
  obtain ⟨h1, h2⟩ := ha.get
  obtain ⟨h3, h4⟩ := ha.tail.get
  have e0 : wrap64 ((T.size : Int) - 2) = (T.size : Int) - 2 := w64 (by omega) (by omega)
  have e1 : wrap64 ((p : Int) + 1) = ((p + 1 : Nat) : Int) := by rw [w64 (by omega) (by omega)]; omega
  simp only [token_Hex.f, e0, e1]
  refine ev_neg (by omega) (ev_neg (by omega) (ev_pos (by omega) (ev_pos (by omega) (ev_pos h2 (ev_pos (by omega) (ev_pos (by omega) (ev_bindc (by rw [h4]; exact hf) (ev_step ?_))))))))
  simp only [token_Hex.j0]
  exact ev_neg (by decide) hr
theorem hex_none (hT : T.size ≤ 1000000) (h : p < T.size → bt T (p : Int) ≠ 92) : Ev (fun k => token_Hex.f k T (p : Int)) ((⟨#[]⟩ : ByteArray), (0 : Int)) := by
  have e0 : wrap64 ((T.size : Int) - 2) = (T.size : Int) - 2 := w64 (by omega) (by omega)
  have j0 : Ev (fun k => token_Hex.j0 k T (p : Int) true) ((⟨#[]⟩ : ByteArray), (0 : Int)) := ev_step (by simp only [token_Hex.j0]; exact ev_pos (by trivial) ev_some)
  simp only [token_Hex.f, e0]
  refine ev_neg (by omega) (ev_ite (fun _ => j0) (fun h1 => ev_pos (by omega) (ev_pos (by omega) (ev_neg (h (by omega)) j0))))
set_option maxHeartbeats 1000000 in
theorem l0_dig (hT : T.size ≤ 1000000) (n kk : Nat) (hn : n ≤ 1000) (hk : kk < 6) (ha : At T (p + 1 + kk) (h :: L)) {v : Int} (hv : token_hex.f 3 (h.toNat : Int) = some v) (h0 : 0 ≤ v) (h15 : v ≤ 255) (hr : Ev (fun k => token_Hex.l0 k T (p : Int) ((n : Int) * 16 + v) ((kk : Int) + 1) ((kk : Int) + 1)) r) :
    Ev (fun k => token_Hex.l0 k T (p : Int) (n : Int) (kk : Int) (kk : Int)) r := by
  obtain ⟨h1, h2⟩ := ha.get
  have e1 : wrap64 ((p : Int) + 1) = (p : Int) + 1 := w64 (by omega) (by omega)
  have e3 : wrap64 ((p : Int) + 1 + (kk : Int)) = ((p + 1 + kk : Nat) : Int) := by rw [w64 (by omega) (by omega)]; omega
  have e7 : wrap64 ((kk : Int) + 1) = (kk : Int) + 1 := w64 (by omega) (by omega)
  have e8 : wrap64 (wrap64 ((n : Int) * 16) + v) = (n : Int) * 16 + v := by rw [w64 (x := (n : Int) * 16) (by omega) (by omega), w64 (by omega) (by omega)]
  have HE := Aside0.mk e8
  clear e8
  refine ev_step ?_
  simp only [token_Hex.l0, e1, e3, e7]
  rw [h2]
  clear e1 e3 e7 h2
  refine ev_pos (by omega) (ev_neg (by omega) (ev_pos (by omega) (ev_pos (by omega) (ev_bind (hexv hv) (ev_neg (by omega) (ev_bind (hexv hv) ?_))))))
  rw [HE.out]
  exact hr
theorem l0_stop (hT : T.size ≤ 1000000) (n kk : Nat) (hk : kk < 6) (ha : At T (p + 1 + kk) (h :: L)) (hv : token_hex.f 3 (h.toNat : Int) = some (-1)) (hr : Ev (fun k => token_Hex.j2 k T (p : Int) (n : Int) (kk : Int)) r) :
    Ev (fun k => token_Hex.l0 k T (p : Int) (n : Int) (kk : Int) (kk : Int)) r := by
  obtain ⟨h1, h2⟩ := ha.get
  have e1 : wrap64 ((p : Int) + 1) = (p : Int) + 1 := w64 (by omega) (by omega)
  have e3 : wrap64 ((p : Int) + 1 + (kk : Int)) = ((p + 1 + kk : Nat) : Int) := by rw [w64 (by omega) (by omega)]; omega
  refine ev_step ?_
  simp only [token_Hex.l0, e1, e3]
  rw [h2]
  exact ev_pos (by omega) (ev_neg (by omega) (ev_pos (by omega) (ev_pos (by omega) (ev_bind (hexv hv) (ev_pos (by decide) hr)))))
theorem j2_sp (hT : T.size ≤ 1000000) (n kk : Nat) (hk0 : 0 < kk) (hk : kk < 6) (ha : At T (p + 1 + kk) (32 :: L)) {x : ByteArray} (hx : Ev (fun k => token_character.f k (n : Int)) x) :
    Ev (fun k => token_Hex.j2 k T (p : Int) (n : Int) (kk : Int)) (x, (kk : Int) + 2) := by
  obtain ⟨h1, h2⟩ := ha.get
  have e1 : wrap64 ((p : Int) + 1) = (p : Int) + 1 := w64 (by omega) (by omega)
  have e3 : wrap64 ((p : Int) + 1 + (kk : Int)) = ((p + 1 + kk : Nat) : Int) := by rw [w64 (by omega) (by omega)]; omega
  have e4 : wrap64 (wrap64 (((p + 1 + kk : Nat) : Int) + 1) - (p : Int)) = (kk : Int) + 2 := by rw [w64 (x := ((p + 1 + kk : Nat) : Int) + 1) (by omega) (by omega), w64 (by omega) (by omega)]; omega
  refine ev_step ?_
  simp only [token_Hex.j2, e1, e3, e4]
  rw [h2]
  exact ev_neg (by omega) (ev_pos (by omega) (ev_pos (by omega) (ev_bindc (by decide : token_blank.f (((32 : UInt8).toNat : Nat) : Int) = some true) (ev_pos (by trivial) (ev_bind hx ev_some)))))
theorem hexO (hT : T.size ≤ 1000000) (ha : At T p [92, c]) (ho : fineO (c.toNat : Int) = true) : Ev (fun k => token_Hex.f k T (p : Int)) ((⟨#[c]⟩ : ByteArray), (2 : Int)) := by
  simp only [fineO, Bool.and_eq_true, beq_iff_eq] at ho
  refine hex_top hT ha ho.2.1 (l0_stop hT 0 0 (by decide) ha.tail ho.1 (ev_step ?_))
  have hs := ha.size
  have e1 : wrap64 ((p : Int) + 1) = (p : Int) + 1 := w64 (by omega) (by simp at hs; omega)
  have e2 : wrap64 ((p : Int) + 2) = (p : Int) + 2 := w64 (by omega) (by simp at hs; omega)
  simp only [token_Hex.j2, e1, e2]
  simp at hs
  refine ev_pos rfl (ev_pos (by omega) (ev_pos (by omega) (ev_pos (by omega) (ev_eq ?_))))
  have : T.extract ((p : Int) + 1).toNat ((p : Int) + 2).toNat = ⟨#[c]⟩ := by
    obtain ⟨pre, post, he, rfl⟩ := ha
    apply Go.WideShapes.bytes_inj
    rw [ByteArray.data_extract, Array.toList_extract, List.extract_eq_take_drop, he, (by omega : ((pre.length : Int) + 1).toNat = pre.length + 1), (by omega : ((pre.length : Int) + 2).toNat = pre.length + 2), ← List.drop_drop, List.drop_left]
    simp
  rw [this]
theorem hexE (hT : T.size ≤ 1000000) {t : ByteArray} (ht : ident_escaped.f (c.toNat : Int) = some t) (h0 : c ≠ 0) (h128 : (c.toNat : Int) < 128) (ha : At T p t.data.toList) : Ev (fun k => token_Hex.f k T (p : Int)) ((⟨#[c]⟩ : ByteArray), (t.size : Int)) ∧ ∃ h L, t.data.toList = 92 :: h :: L ∧ h ≠ 0 := by
  have he := (told c).esc
  have hx := chr_ev c h0 h128
  have hz : t.size = t.data.toList.length := (data_length t).symm
  rw [hz]
  rcases esc_cases he ht with ⟨h, hl, e1, e2, e3⟩ | ⟨h, g, a, b, hl, e5, e6, a0, a15, b0, eab, e2, e3⟩
  · rw [hl] at ha ⊢
    refine ⟨?_, h, [32], rfl, e3⟩
    have q2 : Ev (fun k => token_Hex.l0 k T (p : Int) (c.toNat : Int) ((1 : Nat) : Int) ((1 : Nat) : Int)) ((⟨#[c]⟩ : ByteArray), (3 : Int)) := ev_cast (l0_stop (p := p) hT c.toNat 1 (by decide) ha.tail.tail (by decide) (j2_sp hT c.toNat 1 (by decide) (by decide) ha.tail.tail hx)) rfl
    have e : ((0 : Nat) : Int) * 16 + (c.toNat : Int) = (c.toNat : Int) := by omega
    exact hex_top hT ha e2 (l0_dig (p := p) hT 0 0 (by decide) (by decide) ha.tail e1 (by omega) (by omega) (by rw [e]; exact q2))
  · rw [hl] at ha ⊢
    refine ⟨?_, h, [g, 32], rfl, e3⟩
    have q3 : Ev (fun k => token_Hex.l0 k T (p : Int) (c.toNat : Int) ((2 : Nat) : Int) ((2 : Nat) : Int)) ((⟨#[c]⟩ : ByteArray), (4 : Int)) := ev_cast (l0_stop (p := p) hT c.toNat 2 (by decide) ha.tail.tail.tail (by decide) (j2_sp hT c.toNat 2 (by decide) (by decide) ha.tail.tail.tail hx)) rfl
    have e1 : ((0 : Nat) : Int) * 16 + a = (a.toNat : Int) := by omega
    have e4 : ((a.toNat : Nat) : Int) * 16 + b = (c.toNat : Int) := by omega
    have q2 : Ev (fun k => token_Hex.l0 k T (p : Int) (a.toNat : Int) ((1 : Nat) : Int) ((1 : Nat) : Int)) ((⟨#[c]⟩ : ByteArray), (4 : Int)) := l0_dig (p := p) hT a.toNat 1 (by omega) (by decide) ha.tail.tail e6 b0 (by omega) (by rw [e4]; exact q3)
    exact hex_top hT ha e2 (l0_dig (p := p) hT 0 0 (by decide) (by decide) ha.tail e5 a0 (by omega) (by rw [e1]; exact q2))
end

/-! ### Identifiers, quoted texts -/
section
variable {T : ByteArray} {p : Nat} {c h : UInt8} {L acc : List UInt8} {r : List UInt8 × Nat} {e : Int}
theorem is_at (f : Int → Option Bool) (ha : At T p (c :: L)) : isF f T p = f (c.toNat : Int) := by
  obtain ⟨h1, h2⟩ := ha.get
  unfold isF
  rw [if_pos h1, h2]
theorem esc_yes (ha : At T p (92 :: h :: L)) (h0 : h ≠ 0) {x : ByteArray} {n : Int} (hx : Ev (fun k => token_Hex.f k T (p : Int)) (x, n)) (hn : n > 0) : Ev (fun k => escF k T p) true := by
  obtain ⟨h1, h2⟩ := ha.tail.get
  unfold escF
  refine ev_bind hx (ev_pos hn (ev_pos h1 (ev_eq ?_)))
  rw [h2]
  rw [bne_iff_ne]
  intro e
  exact h0 (UInt8.toNat_inj.1 (by simpa using e))
theorem esc_no (hT : T.size ≤ 1000000) (h : p < T.size → bt T (p : Int) ≠ 92) : Ev (fun k => escF k T p) false := by
  unfold escF
  exact ev_bind (hex_none hT h) (ev_neg (by decide) ev_some)
theorem byteAt_at (ha : At T p (c :: L)) : byteAt T p = c := by
  unfold byteAt
  rw [ha.get.2]
  simp
theorem q_plain (hf : token_feed.f (c.toNat : Int) = some false) (h0 : c ≠ 0) (h92 : c ≠ 92) (he : (c.toNat : Int) ≠ e) (ha : At T p (c :: L)) (hl : acc.length ≤ 10000000) (hr : Ev (fun k => quotF k T (p + 1) (acc ++ [c]) e) r) : Ev (fun k => quotF k T p acc e) r := by
  refine ev_step ?_
  simp only [quotF]
  obtain ⟨h1, h2⟩ := ha.get
  rw [h2, byteAt_at ha]
  refine ev_pos h1 (ev_neg he (ev_bindc hf (ev_neg (by decide) (ev_neg ?_ (ev_neg ?_ (ev_pos hl hr))))))
  · intro e
    exact h0 (UInt8.toNat_inj.1 (by simpa using e))
  · intro e
    refine h92 (UInt8.toNat_inj.1 ?_)
    have : (c.toNat : Int) = 92 := e
    show c.toNat = 92
    omega
theorem q_esc (ha : At T p (92 :: h :: L)) (h0 : h ≠ 0) (he : (92 : Int) ≠ e) {x : ByteArray} {n : Nat} (hx : Ev (fun k => token_Hex.f k T (p : Int)) (x, (n : Int))) (hn : n > 0) (hs : p + n ≤ T.size) (hl : acc.length + x.size ≤ 10000000) (hr : Ev (fun k => quotF k T (p + n) (acc ++ x.data.toList) e) r) : Ev (fun k => quotF k T p acc e) r := by
  refine ev_step ?_
  simp only [quotF]
  obtain ⟨h1, h2⟩ := ha.get
  have h3 : bt T (p : Int) = 92 := h2
  rw [h3]
  refine ev_pos h1 (ev_neg he (ev_bindc (by decide : token_feed.f 92 = some false) (ev_neg (by decide) (ev_neg (by decide) (ev_pos rfl (ev_bind (esc_yes ha h0 hx (by omega)) (ev_pos rfl (ev_bind hx (ev_pos (by omega) (ev_pos (by simpa using hs) (ev_pos hl ?_))))))))))) 
  simpa using hr
theorem q_end (ha : At T p (c :: L)) (he : (c.toNat : Int) = e) : Ev (fun k => quotF k T p acc e) (acc, p + 1) := by
  refine ev_step ?_
  simp only [quotF]
  obtain ⟨h1, h2⟩ := ha.get
  rw [h2]
  exact ev_pos h1 (ev_pos he ev_some)
end

/-! ### Blanks, words -/
section
variable {T : ByteArray} {p : Nat} {c h : UInt8} {L : List UInt8}
theorem sk_end : Ev (fun k => skipF k T T.size) T.size := by
  refine ev_step ?_
  simp only [skipF]
  exact ev_neg (Nat.lt_irrefl _) ev_some
theorem sk_blank (ha : At T p (c :: L)) (hb : token_blank.f (c.toNat : Int) = some true) {r : Nat} (hr : Ev (fun k => skipF k T (p + 1)) r) : Ev (fun k => skipF k T p) r := by
  obtain ⟨h1, h2⟩ := ha.get
  refine ev_step ?_
  simp only [skipF]
  rw [h2]
  exact ev_pos h1 (ev_bindc hb (ev_pos rfl hr))
theorem no_comment (ha : At T p (c :: L)) (h47 : c ≠ 47) : strings_HasPrefix.f (T.extract p T.size) (⟨#[47, 42]⟩ : ByteArray) = some false := by
  obtain ⟨pre, post, he, h0⟩ := ha.ext
  obtain rfl := List.eq_nil_of_length_eq_zero h0
  generalize T.extract p T.size = E at he ⊢
  unfold strings_HasPrefix.f stringslite_HasPrefix.f
  by_cases hz : (E.size : Int) ≥ ((⟨#[47, 42]⟩ : ByteArray).size : Int)
  · rw [if_pos hz, if_pos (by omega), if_pos hz]
    show some ((E.extract 0 2).toList == (⟨#[47, 42]⟩ : ByteArray).toList) = some false
    rw [ByteArray.toList_eq, ByteArray.toList_eq, ByteArray.data_extract, Array.toList_extract, List.extract_eq_take_drop, he]
    simp
    intro e
    exact absurd e h47
  · rw [if_neg hz]
    rfl
theorem sk_stop (ha : At T p (c :: L)) (hb : token_blank.f (c.toNat : Int) = some false) (h47 : c ≠ 47) : Ev (fun k => skipF k T p) p := by
  obtain ⟨h1, h2⟩ := ha.get
  refine ev_step ?_
  simp only [skipF]
  rw [h2]
  exact ev_pos h1 (ev_bindc hb (ev_neg (by decide) (ev_bindc (no_comment ha h47) (ev_neg (by decide) ev_some))))
def NoNum (c : UInt8) : Prop := number_digit.f (c.toNat : Int) = some false ∧ c ≠ 46
theorem scan0 (hT : T.size ≤ 1000000) (ha : At T p (c :: L)) (hc : NoNum c) (h43 : c ≠ 43) (h45 : c = 45 → ∃ g L', L = g :: L' ∧ NoNum g) : number_Scan.f (T.extract p T.size) = some 0 := by
  have hE : (T.extract p T.size).size ≤ 140737488351232 := by rw [ByteArray.size_extract]; omega
  have hb := ha.ext
  generalize T.extract p T.size = E at hb hE ⊢
  obtain ⟨g1, g2⟩ := hb.get
  have key : number_parts.w1 E = number_parts.w0 E ∧ number_parts.at2 E = number_parts.w1 E := by
    have d46 : ∀ {x : UInt8}, x ≠ 46 → ((x.toNat : Int) == 46) = false := fun {x} hx => by
      rw [beq_eq_false_iff_ne]
      intro e
      exact hx (UInt8.toNat_inj.1 (by have : (x.toNat : Int) = 46 := e; show x.toNat = 46; omega))
    by_cases h : c = 45
    · obtain ⟨g, L', rfl, hg⟩ := h45 h
      obtain ⟨g3, g4⟩ := hb.tail.get
      subst h
      have e0 : number_parts.w0 E = 1 := by
        unfold number_parts.w0 number_parts.sgn number_parts.isSign
        rw [decide_eq_true g1, show bt E ((0 : Nat) : Int) = 45 from g2]
        rfl
      have e1 : number_parts.w1 E = 1 := by
        unfold number_parts.w1
        rw [e0]
        exact number_parts.stop_here E 1 g3 (by rw [show bt E ((1 : Nat) : Int) = _ from g4, hg.1]; decide)
      have e2 : number_parts.isDot E 1 = false := by
        unfold number_parts.isDot
        rw [show bt E ((1 : Nat) : Int) = _ from g4, d46 hg.2, Bool.and_false]
      refine ⟨by rw [e0, e1], ?_⟩
      unfold number_parts.at2
      rw [e1, e2]
      rfl
    · have e0 : number_parts.w0 E = 0 := by
        unfold number_parts.w0 number_parts.sgn number_parts.isSign
        rw [show bt E ((0 : Nat) : Int) = _ from g2]
        have a1 : ((c.toNat : Int) == 43) = false := by
          rw [beq_eq_false_iff_ne]
          intro e
          exact h43 (UInt8.toNat_inj.1 (by have : (c.toNat : Int) = 43 := e; show c.toNat = 43; omega))
        have a2 : ((c.toNat : Int) == 45) = false := by
          rw [beq_eq_false_iff_ne]
          intro e
          exact h (UInt8.toNat_inj.1 (by have : (c.toNat : Int) = 45 := e; show c.toNat = 45; omega))
        rw [a1, a2]
        simp
      have e1 : number_parts.w1 E = 0 := by
        unfold number_parts.w1
        rw [e0]
        exact number_parts.stop_here E 0 g1 (by rw [show bt E ((0 : Nat) : Int) = _ from g2, hc.1]; decide)
      have e2 : number_parts.isDot E 0 = false := by
        unfold number_parts.isDot
        rw [show bt E ((0 : Nat) : Int) = _ from g2, d46 hc.2, Bool.and_false]
      refine ⟨by rw [e0, e1], ?_⟩
      unfold number_parts.at2
      rw [e1, e2]
      rfl
  unfold number_Scan.f number_parts.f
  rw [if_pos hE, if_pos key]
  rfl
theorem beg_no (hT : T.size ≤ 1000000) (ha : At T p (c :: L)) (h45 : token_lexer_begins_1.f (c.toNat : Int) = some false) (hl : token_Letter.f (c.toNat : Int) = some false) (h92 : (c.toNat : Int) ≠ 92) : Ev (fun k => begF k T p) false := by
  unfold begF
  exact ev_bindc ((is_at _ ha).trans h45) (ev_neg (by decide) (ev_bindc ((is_at _ ha).trans hl) (ev_neg (by decide) (esc_no hT (fun _ => by rw [ha.get.2]; exact h92)))))
theorem w_quote (ha : At T p (34 :: L)) (hs : number_Scan.f (T.extract p T.size) = some 0) (hb : Ev (fun k => begF k T p) false) {l : List UInt8} {j : Nat} (hi : Ev (fun k => quotF k T (p + 1) [] 34) (l, j)) (hl : l.length ≤ 8192) (hj : j ≤ T.size) :
    Ev (fun k => wordF k T p) ((6 : Int), (⟨l.toArray⟩ : ByteArray), (⟨#[]⟩ : ByteArray), j) := by
  have h34 : bt T (p : Int) = 34 := ha.get.2
  simp only [wordF]
  rw [h34]
  exact ev_pos ha.get.1 (ev_bindc hs (ev_neg (by decide) (ev_bind hb (ev_neg (by decide) (ev_pos (Or.inl rfl) (ev_bind hi (ev_pos ⟨hl, hj⟩ ev_some)))))))
theorem tk_step {out : List S67} {r : List S67} {kd : Int} {tx nm : ByteArray} {j j2 : Nat} (hp : p < T.size) (ho : out.length < 65536) (hw : Ev (fun k => wordF k T p) (kd, tx, nm, j)) (hj : j ≤ T.size) (hs : Ev (fun k => skipF k T j) j2) (hj2 : j2 ≤ T.size)
    (hr : Ev (fun k => token_Tokens.l0 k T j2 (out ++ [⟨kd, (p : Int), tx, nm⟩])) r) : Ev (fun k => token_Tokens.l0 k T p out) r := by
  refine ev_step ?_
  simp only [token_Tokens.l0]
  exact ev_pos hp (ev_pos ho (ev_bind hw (ev_pos hj (ev_bind hs (ev_pos hj2 hr)))))
theorem tk_end {out : List S67} : Ev (fun k => token_Tokens.l0 k T T.size out) (out ++ [⟨8, (T.size : Int), ⟨#[]⟩, ⟨#[]⟩⟩]) := by
  refine ev_step ?_
  simp only [token_Tokens.l0]
  exact ev_neg (Nat.lt_irrefl _) ev_some
theorem strOf_bytes (T : ByteArray) : strOfNums (bytesOf T) = T := by
  apply Go.WideShapes.bytes_inj
  show (bytesOf T).map (fun n => UInt8.ofNat n.toNat) = _
  unfold bytesOf
  rw [List.map_map]
  conv => rhs; rw [← List.map_id T.data.toList]
  refine List.map_congr_left fun b _ => ?_
  simp
theorem tokens_ev {i : Nat} {r : List S67} (hT : T.size ≤ 262144) (hs : Ev (fun k => skipF k T 0) i) (hi : i ≤ T.size) (hr : Ev (fun k => token_Tokens.l0 k T i []) r) : Ev (fun k => token_Tokens.f k (bytesOf T)) (r, (0 : Int), (0 : Int)) := by
  simp only [token_Tokens.f, strOf_bytes]
  exact ev_pos (by rw [bytesOf_length]; exact hT) (ev_bind hs (ev_pos hi (ev_bind hr ev_some)))
end
section
variable {s : ByteArray} {i : Nat} {c : UInt8} {r : ByteArray} {l : List UInt8}
theorem sub_one (hs : s.size ≤ 1000000) (hc : s.data.toList[i]? = some c) : (s.extract ((i : Int)).toNat (wrap64 ((i : Int) + 1)).toNat).data.toList = [c] := by
  have hi := (bt_list hc).1
  rw [w64 (by omega) (by omega), (by omega : ((i : Int) + 1).toNat = i + 1), Int.toNat_natCast, ByteArray.data_extract, Array.toList_extract, List.extract_eq_take_drop, (by omega : i + 1 - i = 1)]
  obtain ⟨h1, h2⟩ := List.getElem?_eq_some_iff.1 hc
  rw [List.drop_eq_getElem_cons h1, h2]
  simp
theorem app_list (a b : ByteArray) : (a ++ b).data.toList = a.data.toList ++ b.data.toList := by simp
/-- A piece: the byte itself; its number; or a backslash and the byte. -/
inductive Pc (c : UInt8) (r : ByteArray) (P : Prop) : Prop
  | plain (h : r.data.toList = [c]) (hp : P)
  | esc (h : ident_escaped.f (c.toNat : Int) = some r) (h128 : (c.toNat : Int) < 128)
  | other (h : r.data.toList = [92, c]) (ho : fineO (c.toNat : Int) = true)
theorem quote_one (hs : s.size ≤ 1000000) (hc : s.data.toList[i]? = some c) (h : ident_Quote.one s (i : Int) = some r) :
    Pc c r (token_feed.f (c.toNat : Int) = some false ∧ (c.toNat : Int) ≠ 34 ∧ (c.toNat : Int) ≠ 92) := by
  have tc := told c
  obtain ⟨t1, t2, t3, t4, e1, e2, e3, e4⟩ := tc.ex
  unfold ident_Quote.one at h
  rw [(bt_list hc).2, e3, e4] at h
  replace h := Option.some.inj h
  have hsub := sub_one hs hc
  have o34 : fineO 34 = true := by decide
  have o92 : fineO 92 = true := by decide
  by_cases c1 : t3 = true
  · rw [if_pos c1] at h
    exact Pc.esc (by rw [← h]; exact e4) (tc.c128 (by rw [e3, c1]))
  · rw [if_neg c1] at h
    by_cases c2 : (c.toNat : Int) = 34
    · rw [if_pos c2] at h
      refine Pc.other ?_ (by rw [c2]; exact o34)
      rw [← h, app_list]
      show [92] ++ (ident_Quote.sub s (i : Int)).data.toList = _
      rw [show (ident_Quote.sub s (i : Int)).data.toList = [c] from hsub]
      rfl
    · rw [if_neg c2] at h
      by_cases c3 : (c.toNat : Int) = 92
      · rw [if_pos c3] at h
        refine Pc.other ?_ (by rw [c3]; exact o92)
        rw [← h, app_list]
        show [92] ++ (ident_Quote.sub s (i : Int)).data.toList = _
        rw [show (ident_Quote.sub s (i : Int)).data.toList = [c] from hsub]
        rfl
      · rw [if_neg c3] at h
        exact Pc.plain (by rw [← h]; exact hsub) ⟨tc.feed (by rw [e3]; simpa using c1), c2, c3⟩
end
theorem quote_pre (s : ByteArray) : ∀ (n : Nat) {i : Nat} {c l : List UInt8}, i ≤ n → ident_Quote.cat s i = some c → ident_Quote.cat s n = some l → ∃ rest, l = c ++ rest
  | 0, i, c, l, hi, hc, hl => by
    obtain rfl : i = 0 := by omega
    rw [hc] at hl
    exact ⟨[], by rw [Option.some.inj hl]; simp⟩
  | n + 1, i, c, l, hi, hc, hl => by
    by_cases h : i = n + 1
    · subst h
      rw [hc] at hl
      exact ⟨[], by rw [Option.some.inj hl]; simp⟩
    · obtain ⟨c', r, h1, h2, h3, h4⟩ := ident_Quote.cat_lt s hl (Nat.lt_succ_self n)
      obtain ⟨rest, hr⟩ := quote_pre s n (by omega) hc h1
      rw [h4] at hl
      exact ⟨rest ++ r.data.toList, by rw [← Option.some.inj hl, hr, List.append_assoc]⟩
theorem take_next {α : Type} {x : List α} {i : Nat} {c : α} (h : x[i]? = some c) : x.take i ++ [c] = x.take (i + 1) := by
  obtain ⟨h1, h2⟩ := List.getElem?_eq_some_iff.1 h
  rw [List.take_succ_eq_append_getElem h1, h2]
section
variable {T s : ByteArray} {P : Nat} {l : List UInt8}
theorem quote_ident (hT : T.size ≤ 1000000) (hs : s.size ≤ 10000) (h0 : ∀ c ∈ s.data.toList, c ≠ 0) (hl : ident_Quote.cat s s.size = some l) (ha : At T P (l ++ [34])) :
    ∀ (d i : Nat), s.size - i = d → i ≤ s.size → ∀ c, ident_Quote.cat s i = some c → Ev (fun k => quotF k T (P + c.length) (s.data.toList.take i) 34) (s.data.toList, P + l.length + 1) := by
  intro d
  induction d with
  | zero =>
    intro i hd hi c hc
    obtain rfl : i = s.size := by omega
    rw [hl] at hc
    obtain rfl := Option.some.inj hc
    rw [List.take_of_length_le (by rw [data_length]; exact Nat.le_refl _)]
    exact q_end ha.right rfl
  | succ d ih =>
    intro i hd hi c hc
    obtain ⟨c', r, h1, h2, h3, h4⟩ := ident_Quote.cat_lt s hl (show i < s.size by omega)
    rw [hc] at h1
    obtain rfl := Option.some.inj h1
    obtain ⟨rest, hr⟩ := quote_pre s s.size (show i + 1 ≤ s.size by omega) h4 hl
    have ha2 : At T (P + c.length) (r.data.toList ++ rest) := by
      refine At.right (A := c) ?_
      rw [← List.append_assoc, ← hr]
      exact ha.left
    have hlen : i < s.data.toList.length := by rw [data_length]; omega
    obtain ⟨x, hx⟩ : ∃ x, s.data.toList[i]? = some x := ⟨_, List.getElem?_eq_getElem hlen⟩
    have hx0 : x ≠ 0 := h0 x (List.mem_of_getElem? hx)
    have hn := ih (i + 1) (by omega) (by omega) _ h4
    rw [List.length_append, ← Nat.add_assoc, ← take_next hx] at hn
    have hacc : (s.data.toList.take i).length ≤ 10000 := by rw [List.length_take, data_length]; omega
    have hsz := ha2.left.size
    rcases quote_one (by omega) hx h2 with ⟨hp, hq, h34, h92⟩ | ⟨hp, h128⟩ | ⟨hp, ho⟩
    · rw [hp] at ha2 hn
      refine q_plain hq hx0 ?_ h34 ha2 (by omega) hn
      rintro rfl
      exact h92 rfl
    · obtain ⟨hex, g, L, hgl, hg0⟩ := hexE hT hp hx0 h128 ha2.left
      have hz : r.size = r.data.toList.length := (data_length r).symm
      rw [hgl] at ha2
      refine q_esc (n := r.size) ha2 hg0 (by decide) hex ?_ (by rw [hz]; exact hsz) (by have : (⟨#[x]⟩ : ByteArray).size = 1 := rfl; omega) ?_
      · rw [hz, hgl]
        simp
      · rw [hz]
        exact hn
    · have ho' := ho
      simp only [fineO, Bool.and_eq_true, beq_iff_eq, decide_eq_true_eq] at ho'
      rw [hp] at ha2 hn hsz
      exact q_esc (n := 2) ha2 hx0 (by decide) (hexO hT ha2.left ho) (by decide) hsz (by have : (⟨#[x]⟩ : ByteArray).size = 1 := rfl; omega) hn
end

/-! ### The whole text's words -/
theorem mk_list (s : ByteArray) : (⟨s.data.toList.toArray⟩ : ByteArray) = s := by
  apply Go.WideShapes.bytes_inj
  simp
def quoted (l : List UInt8) : ByteArray := ((⟨#[34]⟩ : ByteArray) ++ ⟨l.toArray⟩) ++ (⟨#[34]⟩ : ByteArray)
theorem quoted_list (l : List UInt8) : (quoted l).data.toList = 34 :: (l ++ [34]) := by
  unfold quoted
  rw [app_list, app_list]
  rfl
theorem quoted_size (l : List UInt8) : (quoted l).size = l.length + 2 := by
  rw [← data_length, quoted_list]
  simp
theorem no_zero {s : ByteArray} (h : Lib.indexByte s.data.toList 0 < 0) : ∀ c ∈ s.data.toList, c ≠ 0 := by
  rintro c hc rfl
  have h1 : Lib.indexByte s.data.toList 0 = -1 := by
    have := Lib.indexByte_ge s.data.toList 0
    omega
  obtain ⟨i, hi⟩ := List.mem_iff_getElem?.1 hc
  exact Lib.indexByte_none h1 i hi
theorem pc_size {c : UInt8} {r : ByteArray} {P : Prop} (h : Pc c r P) : r.size ≤ 8 := by
  rw [← data_length]
  rcases h with ⟨h, _⟩ | ⟨h, _⟩ | ⟨h, _⟩
  · rw [h]
    simp
  · rcases esc_cases (told c).esc h with ⟨_, e, _⟩ | ⟨_, _, _, _, e, _⟩
    · rw [e]
      simp
    · rw [e]
      simp
  · rw [h]
    simp
theorem quote_cat (s : ByteArray) (hs : s.size ≤ 1000000) : ∀ n, n ≤ s.size → ∃ l, ident_Quote.cat s n = some l
  | 0, _ => ⟨[], rfl⟩
  | n + 1, h => by
    obtain ⟨c, hc⟩ := quote_cat s hs n (by omega)
    have hlen : n < s.data.toList.length := by rw [data_length]; omega
    have hx := List.getElem?_eq_getElem hlen
    obtain ⟨t1, t2, t3, t4, e1, e2, e3, e4⟩ := (told (s.data.toList[n])).ex
    obtain ⟨r, hr⟩ : ∃ r, ident_Quote.one s (n : Int) = some r := by
      unfold ident_Quote.one
      rw [(bt_list hx).2, e3, e4]
      exact ⟨_, rfl⟩
    refine ⟨c ++ r.data.toList, ?_⟩
    simp only [ident_Quote.cat]
    rw [hc]
    show (ident_Quote.one s (n : Int)).bind _ = _
    rw [hr]
    exact if_pos (pc_size (quote_one hs hx hr))
theorem quote_len (s : ByteArray) {l : List UInt8} (hl : ident_Quote.cat s s.size = some l) : l.length ≤ s.size * 8 := ident_Quote.cat_len s _ _ hl
theorem quote_form (s : ByteArray) (hs : s.size ≤ 8192) : ident_Quote.f s = some ⟨#[]⟩ ∨ ∃ l, (∀ c ∈ s.data.toList, c ≠ 0) ∧ ident_Quote.cat s s.size = some l ∧ ident_Quote.f s = some (quoted l) := by
  unfold ident_Quote.f
  rw [if_neg (by omega)]
  by_cases h : Lib.indexByte s.data.toList 0 ≥ 0
  · refine Or.inl ?_
    show (if Lib.indexByte s.data.toList 0 ≥ 0 then _ else _) = _
    rw [if_pos h]
  · obtain ⟨l, hl⟩ := quote_cat s (by omega) s.size (Nat.le_refl _)
    refine Or.inr ⟨l, no_zero (by omega), hl, ?_⟩
    show (if Lib.indexByte s.data.toList 0 ≥ 0 then some (⟨#[]⟩ : ByteArray) else (ident_Quote.cat s s.size).bind fun l => some (((⟨#[34]⟩ : ByteArray) ++ ⟨l.toArray⟩) ++ (⟨#[34]⟩ : ByteArray))) = _
    rw [if_neg h, hl]
    rfl
/-! ### A number at a place -/
/-! ### The rest of a text from a place on -/
def Tl (T : ByteArray) (p : Nat) (X : List UInt8) : Prop := T.data.toList.drop p = X ∧ p + X.length = T.size
section
variable {T : ByteArray} {p : Nat} {c : UInt8} {X L R : List UInt8}
theorem Tl.at (h : Tl T p X) : At T p X := by
  refine ⟨T.data.toList.take p, [], ?_, ?_⟩
  · rw [← h.1, List.append_nil, List.take_append_drop]
  · have := h.2
    rw [List.length_take, data_length]
    omega
theorem Tl.tail (h : Tl T p (c :: L)) : Tl T (p + 1) L := by
  refine ⟨?_, by have := h.2; simp only [List.length_cons] at this; omega⟩
  rw [← List.drop_drop, h.1]
  rfl
theorem Tl.right (h : Tl T p (L ++ R)) : Tl T (p + L.length) R := by
  refine ⟨?_, by have := h.2; rw [List.length_append] at this; omega⟩
  rw [← List.drop_drop, h.1, List.drop_left]
theorem Tl.ext (h : Tl T p X) : bytesOf (T.extract p T.size) = X.map fun b => (b.toNat : Int) := by
  unfold bytesOf
  have e : (T.extract p T.size).data.toList = X := by
    rw [ByteArray.data_extract, Array.toList_extract, List.extract_eq_take_drop, h.1]
    exact List.take_of_length_le (by have := h.2; omega)
  rw [e]
end
/-- A word's bytes: with nothing or a blank behind, wherever they stand. -/
structure Wrd (L : List UInt8) (kd : Int) (tx nm : ByteArray) : Prop where
  go : ∀ {T : ByteArray} {p : Nat} {R : List UInt8}, T.size ≤ 1000000 → Tl T p (L ++ R) → (∀ c R', R = c :: R' → c = 32) → Ev (fun k => wordF k T p) (kd, tx, nm, p + L.length)
  sk : ∀ {T : ByteArray} {p : Nat} {R : List UInt8}, T.size ≤ 1000000 → Tl T p (L ++ R) → (∀ c R', R = c :: R' → c = 32) → Ev (fun k => skipF k T p) p
  ne : L ≠ []
section
variable {s : ByteArray} {l : List UInt8}
end

/-- A quoted text. -/
theorem quot_wrd {s : ByteArray} {l : List UInt8} (hs : s.size ≤ 8192) (h0 : ∀ c ∈ s.data.toList, c ≠ 0) (hl : ident_Quote.cat s s.size = some l) : Wrd (34 :: (l ++ [34])) 6 s ⟨#[]⟩ := by
  have n34 : NoNum 34 := ⟨by decide, by decide⟩
  refine ⟨fun {T p R} hT h hR => ?_, fun {T p R} hT h hR => ?_, by simp⟩
  · have ha : At T p (34 :: (l ++ [34])) := At.left h.at
    have hsz := ha.size
    simp only [List.length_cons, List.length_append, List.length_nil] at hsz
    have hi := quote_ident hT (by omega) h0 hl (P := p + 1) ha.tail s.size 0 rfl (Nat.zero_le _) [] rfl
    have e : p + 1 + l.length + 1 = p + (34 :: (l ++ [34])).length := by simp only [List.length_cons, List.length_append, List.length_nil]; omega
    rw [e] at hi
    have := w_quote (l := s.data.toList) (j := p + (34 :: (l ++ [34])).length) ha (scan0 hT ha n34 (by decide) (fun e => absurd e (by decide))) (beg_no hT ha (by decide) (by decide) (by decide)) hi (by rw [data_length]; exact hs) (by simp only [List.length_cons, List.length_append, List.length_nil]; omega)
    rw [mk_list] at this
    exact this
  · have ha : At T p (34 :: (l ++ [34])) := At.left h.at
    exact sk_stop ha (by decide) (by decide)
/-! ### Words one behind the other -/
structure W where
  L : List UInt8
  kd : Int
  tx : ByteArray
  nm : ByteArray
def W.ok (w : W) : Prop := Wrd w.L w.kd w.tx w.nm
def join : List W → List UInt8
  | [] => []
  | [w] => w.L
  | w :: ws => w.L ++ 32 :: join ws
def toks : Nat → List W → List S67
  | _, [] => []
  | p, w :: ws => ⟨w.kd, (p : Int), w.tx, w.nm⟩ :: toks (p + w.L.length + 1) ws
theorem toks_length : ∀ (ws : List W) (p : Nat), (toks p ws).length = ws.length
  | [], _ => rfl
  | w :: ws, p => by
    simp only [toks, List.length_cons]
    rw [toks_length ws]
theorem join_cons (w : W) (ws : List W) (h : ws ≠ []) : join (w :: ws) = w.L ++ 32 :: join ws := by
  match ws, h with
  | x :: ws, _ => rfl
theorem words_l0 {T : ByteArray} (hT : T.size ≤ 1000000) : ∀ (ws : List W) (p : Nat) (out : List S67), ws ≠ [] → (∀ w ∈ ws, w.ok) → Tl T p (join ws) → out.length + ws.length ≤ 1000 →
    Ev (fun k => token_Tokens.l0 k T p out) (out ++ toks p ws ++ [⟨8, (T.size : Int), ⟨#[]⟩, ⟨#[]⟩⟩])
  | [], _, _, h, _, _, _ => absurd rfl h
  | [w], p, out, _, hok, h, hn => by
    have hw := hok w List.mem_cons_self
    have hX : Tl T p (w.L ++ []) := by rw [List.append_nil]; exact h
    have hz := h.2
    have hpos : 0 < w.L.length := List.length_pos_iff.2 hw.ne
    have e : p + w.L.length = T.size := hz
    have g := hw.go hT hX (fun _ _ e => by cases e)
    rw [e] at g
    have := tk_step (out := out) (by omega) (by omega) g (Nat.le_refl _) sk_end (Nat.le_refl _) tk_end
    exact this
  | w :: x :: ws, p, out, _, hok, h, hn => by
    have hw := hok w List.mem_cons_self
    have hx := hok x (List.mem_cons_of_mem _ List.mem_cons_self)
    rw [join_cons w (x :: ws) (by simp)] at h
    have hz := h.2
    simp only [List.length_append, List.length_cons] at hz
    have hpos : 0 < w.L.length := List.length_pos_iff.2 hw.ne
    have g := hw.go hT h (fun c R' e => (List.cons.inj e).1.symm)
    have h1 := h.right
    have h2 : Tl T (p + w.L.length + 1) (join (x :: ws)) := h1.tail
    have s2 : Ev (fun k => skipF k T (p + w.L.length + 1)) (p + w.L.length + 1) := by
      match ws, h2 with
      | [], h2 => exact hx.sk hT (R := []) (by rw [List.append_nil]; exact h2) (fun _ _ e => by cases e)
      | y :: ws, h2 =>
        rw [join_cons x (y :: ws) (by simp)] at h2
        exact hx.sk hT h2 (fun c R' e => (List.cons.inj e).1.symm)
    simp only [List.length_cons] at hn
    have ih := words_l0 hT (x :: ws) (p + w.L.length + 1) (out ++ [⟨w.kd, (p : Int), w.tx, w.nm⟩]) (by simp) (fun z hz => hok z (List.mem_cons_of_mem _ hz)) h2 (by simp only [List.length_append, List.length_cons, List.length_nil]; omega)
    rw [List.append_assoc out] at ih
    exact tk_step (by omega) (by omega) g (by omega) (sk_blank h1.at (by decide) s2) (by omega) ih
/-- The words of a text that is made of words. -/
theorem words_ev {T : ByteArray} (hT : T.size ≤ 100000) (ws : List W) (h0 : ws ≠ []) (hok : ∀ w ∈ ws, w.ok) (hj : T.data.toList = join ws) (hn : ws.length ≤ 1000) :
    Ev (fun k => token_Tokens.f k (bytesOf T)) (toks 0 ws ++ [⟨8, (T.size : Int), ⟨#[]⟩, ⟨#[]⟩⟩], (0 : Int), (0 : Int)) := by
  have h : Tl T 0 (join ws) := ⟨by rw [List.drop_zero, hj], by rw [← hj, data_length, Nat.zero_add]⟩
  refine tokens_ev (i := 0) (by omega) ?_ (Nat.zero_le _) (words_l0 (by omega) ws 0 [] h0 hok h (by simpa using hn))
  match ws, h0, hok, h with
  | [w], _, hok, h => exact (hok w List.mem_cons_self).sk (by omega) (R := []) (by rw [List.append_nil]; exact h) (fun _ _ e => by cases e)
  | w :: x :: ws, _, hok, h =>
    rw [join_cons w (x :: ws) (by simp)] at h
    exact (hok w List.mem_cons_self).sk (by omega) h (fun c R' e => (List.cons.inj e).1.symm)
end Go.Proofs.YtofdhdafabmhmaaDoor.PureLx
end
section
/- AreaBack, as a statement on lists and bytes. Conditions: none beyond the argument's own kind. -/
namespace Go.Proofs.YtofdhdafabmhmaaDoor.PureAr
open Go.RowKit Go.Proofs.YtofdhdafabmhmaaDoorW.PrintWords Go.Proofs.YtofdhdafabmhmaaDoorW.PrintMore Go.Proofs.YtofdhdafabmhmaaDoor.Evs Go.Proofs.YtofdhdafabmhmaaDoor.Opn Go.Proofs.YtofdhdafabmhmaaDoor.PAr Go.Proofs.YtofdhdafabmhmaaDoor.Giv
open Go
/-! ### What is written -/
def cellT (s : ByteArray) : ByteArray := if s.size = 0 then ⟨#[46]⟩ else s
def jn (l : List ByteArray) : List UInt8 := Lib.join (l.map (·.data.toList)) [32]
def rowT (row : List ByteArray) : ByteArray := T (jn (row.map cellT))
theorem jn_nil : jn [] = [] := rfl
theorem jn_one (s : ByteArray) : jn [s] = s.data.toList := Lib.join_one _ _
theorem jn_cons (s t : ByteArray) (r : List ByteArray) : jn (s :: t :: r) = s.data.toList ++ 32 :: jn (t :: r) := by
  unfold jn
  simp only [List.map_cons]
  rw [Lib.join_cons, Lib.join_cons]
  simp [Lib.joinTail]
theorem jn_len (m : Nat) : ∀ l : List ByteArray, (∀ s ∈ l, s.size ≤ m) → (jn l).length ≤ l.length * (m + 1)
  | [], _ => by simp [jn_nil]
  | [s], h => by
    have := h s List.mem_cons_self
    rw [jn_one, size_list]
    simp only [List.length_singleton]
    omega
  | s :: t :: r, h => by
    have ih := jn_len m (t :: r) (fun x hx => h x (List.mem_cons_of_mem _ hx))
    have := h s List.mem_cons_self
    rw [jn_cons, List.length_append, List.length_cons, size_list, List.length_cons, Nat.succ_mul]
    omega
theorem jn_mem (P : UInt8 → Prop) (h32 : P 32) : ∀ l : List ByteArray, (∀ s ∈ l, ∀ c ∈ s.data.toList, P c) → ∀ c ∈ jn l, P c
  | [], _, c, hc => by simp [jn_nil] at hc
  | [s], h, c, hc => by
    rw [jn_one] at hc
    exact h s List.mem_cons_self c hc
  | s :: t :: r, h, c, hc => by
    rw [jn_cons] at hc
    rcases List.mem_append.1 hc with hc | hc
    · exact h s List.mem_cons_self c hc
    · rcases List.mem_cons.1 hc with rfl | hc
      · exact h32
      · exact jn_mem P h32 (t :: r) (fun x hx => h x (List.mem_cons_of_mem _ hx)) c hc
theorem join_f {l : List ByteArray} (h1 : l.length ≤ 1000000) (h2 : (jn l).length ≤ 10000000) : strings_Join.f l (⟨#[32]⟩ : ByteArray) = some (T (jn l)) := by
  unfold strings_Join.f
  rw [if_pos ⟨by omega, by show (jn l).length ≤ _; omega⟩]
  rfl
/-- A cell that may stand in rows. -/
def CellA (s : ByteArray) : Prop := s.size ≤ 64 ∧ ∀ c ∈ s.data.toList, inB c = true
theorem empty_of {s : ByteArray} (h : s.size = 0) : s = (⟨#[]⟩ : ByteArray) := by
  obtain ⟨d⟩ := s
  obtain rfl : d = #[] := Array.size_eq_zero_iff.1 h
  rfl
theorem cellT_ok {s : ByteArray} (h : CellA s) : (cellT s).size ≤ 64 ∧ ∀ c ∈ (cellT s).data.toList, c ≠ 0 := by
  unfold cellT
  split
  · exact ⟨by decide, by decide⟩
  · exact ⟨h.1, fun c hc => (toldA c).zero (h.2 c hc)⟩
theorem rowT_ok {row : List ByteArray} (h : ∀ s ∈ row, CellA s) (hl : row.length ≤ 64) : (rowT row).size ≤ 4160 ∧ ∀ c ∈ (rowT row).data.toList, c ≠ 0 := by
  unfold rowT
  rw [T_list, T_size]
  have h1 : ∀ s ∈ row.map cellT, s.size ≤ 64 := fun s hs => by
    obtain ⟨t, ht, rfl⟩ := List.mem_map.1 hs
    exact (cellT_ok (h t ht)).1
  have h2 := jn_len 64 (row.map cellT) h1
  rw [List.length_map] at h2
  refine ⟨by omega, jn_mem (· ≠ 0) (by decide) _ (fun s hs c hc => ?_)⟩
  obtain ⟨t, ht, rfl⟩ := List.mem_map.1 hs
  exact (cellT_ok (h t ht)).2 c hc
/-- The bytes between the quotes. -/
def qc (s : ByteArray) : List UInt8 := (ident_Quote.cat s s.size).getD []
theorem quote_f {s : ByteArray} (hs : s.size ≤ 8192) (h0 : ∀ c ∈ s.data.toList, c ≠ 0) : ident_Quote.f s = some (PureLx.quoted (qc s)) ∧ ident_Quote.cat s s.size = some (qc s) := by
  rcases PureLx.quote_form s hs with h | ⟨l, _, h2, h3⟩
  · exfalso
    unfold ident_Quote.f at h
    rw [if_neg (by omega)] at h
    replace h : (if Lib.indexByte s.data.toList 0 ≥ 0 then some (⟨#[]⟩ : ByteArray) else (ident_Quote.cat s s.size).bind fun l => some (((⟨#[34]⟩ : ByteArray) ++ ⟨l.toArray⟩) ++ (⟨#[34]⟩ : ByteArray))) = some ⟨#[]⟩ := h
    by_cases hz : Lib.indexByte s.data.toList 0 ≥ 0
    · obtain ⟨o, ho⟩ := Int.eq_ofNat_of_zero_le hz
      obtain ⟨h4, _⟩ := Lib.indexByte_some ho
      exact h0 0 (List.mem_of_getElem? h4) rfl
    · rw [if_neg hz] at h
      cases hc : ident_Quote.cat s s.size with
      | none => rw [hc] at h; cases h
      | some l =>
        rw [hc] at h
        have := congrArg (fun z => (z.getD ⟨#[]⟩).size) h
        have e34 : ({ data := #[34] } : ByteArray).size = 1 := rfl
        have e0 : ({ data := #[] } : ByteArray).size = 0 := rfl
        simp only [Option.bind_some, Option.getD_some, ByteArray.size_append] at this
        omega
  · unfold qc
    rw [h2]
    exact ⟨h3, rfl⟩
def rowQ (row : List ByteArray) : ByteArray := PureLx.quoted (qc (rowT row))
def textA (l0 : List (List ByteArray)) : ByteArray := T (jn (l0.map rowQ))
theorem rowQ_len {row : List ByteArray} (h : ∀ s ∈ row, CellA s) (hl : row.length ≤ 64) : (rowQ row).size ≤ 40000 := by
  obtain ⟨h1, h2⟩ := rowT_ok h hl
  have h3 := PureLx.quote_len (rowT row) (quote_f (by omega) h2).2
  unfold rowQ
  rw [PureLx.quoted_size]
  omega
theorem textA_len {l0 : List (List ByteArray)} (hg : GoodA l0) : (jn (l0.map rowQ)).length ≤ 10000000 := by
  have h1 : ∀ s ∈ l0.map rowQ, s.size ≤ 40000 := fun s hs => by
    obtain ⟨row, hr, rfl⟩ := List.mem_map.1 hs
    exact rowQ_len (fun s hs => (hg.row row hr).2.2.2 s hs) (hg.row row hr).2.1
  have h2 := jn_len 40000 (l0.map rowQ) h1
  rw [List.length_map] at h2
  have := hg.n
  omega

/-! ### area.Text -/
section
variable {l0 : List (List ByteArray)} {x3 : List ByteArray} {r : ByteArray} {i : Nat}
theorem text_l1 {row : List ByteArray} (h : ∀ s ∈ row, CellA s) (hl : row.length ≤ 64) (h3 : x3.length ≤ 1000000) (hK : Ev (fun k => area_Text.l0 k (x3 ++ [rowQ row]) l0 (l0.length : Int) (wrap64 ((i : Int) + 1))) r) :
    ∀ (n j : Nat), j + n = row.length → Ev (fun k => area_Text.l1 k x3 ((row.take j).map cellT) l0 (l0.length : Int) (i : Int) row (row.length : Int) (j : Int)) r
  | 0, j, hj => by
    refine ev_step ?_
    simp only [area_Text.l1]
    rw [List.take_of_length_le (by omega)]
    obtain ⟨k1, k2⟩ := rowT_ok h hl
    have k3 : (jn (row.map cellT)).length ≤ 4160 := by rw [← T_size]; exact k1
    refine ev_neg (by omega) (ev_bindc (join_f (by rw [List.length_map]; omega) (by omega)) (ev_bindc (quote_f (s := rowT row) (by omega) k2).1 (ev_pos (by omega) hK)))
  | n + 1, j, hj => by
    refine ev_step ?_
    simp only [area_Text.l1]
    obtain ⟨s, hs⟩ : ∃ s, row[j]? = some s := ⟨_, List.getElem?_eq_getElem (by omega)⟩
    have ih := text_l1 h hl h3 hK n (j + 1) (by omega)
    rw [List.take_add_one, hs, List.map_append] at ih
    have hlt : ((row.take j).map cellT).length ≤ 64 := by rw [List.length_map, List.length_take]; omega
    rw [sat row hs, w64 (by omega) (by omega)]
    refine ev_pos (by omega) (ev_pos (by omega) (ev_pos (by omega) (ev_ite (fun hz => ev_pos (by omega) ?_) (fun hz => ev_pos (by omega) ?_))))
    · rw [ByteArray.toList_eq] at hz
      have e : cellT s = ⟨#[46]⟩ := by
        unfold cellT
        rw [if_pos (by rw [← size_list, hz]; rfl)]
      have : Option.toList (some s) = [s] := rfl
      rw [this, List.map_singleton, e] at ih
      simpa using ih
    · rw [ByteArray.toList_eq] at hz
      have e : cellT s = s := by
        unfold cellT
        rw [if_neg (fun e => hz (by apply List.eq_nil_of_length_eq_zero; rw [size_list]; exact e))]
      have : Option.toList (some s) = [s] := rfl
      rw [this, List.map_singleton, e] at ih
      simpa using ih
theorem text_l0 (hg : GoodA l0) (hz : (jn (l0.map rowQ)).length ≤ 10000000) : ∀ (n i : Nat), i + n = l0.length → Ev (fun k => area_Text.l0 k ((l0.take i).map rowQ) l0 (l0.length : Int) (i : Int)) (textA l0)
  | 0, i, hi => by
    refine ev_step ?_
    simp only [area_Text.l0]
    rw [List.take_of_length_le (by omega)]
    have := hg.n
    exact ev_neg (by omega) (ev_bindc (join_f (by rw [List.length_map]; omega) hz) ev_some)
  | n + 1, i, hi => by
    refine ev_step ?_
    simp only [area_Text.l0]
    obtain ⟨row, hrow⟩ : ∃ row, l0[i]? = some row := ⟨_, List.getElem?_eq_getElem (by omega)⟩
    have hr := hg.row row (List.mem_of_getElem? hrow)
    have hn := hg.n
    have ih := text_l0 hg hz n (i + 1) (by omega)
    rw [List.take_add_one, hrow, List.map_append] at ih
    rw [lat l0 hrow]
    refine ev_pos (by omega) (ev_pos (by omega) (ev_pos (by omega) ?_))
    have := text_l1 (l0 := l0) (i := i) (x3 := (l0.take i).map rowQ) (fun s hs => hr.2.2.2 s hs) hr.2.1 (by rw [List.length_map, List.length_take]; omega) (by rw [w64 (by omega) (by omega)]; exact ih) row.length 0 (by omega)
    simpa using this
end
theorem text_ev {l0 : List (List ByteArray)} (h : goodB l0 = true) (h0 : l0 ≠ []) (hz : (jn (l0.map rowQ)).length ≤ 10000000) : Ev (fun k => area_Text.f k l0) (textA l0) := by
  simp only [area_Text.f]
  have hg := good_ev l0
  rw [h] at hg
  have hl := List.length_pos_iff.2 h0
  refine ev_neg (by omega) (ev_bind hg (ev_pos rfl ?_))
  have := text_l0 (good_of h) hz l0.length 0 (by omega)
  simpa using this

/-! ### What was written is read -/
theorem cells_jn : ∀ (row : List ByteArray) (out : List ByteArray), (∀ s ∈ row, CellA s) → row.length ≤ 64 → out.length + row.length ≤ 1000 → Ev (fun k => area_Cells.l0 k (T (jn (row.map cellT))) out) (out ++ row, true)
  | [], out, _, _, _ => by
    rw [List.map_nil, jn_nil, List.append_nil]
    exact c_end
  | s :: row, out, h, hl, ho => by
    have hs := h s List.mem_cons_self
    simp only [List.length_cons] at hl ho
    have ih := cells_jn row (out ++ [s]) (fun t ht => h t (List.mem_cons_of_mem _ ht)) (by omega) (by rw [List.length_append, List.length_singleton]; omega)
    rw [List.append_assoc] at ih
    obtain ⟨B, hB, hBl, hE, hz⟩ : ∃ B, jn ((s :: row).map cellT) = (cellT s).data.toList ++ B ∧ (∀ c B', B = c :: B' → c = 32) ∧ Ev (fun k => area_Cells.l0 k (T B) (out ++ [s])) (out ++ ([s] ++ row), true) ∧ B.length ≤ 10000 := by
      have hlen : (jn (row.map cellT)).length ≤ 4160 := by
        have h1 : ∀ s ∈ row.map cellT, s.size ≤ 64 := fun s hs => by
          obtain ⟨t, ht, rfl⟩ := List.mem_map.1 hs
          exact (cellT_ok (h t (List.mem_cons_of_mem _ ht))).1
        have h2 := jn_len 64 (row.map cellT) h1
        rw [List.length_map] at h2
        omega
      cases row with
      | nil => exact ⟨[], by rw [List.map_cons, List.map_nil, jn_one, List.append_nil], fun c B' e => (by cases e), ih, by simp⟩
      | cons t row =>
        refine ⟨32 :: jn ((t :: row).map cellT), by rw [List.map_cons, List.map_cons, jn_cons], fun c B' e => (List.cons.inj e).1.symm, c_blank (by decide) ih, ?_⟩
        simp only [List.length_cons]
        omega
    rw [hB]
    have hcz : (cellT s).data.toList.length ≤ 64 := by rw [size_list]; exact (cellT_ok hs).1
    by_cases hz0 : s.size = 0
    · obtain rfl := empty_of hz0
      have e : cellT ⟨#[]⟩ = ⟨#[46]⟩ := rfl
      rw [e]
      exact c_dots (A := [46]) (by decide) (by simp) (fun c B' e => by rw [hBl c B' e]; decide) (by simp only [List.length_append, List.length_cons, List.length_nil]; omega) (by omega) hE
    · have e : cellT s = s := by unfold cellT; rw [if_neg hz0]
      rw [e] at hcz ⊢
      refine c_name (A := s.data.toList) hs.2 (fun e => hz0 (by rw [← size_list, e]; rfl)) (fun c B' e => by rw [hBl c B' e]; decide) (by rw [List.length_append]; omega) (by omega) ?_
      rw [T_of]
      exact hE
section
variable {l0 : List (List ByteArray)} {row : List ByteArray} {x1 : List (List ByteArray)}
theorem row_l0 (h : ∀ s ∈ row, CellA s) (hl : 1 ≤ row.length ∧ row.length ≤ 64) (h1 : x1 = [] ∨ ∃ r0 rs, x1 = r0 :: rs ∧ r0.length = row.length) : ∀ (n j : Nat), j + n = row.length → Ev (fun k => area_row.l0 k x1 row row (row.length : Int) (j : Int)) (row, (0 : Int))
  | 0, j, hj => by
    refine ev_step ?_
    simp only [area_row.l0]
    refine ev_neg (by omega) (ev_neg (by omega) ?_)
    rcases h1 with rfl | ⟨r0, rs, rfl, e⟩
    · exact ev_neg (by simp) ev_some
    · have e2 : rd_L1 (r0 :: rs) 0 = r0 := rfl
      rw [e2]
      exact ev_pos (by simp only [List.length_cons]; omega) (ev_pos (by simp only [List.length_cons]; omega) (ev_pos (by omega) ev_some))
  | n + 1, j, hj => by
    refine ev_step ?_
    simp only [area_row.l0]
    obtain ⟨s, hs⟩ : ∃ s, row[j]? = some s := ⟨_, List.getElem?_eq_getElem (by omega)⟩
    have hc := h s (List.mem_of_getElem? hs)
    have ih := row_l0 h hl h1 n (j + 1) (by omega)
    have hf : area_row_1.f s = some false := by
      unfold area_row_1.f
      rw [decide_eq_false (by have := hc.1; omega)]
    rw [sat row hs, w64 (by omega) (by omega)]
    exact ev_pos (by omega) (ev_pos (by omega) (ev_pos (by omega) (ev_bindc hf (ev_neg (by decide) ih))))
theorem row_ev (h : ∀ s ∈ row, CellA s) (hl : 1 ≤ row.length ∧ row.length ≤ 64) (h1 : x1 = [] ∨ ∃ r0 rs, x1 = r0 :: rs ∧ r0.length = row.length) (h2 : x1.length < 64) : Ev (fun k => area_row.f k (rowT row) x1) (row, (0 : Int)) := by
  simp only [area_row.f, area_Cells.f]
  have hc := cells_jn row [] h hl.2 (by simp only [List.length_nil]; omega)
  rw [List.nil_append] at hc
  exact ev_bind hc (ev_pos rfl (ev_neg (by omega) (ev_neg (by dsimp only; omega) (row_l0 h hl h1 row.length 0 (by omega)))))
end
open PureLx (W toks words_ev)
def wordA (row : List ByteArray) : W := ⟨34 :: (qc (rowT row) ++ [34]), 6, rowT row, ⟨#[]⟩⟩
theorem join_w : ∀ l0 : List (List ByteArray), PureLx.join (l0.map wordA) = jn (l0.map rowQ)
  | [] => rfl
  | [row] => by
    rw [List.map_singleton, List.map_singleton, jn_one]
    unfold rowQ
    rw [PureLx.quoted_list]
    rfl
  | row :: r2 :: l0 => by
    have ih := join_w (r2 :: l0)
    rw [List.map_cons, PureLx.join_cons _ _ (by simp), ih]
    show _ = jn (rowQ row :: rowQ r2 :: l0.map rowQ)
    rw [jn_cons, show (rowQ row).data.toList = (wordA row).L from PureLx.quoted_list _]
    rfl
theorem tok_at : ∀ (ws : List W) (p i : Nat) {w : W}, ws[i]? = some w → ∃ q, (toks p ws)[i]? = some ⟨w.kd, q, w.tx, w.nm⟩
  | [], p, i, w, h => by simp at h
  | x :: ws, p, 0, w, h => by
    simp at h
    subst h
    exact ⟨_, rfl⟩
  | x :: ws, p, i + 1, w, h => by
    obtain ⟨q, hq⟩ := tok_at ws (p + x.L.length + 1) i (w := w) (by simpa using h)
    exact ⟨q, by simpa [toks] using hq⟩
section
variable {l0 : List (List ByteArray)} {z : Int}
def toksA (l0 : List (List ByteArray)) (z : Int) : List S67 := toks 0 (l0.map wordA) ++ [⟨8, z, ⟨#[]⟩, ⟨#[]⟩⟩]
theorem toksA_len : (toksA l0 z).length = l0.length + 1 := by
  unfold toksA
  rw [List.length_append, PureLx.toks_length, List.length_map]
  rfl
theorem toksA_at {i : Nat} {row : List ByteArray} (h : l0[i]? = some row) : ∃ q, rd_T67 (toksA l0 z) (i : Int) = ⟨6, q, rowT row, ⟨#[]⟩⟩ := by
  obtain ⟨q, hq⟩ := tok_at (l0.map wordA) 0 i (w := wordA row) (by rw [List.getElem?_map, h]; rfl)
  refine ⟨q, ?_⟩
  unfold rd_T67 toksA
  rw [Int.toNat_natCast, List.getD_eq_getElem?_getD, List.getElem?_append_left (by rw [PureLx.toks_length, List.length_map]; exact (List.getElem?_eq_some_iff.1 h).1), hq]
  rfl
theorem toksA_end : rd_T67 (toksA l0 z) (l0.length : Int) = ⟨8, z, ⟨#[]⟩, ⟨#[]⟩⟩ := by
  unfold rd_T67 toksA
  have e : (toks 0 (l0.map wordA)).length = l0.length := by rw [PureLx.toks_length, List.length_map]
  rw [Int.toNat_natCast, List.getD_eq_getElem?_getD, List.getElem?_append_right (by rw [e]; exact Nat.le_refl _), e, Nat.sub_self]
  rfl
theorem read_l0 (hg : GoodA l0) (h0 : l0 ≠ []) : ∀ (n i : Nat), i + n = l0.length → Ev (fun k => area_Read.l0 k (toksA l0 z) 0 (l0.take i) (i : Int)) (l0, (l0.length : Int), (0 : Int))
  | 0, i, hi => by
    obtain rfl : i = l0.length := by omega
    have hp := List.length_pos_iff.2 h0
    have hl := toksA_len (l0 := l0) (z := z)
    refine ev_step ?_
    simp only [area_Read.l0]
    rw [toksA_end, List.take_length]
    refine ev_pos (by omega) (ev_pos (by omega) (ev_pos (by omega) (ev_step ?_)))
    simp only [area_Read.j1]
    have hb := good_boxes hg
    refine ev_neg (by decide) (Ev.congr (f := fun _ => some (l0, (l0.length : Int), (0 : Int))) (fun k => ?_) ev_some)
    rw [hb]
    show (if (l0.length : Int) = 0 then _ else _) = _
    rw [if_neg (by omega), if_pos rfl]
  | n + 1, i, hi => by
    obtain ⟨row, hrow⟩ : ∃ row, l0[i]? = some row := ⟨_, List.getElem?_eq_getElem (by omega)⟩
    have hr := hg.row row (List.mem_of_getElem? hrow)
    have hn := hg.n
    have ih := read_l0 hg h0 n (i + 1) (by omega)
    rw [List.take_add_one, hrow] at ih
    have hl := toksA_len (l0 := l0) (z := z)
    obtain ⟨q, hq⟩ := toksA_at (z := z) hrow
    refine ev_step ?_
    simp only [area_Read.l0]
    rw [hq]
    refine ev_pos (by omega) (ev_pos (by omega) (ev_pos (by omega) (ev_step ?_)))
    simp only [area_Read.j1]
    rw [hq]
    have hre := row_ev (row := row) (x1 := l0.take i) (fun s hs => hr.2.2.2 s hs) ⟨hr.1, hr.2.1⟩ (by
      cases i with
      | zero => exact .inl (by simp)
      | succ i =>
        cases hl0 : l0 with
        | nil => exact absurd hl0 h0
        | cons r0 rs =>
          refine .inr ⟨r0, rs.take i, rfl, ?_⟩
          rw [hr.2.2.1, hl0]
          rfl) (by rw [List.length_take]; omega)
    refine ev_pos (by decide) (ev_pos (by omega) (ev_pos (by omega) (ev_bind hre (ev_pos rfl (ev_pos (by rw [List.length_take]; omega) ?_)))))
    rw [w64 (by omega) (by omega)]
    simpa using ih
theorem read_ev (hg : GoodA l0) (h0 : l0 ≠ []) : Ev (fun k => area_Read.f k (toksA l0 z) 0) (l0, (l0.length : Int), (0 : Int)) := by
  have hp := List.length_pos_iff.2 h0
  have hl := toksA_len (l0 := l0) (z := z)
  obtain ⟨row, hrow⟩ : ∃ row, l0[0]? = some row := ⟨_, List.getElem?_eq_getElem hp⟩
  obtain ⟨q, hq⟩ := toksA_at (z := z) hrow
  have hw : value_word.f (toksA l0 z) 0 = some (6, q, rowT row, ⟨#[]⟩) := by
    unfold value_word.f
    rw [if_neg (by omega), if_neg (by omega), if_pos (by omega), if_pos (by omega), show rd_T67 (toksA l0 z) 0 = _ from hq]
  simp only [area_Read.f, value_Keyword.f]
  refine ev_bind (a := ((-1 : Int), (0 : Int))) (ev_bindc hw (ev_neg (by show ¬ (6 : Int) = 1; decide) ev_some)) (ev_neg (by decide) (ev_neg (by decide) ?_))
  have := read_l0 (z := z) hg h0 l0.length 0 (by omega)
  rw [List.take_zero] at this
  exact this
theorem words_back (hg : GoodA l0) (h0 : l0 ≠ []) (hz : (textA l0).size ≤ 60000) : Ev (fun k => parterrelaw08_words.f k (textA l0)) (toksA l0 ((textA l0).size : Int)) := by
  simp only [parterrelaw08_words.f]
  have hn := hg.n
  have h := words_ev (T := textA l0) (by omega) (l0.map wordA) (by simpa using h0) (fun w hw => by
    obtain ⟨row, hr, rfl⟩ := List.mem_map.1 hw
    have hrow := hg.row row hr
    obtain ⟨k1, k2⟩ := rowT_ok (row := row) (fun s hs => hrow.2.2.2 s hs) hrow.2.1
    exact PureLx.quot_wrd (s := rowT row) (l := qc (rowT row)) (by omega) k2 (quote_f (by omega) k2).2) (by unfold textA; rw [T_list, join_w]) (by rw [List.length_map]; omega)
  exact ev_pos (by omega) (ev_bind h ev_some)
/-! ### Whether two are the same: of one and itself -/
theorem asame_l1 {i : Nat} {row : List ByteArray} {m : Int} (hrow : l0[i]? = some row) (hr : row.length ≤ 1000000) (h : Ev (fun k => area_same_string.l0 k l0 l0 m (wrap64 ((i : Int) + 1))) true) : ∀ (n j : Nat), j + n = row.length → Ev (fun k => area_same_string.l1 k l0 l0 (i : Int) m (i : Int) (row.length : Int) (j : Int)) true
  | 0, j, hj => by
    refine ev_step ?_
    simp only [area_same_string.l1]
    exact ev_neg (by omega) h
  | n + 1, j, hj => by
    refine ev_step ?_
    simp only [area_same_string.l1]
    have hlt := (List.getElem?_eq_some_iff.1 hrow).1
    rw [lat l0 hrow, w64 (by omega) (by omega)]
    exact ev_pos (by omega) (ev_pos (by omega) (ev_pos (by omega) (ev_pos (by omega) (ev_pos (by omega) (ev_pos (by omega) (ev_pos (by omega) (ev_pos (by trivial) (asame_l1 hrow hr h n (j + 1) (by omega)))))))))
theorem asame_l0 (hx : l0.length ≤ 1000000) (hr : ∀ row ∈ l0, row.length ≤ 1000000) : ∀ (n i : Nat), i + n = l0.length → Ev (fun k => area_same_string.l0 k l0 l0 (l0.length : Int) (i : Int)) true
  | 0, i, hi => by
    refine ev_step ?_
    simp only [area_same_string.l0]
    exact ev_neg (by omega) ev_some
  | n + 1, i, hi => by
    refine ev_step ?_
    simp only [area_same_string.l0]
    obtain ⟨row, hrow⟩ : ∃ row, l0[i]? = some row := ⟨_, List.getElem?_eq_getElem (by omega)⟩
    have ih := asame_l0 hx hr n (i + 1) (by omega)
    rw [lat l0 hrow]
    exact ev_pos (by omega) (ev_pos (by omega) (ev_pos (by omega) (ev_pos (by omega) (ev_pos (by trivial) (asame_l1 hrow (hr row (List.mem_of_getElem? hrow)) (by rw [w64 (by omega) (by omega)]; exact ih) row.length 0 (by omega))))))
theorem asame (hx : l0.length ≤ 1000000) (hr : ∀ row ∈ l0, row.length ≤ 1000000) : Ev (fun k => area_Same.f k l0 l0) true := by
  simp only [area_Same.f, area_same_string.f]
  exact ev_bind (ev_pos (by trivial) (asame_l0 hx hr l0.length 0 (by omega))) ev_some
end
end Go.Proofs.YtofdhdafabmhmaaDoor.PureAr
namespace Go.Proofs.YtofdhdafabmhmaaDoor.Pure
open Go.RowKit Go.Proofs.YtofdhdafabmhmaaDoorW.PrintWords Go.Proofs.YtofdhdafabmhmaaDoorW.PrintMore Go.Proofs.YtofdhdafabmhmaaDoor.Evs Go.Proofs.YtofdhdafabmhmaaDoor.Opn Go.Proofs.YtofdhdafabmhmaaDoor.PAr Go.Proofs.YtofdhdafabmhmaaDoor.Giv Go.Proofs.YtofdhdafabmhmaaDoor.PureAr
theorem none_words : Ev (fun k => parterrelaw08_words.f k (⟨#[110, 111, 110, 101]⟩ : ByteArray)) [⟨1, 0, ⟨#[110, 111, 110, 101]⟩, ⟨#[]⟩⟩, ⟨8, 4, ⟨#[]⟩, ⟨#[]⟩⟩] := Ev.of (fun k => parterrelaw08_words.mono _ k) (k := 50) (by kernel_rfl)
theorem none_read : Ev (fun k => area_Read.f k [⟨1, 0, ⟨#[110, 111, 110, 101]⟩, ⟨#[]⟩⟩, ⟨8, 4, ⟨#[]⟩, ⟨#[]⟩⟩] 0) (([] : List (List ByteArray)), (1 : Int), (0 : Int)) := Ev.of (fun k => area_Read.mono _ _ k) (k := 50) (by kernel_rfl)
theorem AreaBack : parterrelaw08_AreaBack.Pure := by
  intro l0 g
  refine Ev.rounds ?_
  simp only [parterrelaw08_AreaBack.f]
  obtain ⟨b, hb⟩ := light_ev g
  have triv : Ev (fun k => parterrelaw08_AreaBack.j0 k l0 true) true := by
    refine ev_step ?_
    simp only [parterrelaw08_AreaBack.j0]
    exact ev_pos (by trivial) (ev_bind lives_ev ev_some)
  refine ev_bind hb (ev_ite (fun _ => ?_) (fun _ => triv))
  refine ev_bind (good_ev l0) ?_
  cases hg : goodB l0 with
  | false => exact ev_neg (by decide) triv
  | true =>
    have hG := good_of hg
    have hn := hG.n
    have hrw : ∀ row ∈ l0, row.length ≤ 1000000 := fun row hr => by have := (hG.row row hr).2.1; omega
    refine ev_pos rfl ?_
    by_cases h0 : l0 = []
    · subst h0
      have ht : Ev (fun k => area_Text.f k ([] : List (List ByteArray))) (⟨#[110, 111, 110, 101]⟩ : ByteArray) := by
        simp only [area_Text.f]
        exact ev_pos (by rfl) ev_some
      refine ev_bind ht (ev_step ?_)
      simp only [parterrelaw08_AreaBack.j0]
      exact ev_neg (by decide) (ev_bind ht (ev_bind none_words (ev_bind none_read (ev_pos rfl (ev_pos (by rw [w64 (by simp) (by simp)]; rfl) (ev_bind (asame (l0 := []) (by simp) (by simp)) (ev_pos rfl (ev_bind lives_ev ev_some))))))))
    · have hz := textA_len hG
      have ht := text_ev hg h0 hz
      refine ev_bind ht ?_
      by_cases h6 : ((textA l0).size : Int) > 60000
      · rw [decide_eq_true h6]
        exact triv
      · rw [decide_eq_false h6]
        refine ev_step ?_
        simp only [parterrelaw08_AreaBack.j0]
        exact ev_neg (by decide) (ev_bind ht (ev_bind (words_back hG h0 (by omega)) (ev_bind (read_ev hG h0) (ev_pos rfl (ev_pos (by rw [toksA_len, w64 (by omega) (by omega)]; dsimp only; omega) (ev_bind (asame (by omega) hrw) (ev_pos rfl (ev_bind lives_ev ev_some))))))))
end Go.Proofs.YtofdhdafabmhmaaDoor.Pure
end
