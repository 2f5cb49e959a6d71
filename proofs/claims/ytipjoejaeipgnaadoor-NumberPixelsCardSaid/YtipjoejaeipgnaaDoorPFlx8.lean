-- Written by a program of this session (wip/p2) out of the translation; Lean checks it.
import Derived.Test.YtipjoejaeipgnaaDoorSq
import Derived.Test.YtipjoejaeipgnaaDoorPFlx0
import Derived.Test.YtipjoejaeipgnaaDoorPFlx2
import Derived.Test.YtipjoejaeipgnaaDoorPFlx5
import Derived.Test.YtipjoejaeipgnaaDoorPFlx7
namespace Go.Proofs.YtipjoejaeipgnaaDoor.PFl
open Go.RowKit Go.Proofs.YtipjoejaeipgnaaDoorW.PrintWords Go.Proofs.YtipjoejaeipgnaaDoorW.PrintLast Go.Proofs.YtipjoejaeipgnaaDoorW.PrintMore
attribute [local go_sem] max2_int min2_int max_two min_two max_three min_three max_four min_four   -- for this text's walks alone
set_option linter.unusedVariables false
set_option linter.unusedSimpArgs false
open Go.Proofs.YtipjoejaeipgnaaDoor.Opn Go.Proofs.YtipjoejaeipgnaaDoor.Giv

/-! ### number_Scan: function 20 -/
def number_Scan.f (a0 : ByteArray) : Option (Int) := (number_parts.f a0).bind fun bt128 => (some bt128.2.2.2.2)
set_option maxHeartbeats 8000000 in
set_option maxRecDepth 100000 in
theorem number_Scan.calls (a0 : ByteArray) (r : Int) (w : World) (h : number_Scan.f a0 = some r) :
  Calls Tryd.prog 20 #[.string a0] w fun e w' => e = .returned (.int .i64 r) ∧ Below w.heap.size w w' := by
 have hu43 := Tryd.underlying43
 have hfl43_4 : ∀ (c0 c1 c2 c3 c4 : Value) (W : World), (Instr.field 43 (.agg #[c0, c1, c2, c3, c4]) 4).run Tryd.prog W = .ok (c4) W := fun c0 c1 c2 c3 c4 W => by first | rfl | kernel_rfl
 have HB := Aside0.mk (Below.refl w.heap.size w)
 have H : ((number_parts.f a0).bind fun bt128 => (some bt128.2.2.2.2)) = some r := h
 clear h
 replace H := Option.bind_eq_some_iff.mp H
 obtain ⟨⟨t128, t129, t130, t131, t132⟩, A20, H⟩ := H
 try dsimp only at H
 have A2 := Aside0.mk A20
 clear A20
 obtain rfl := Option.some.inj H
 go_enter Tryd.func20, Tryd.ntmps20
 go_wp2_with (first | ((with_reducible refine gate_callee (f := 24) rfl ?_); refine goesL_ (some 4) rfl rfl Tryd.func24 (by kernel_rfl) rfl #[.string a0] rfl goa_ ?_; (with_reducible refine (number_parts.calls a0 t128 t129 t130 t131 t132 _ A2.out).mono ?_); rintro e w3 ⟨rfl, hb⟩; refine ⟨_, rfl, ?_⟩; have n0_ := Aside0.mk (below_step bel_ hb); clear HB; have HB := n0_; clear n0_; clear hb))
 go_ret
 exact ⟨rsl_, bel_⟩

/-! ### parterrelaw02_lives: function 11 -/
def parterrelaw02_lives.f (k : Nat)  : Option (Bool) := (number_Value.f k (⟨#[49, 46, 53]⟩ : ByteArray) 64).bind fun bt133 => ((number_Value.f k (⟨#[49, 101, 49]⟩ : ByteArray) 1000).bind fun bt135 => (if bt133.2 = 0 then (if bt135.2 = 0 then (if bt133.1 = 96 then (if bt135.1 = 10000 then ((number_Text.f k (-1) 64).bind fun t137 => (if t137.toList = ([45, 48, 46, 48, 49, 53, 54, 50, 53] : List UInt8) then ((number_Scan.f (⟨#[49, 50, 46, 112, 120]⟩ : ByteArray)).bind fun t138 => (some (t138 == 2))) else (none))) else (none)) else (none)) else (none)) else (none)))
theorem parterrelaw02_lives.mono : ∀ k, LeO (parterrelaw02_lives.f k ) (parterrelaw02_lives.f (k + 1) ) := by
 intro  k
 unfold parterrelaw02_lives.f
 repeat' first
   | (with_reducible exact number_Text.mono _ _ _)
   | (with_reducible exact number_Value.mono _ _ _)
   | (with_reducible exact LeO.refl _)
   | (with_reducible exact LeO.none _)
   | (with_reducible refine LeO.ite ?_ ?_)
   | (with_reducible refine LeO.bind ?_ (fun _ => ?_))
set_option maxHeartbeats 8000000 in
set_option maxRecDepth 100000 in
theorem parterrelaw02_lives.calls (k : Nat)  (r : Bool) (w : World) (h : parterrelaw02_lives.f k  = some r) :
  Calls Tryd.prog 11 #[] w fun e w' => e = .returned (.bool r) ∧ Below w.heap.size w w' := by
 have HB := Aside0.mk (Below.refl w.heap.size w)
 have H : ((number_Value.f k (⟨#[49, 46, 53]⟩ : ByteArray) 64).bind fun bt133 => ((number_Value.f k (⟨#[49, 101, 49]⟩ : ByteArray) 1000).bind fun bt135 => (if bt133.2 = 0 then (if bt135.2 = 0 then (if bt133.1 = 96 then (if bt135.1 = 10000 then ((number_Text.f k (-1) 64).bind fun t137 => (if t137.toList = ([45, 48, 46, 48, 49, 53, 54, 50, 53] : List UInt8) then ((number_Scan.f (⟨#[49, 50, 46, 112, 120]⟩ : ByteArray)).bind fun t138 => (some (t138 == 2))) else (none))) else (none)) else (none)) else (none)) else (none)))) = some r := h
 clear h
 replace H := Option.bind_eq_some_iff.mp H
 obtain ⟨⟨t133, t134⟩, A10, H⟩ := H
 try dsimp only at H
 have A1 := Aside0.mk A10
 clear A10
 replace H := Option.bind_eq_some_iff.mp H
 obtain ⟨⟨t135, t136⟩, A20, H⟩ := H
 try dsimp only at H
 have A2 := Aside0.mk A20
 clear A20
 by_cases c3 : t134 = 0
 ·rw [if_pos c3] at H
  have c3b0 : (t134 == 0) = true := beq_iff_eq.mpr c3
  have c3b1 : (t134 != 0) = false := bne_eq_false_iff_eq.mpr c3
  clear c3
  by_cases c4 : t136 = 0
  ·rw [if_pos c4] at H
   have c4b0 : (t136 == 0) = true := beq_iff_eq.mpr c4
   have c4b1 : (t136 != 0) = false := bne_eq_false_iff_eq.mpr c4
   clear c4
   by_cases c5 : t133 = 96
   ·rw [if_pos c5] at H
    have c5b0 : (t133 == 96) = true := beq_iff_eq.mpr c5
    have c5b1 : (t133 != 96) = false := bne_eq_false_iff_eq.mpr c5
    clear c5
    by_cases c6 : t135 = 10000
    ·rw [if_pos c6] at H
     have c6b0 : (t135 == 10000) = true := beq_iff_eq.mpr c6
     have c6b1 : (t135 != 10000) = false := bne_eq_false_iff_eq.mpr c6
     clear c6
     replace H := Option.bind_eq_some_iff.mp H
     obtain ⟨t137, A70, H⟩ := H
     try dsimp only at H
     have A7 := Aside0.mk A70
     clear A70
     by_cases c8 : t137.toList = ([45, 48, 46, 48, 49, 53, 54, 50, 53] : List UInt8)
     ·rw [if_pos c8] at H
      have c8b0 : (t137.toList == ([45, 48, 46, 48, 49, 53, 54, 50, 53] : List UInt8)) = true := beq_iff_eq.mpr c8
      have c8b1 : (t137.toList != ([45, 48, 46, 48, 49, 53, 54, 50, 53] : List UInt8)) = false := bne_eq_false_iff_eq.mpr c8
      clear c8
      replace H := Option.bind_eq_some_iff.mp H
      obtain ⟨t138, A90, H⟩ := H
      try dsimp only at H
      have A9 := Aside0.mk A90
      clear A90
      obtain rfl := Option.some.inj H
      go_enter Tryd.func11, Tryd.ntmps11
      go_wp2_with (first | ((with_reducible refine gate_callee (f := 18) rfl ?_); refine goesL_ (some 6) rfl rfl Tryd.func18 (by kernel_rfl) rfl #[.string (⟨#[49, 46, 53]⟩ : ByteArray), .int .i64 64] rfl goa_ ?_; (with_reducible refine (number_Value.calls k (⟨#[49, 46, 53]⟩ : ByteArray) 64 t133 t134 _ A1.out).mono ?_); rintro e w10 ⟨rfl, hb⟩; refine ⟨_, rfl, ?_⟩; have n0_ := Aside0.mk (below_step bel_ hb); clear HB; have HB := n0_; clear n0_; clear hb) | ((with_reducible refine gate_callee (f := 18) rfl ?_); refine goesL_ (some 10) rfl rfl Tryd.func18 (by kernel_rfl) rfl #[.string (⟨#[49, 101, 49]⟩ : ByteArray), .int .i64 1000] rfl goa_ ?_; (with_reducible refine (number_Value.calls k (⟨#[49, 101, 49]⟩ : ByteArray) 1000 t135 t136 _ A2.out).mono ?_); rintro e w11 ⟨rfl, hb⟩; refine ⟨_, rfl, ?_⟩; have n0_ := Aside0.mk (below_step bel_ hb); clear HB; have HB := n0_; clear n0_; clear hb) | (go_at_call 19; (with_reducible refine (number_Text.calls k (-1) 64 t137 _ A7.out).mono ?_); rintro e w' ⟨rfl, ⟨nd, rfl⟩⟩) | (go_at_call 20; (with_reducible refine (number_Scan.calls (⟨#[49, 50, 46, 112, 120]⟩ : ByteArray) t138 _ A9.out).mono ?_); rintro e w12 ⟨rfl, hb⟩; have n0_ := Aside0.mk (below_step bel_ hb); clear HB; have HB := n0_; clear n0_; clear hb))
      go_ret
      exact ⟨rsl_, bel_⟩
     ·rw [if_neg c8] at H
      exact absurd H (by simp)
    ·rw [if_neg c6] at H
     exact absurd H (by simp)
   ·rw [if_neg c5] at H
    exact absurd H (by simp)
  ·rw [if_neg c4] at H
   exact absurd H (by simp)
 ·rw [if_neg c3] at H
  exact absurd H (by simp)

-- NOT PRINTED: function 3 (parterrelaw02_NumberFloats)

-- NOT PRINTED: function 4 (parterrelaw02_NumberPixels)

end Go.Proofs.YtipjoejaeipgnaaDoor.PFl
