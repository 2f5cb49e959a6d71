-- Written by a program of this session (wip/p2) out of the translation; Lean checks it.
import Derived.Test.YtfccpnpocfjbcaaSq
import Derived.Test.YtfccpnpocfjbcaaPTkx0
import Derived.Test.YtfccpnpocfjbcaaPTkx15
import Derived.Test.YtfccpnpocfjbcaaPTkx16
import Derived.Test.YtfccpnpocfjbcaaPTkx17
import Derived.Test.YtfccpnpocfjbcaaLex8
import Derived.Test.YtfccpnpocfjbcaaRz
namespace Go.Proofs.Ytfccpnpocfjbcaa.PTk
open Go.RowKit Go.Proofs.YtfccpnpocfjbcaaW.PrintWords Go.Proofs.YtfccpnpocfjbcaaW.PrintLast Go.Proofs.YtfccpnpocfjbcaaW.PrintMore
attribute [local go_sem] max2_int min2_int max_two min_two max_three min_three max_four min_four   -- for this text's walks alone
set_option linter.unusedVariables false
set_option linter.unusedSimpArgs false
open Go.Proofs.Ytfccpnpocfjbcaa.Opn Go.Proofs.Ytfccpnpocfjbcaa.Giv

/-! ### parterrelaw04_IdentApart: function 7 -/
def parterrelaw04_IdentApart.j0 : Nat → ByteArray → ByteArray → Bool → Option (Bool)
 | 0, _, _, _ => none
 | k + 1, x0, x1, x15 => if x15 = true then ((parterrelaw04_lives.f).bind fun t310 => (some t310)) else ((ident_Write.f x0).bind fun t311 => ((ident_Write.f x1).bind fun t312 => (if ((t311.toList == t312.toList) != (x0.toList == x1.toList)) = true then (some false) else ((ident_Write.f x0).bind fun t313 => (if 1 + t313.size ≤ 9223372036854775807 then (if ((⟨#[91]⟩ : ByteArray) ++ t313).size + 1 ≤ 9223372036854775807 then ((ident_Write.f x1).bind fun t314 => (if (((⟨#[91]⟩ : ByteArray) ++ t313) ++ (⟨#[32]⟩ : ByteArray)).size + t314.size ≤ 9223372036854775807 then (if ((((⟨#[91]⟩ : ByteArray) ++ t313) ++ (⟨#[32]⟩ : ByteArray)) ++ t314).size + 1 ≤ 9223372036854775807 then (if ((((((⟨#[91]⟩ : ByteArray) ++ t313) ++ (⟨#[32]⟩ : ByteArray)) ++ t314) ++ (⟨#[93]⟩ : ByteArray)).size : Int) ≤ 140737488355328 then ((token_Tokens.f k ((bytesOf (((((⟨#[91]⟩ : ByteArray) ++ t313) ++ (⟨#[32]⟩ : ByteArray)) ++ t314) ++ (⟨#[93]⟩ : ByteArray)) : List Int))).bind fun bt318 => (if bt318.2.2 = 0 then (if (bt318.1.length : Int) = 5 then (if 1 < (bt318.1.length : Int) then (if ((rd_T33 bt318.1 1).f2).toList = x0.toList then (if 2 < (bt318.1.length : Int) then (if ((rd_T33 bt318.1 2).f2).toList = x1.toList then ((parterrelaw04_lives.f).bind fun t325 => (some t325)) else (some false)) else (none)) else (some false)) else (none)) else (some false)) else (some false))) else (none)) else (none)) else (none))) else (none)) else (none))))))
def parterrelaw04_IdentApart.f (k : Nat) (a0 : ByteArray) (a1 : ByteArray) : Option (Bool) := (ident_Name.f a0).bind fun t308 => (if t308 = true then ((ident_Name.f a1).bind fun t309 => (parterrelaw04_IdentApart.j0 k a0 a1 (!t309))) else (parterrelaw04_IdentApart.j0 k a0 a1 true))
theorem parterrelaw04_IdentApart.mono_l : ∀ k, (∀ y0 y1 y2, LeO (parterrelaw04_IdentApart.j0 k y0 y1 y2) (parterrelaw04_IdentApart.j0 (k + 1) y0 y1 y2))
 | 0 => fun _ _ _ r h => by simp [parterrelaw04_IdentApart.j0] at h
 | k + 1 => by
  have ih0 := parterrelaw04_IdentApart.mono_l k
  ·intro y0 y1 y2
   unfold parterrelaw04_IdentApart.j0
   repeat' first
   | (with_reducible exact ih0 _ _ _)
   | (with_reducible exact token_Tokens.mono _ _)
   | (with_reducible exact LeO.refl _)
   | (with_reducible exact LeO.none _)
   | (with_reducible refine LeO.ite ?_ ?_)
   | (with_reducible refine LeO.bind ?_ (fun _ => ?_))
theorem parterrelaw04_IdentApart.mono : ∀ a0 a1 k, LeO (parterrelaw04_IdentApart.f k a0 a1) (parterrelaw04_IdentApart.f (k + 1) a0 a1) := by
 intro a0 a1 k
 have ih0 := parterrelaw04_IdentApart.mono_l k
 unfold parterrelaw04_IdentApart.f
 repeat' first
   | (with_reducible exact ih0 _ _ _)
   | (with_reducible exact token_Tokens.mono _ _)
   | (with_reducible exact LeO.refl _)
   | (with_reducible exact LeO.none _)
   | (with_reducible refine LeO.ite ?_ ?_)
   | (with_reducible refine LeO.bind ?_ (fun _ => ?_))
set_option maxHeartbeats 8000000 in
set_option maxRecDepth 100000 in
theorem parterrelaw04_IdentApart.calls (k : Nat) (a0 : ByteArray) (a1 : ByteArray) (r : Bool) (w : World) (h : parterrelaw04_IdentApart.f k a0 a1 = some r) :
  Calls Try.prog 7 #[.string a0, .string a1] w fun e w' => e = .returned (.bool r) ∧ Below w.heap.size w w' := by
 have HB := Aside0.mk (Below.refl w.heap.size w)
 have H : ((ident_Name.f a0).bind fun t308 => (if t308 = true then ((ident_Name.f a1).bind fun t309 => (parterrelaw04_IdentApart.j0 k a0 a1 (!t309))) else (parterrelaw04_IdentApart.j0 k a0 a1 true))) = some r := h
 clear h
 have HC3 := Aside0.mk H
 clear H
 go_enter Try.func7, Try.ntmps7
 go_upto_region 1 with (fail)
 go_cut [15] (fun v15 wc => ∃ (kq : Nat) (x15_2 : Bool), v15 = .bool x15_2 ∧ Aside0 (parterrelaw04_IdentApart.j0 kq a0 a1 x15_2 = some r) ∧ Aside0 (kq ≤ k) ∧ Aside0 (Below w.heap.size w wc))
 case first =>
  have H := HC3.out
  clear HC3
  replace H := Option.bind_eq_some_iff.mp H
  obtain ⟨t308, A40, H⟩ := H
  try dsimp only at H
  have A4 := Aside0.mk A40
  clear A40
  by_cases c5 : t308 = true
  ·subst c5
   rw [if_pos rfl] at H
   replace H := Option.bind_eq_some_iff.mp H
   obtain ⟨t309, A60, H⟩ := H
   try dsimp only at H
   have A6 := Aside0.mk A60
   clear A60
   have H' := Aside0.mk H
   clear H
   go_wp2_with (first | ((with_reducible refine gate_callee (f := 16) rfl ?_); refine goesL_ (some 9) rfl rfl Try.func16 (by kernel_rfl) rfl #[.string a0] rfl goa_ ?_; (with_reducible refine (ident_Name.calls a0 true _ A4.out).mono ?_); rintro e w' ⟨rfl, ⟨nd, rfl⟩⟩; refine ⟨_, rfl, ?_⟩) | (go_at_call 16; (with_reducible refine (ident_Name.calls a1 t309 _ A6.out).mono ?_); rintro e w' ⟨rfl, ⟨nd, rfl⟩⟩))
   go_meet
   case rel => exact ⟨_, (!t309), rfs_, (by first | exact H' | (subst_vars; exact H')), ⟨ole_⟩, ⟨bel_⟩⟩
  ·replace c5 := Bool.eq_false_iff.mpr c5
   subst c5
   rw [if_neg (show ¬ (false = true) by decide)] at H
   have H' := Aside0.mk H
   clear H
   go_wp2_with (first | ((with_reducible refine gate_callee (f := 16) rfl ?_); refine goesL_ (some 9) rfl rfl Try.func16 (by kernel_rfl) rfl #[.string a0] rfl goa_ ?_; (with_reducible refine (ident_Name.calls a0 false _ A4.out).mono ?_); rintro e w' ⟨rfl, ⟨nd, rfl⟩⟩; refine ⟨_, rfl, ?_⟩))
   go_meet
   case rel => exact ⟨_, (true), rfs_, (by first | exact H' | (subst_vars; exact H')), ⟨ole_⟩, ⟨bel_⟩⟩
 case rest =>
  clear HC3
  try clear c1
  try clear p2
  try clear c5
  obtain ⟨kq, x15_2, rfl, HA, HJ2, HB⟩ := hcut
  cases kq with
  | zero => exact absurd HA.out (by simp [parterrelaw04_IdentApart.j0])
  | succ kj2 =>
   have H := HA.out
   clear HA
   simp only [parterrelaw04_IdentApart.j0] at H
   by_cases c7 : x15_2 = true
   ·subst c7
    rw [if_pos rfl] at H
    replace H := Option.bind_eq_some_iff.mp H
    obtain ⟨t310, A80, H⟩ := H
    try dsimp only at H
    have A8 := Aside0.mk A80
    clear A80
    obtain rfl := Option.some.inj H
    go_wp2_with (first | ((with_reducible refine gate_callee (f := 14) rfl ?_); refine goesL_ (some 16) rfl rfl Try.func14 (by kernel_rfl) rfl #[] rfl goa_ ?_; (with_reducible refine (parterrelaw04_lives.calls  t310 _ A8.out).mono ?_); rintro e w9 ⟨rfl, hb⟩; refine ⟨_, rfl, ?_⟩; have n0_ := Aside0.mk (below_step bel_ hb); clear HB; have HB := n0_; clear n0_; clear hb))
    go_ret
    exact ⟨rsl_, bel_⟩
   ·replace c7 := Bool.eq_false_iff.mpr c7
    subst c7
    rw [if_neg (show ¬ (false = true) by decide)] at H
    replace H := Option.bind_eq_some_iff.mp H
    obtain ⟨t311, A100, H⟩ := H
    try dsimp only at H
    have A10 := Aside0.mk A100
    clear A100
    replace H := Option.bind_eq_some_iff.mp H
    obtain ⟨t312, A110, H⟩ := H
    try dsimp only at H
    have A11 := Aside0.mk A110
    clear A110
    by_cases c12 : ((t311.toList == t312.toList) != (a0.toList == a1.toList)) = true
    ·rw [if_pos c12] at H
     have c12b0 : ((t311.toList == t312.toList) != (a0.toList == a1.toList)) = true := c12
     (try (have c12b1 : decide ((t311.toList == t312.toList) = (a0.toList == a1.toList)) = false := by simpa using c12))
     (try (have c12b2 : ((t311.toList == t312.toList) == (a0.toList == a1.toList)) = false := by simpa using c12))
     (try (have c12b3 : ¬ ((t311.toList == t312.toList) = (a0.toList == a1.toList)) := by simpa using c12))
     clear c12
     obtain rfl := Option.some.inj H
     go_wp2_with (first | ((with_reducible refine gate_callee (f := 15) rfl ?_); refine goesL_ (some 18) rfl rfl Try.func15 (by kernel_rfl) rfl #[.string a0] rfl goa_ ?_; (with_reducible refine (ident_Write.calls a0 t311 _ A10.out).mono ?_); rintro e w13 ⟨rfl, hb⟩; refine ⟨_, rfl, ?_⟩; have n0_ := Aside0.mk (below_step bel_ hb); clear HB; have HB := n0_; clear n0_; clear hb) | ((with_reducible refine gate_callee (f := 15) rfl ?_); refine goesL_ (some 20) rfl rfl Try.func15 (by kernel_rfl) rfl #[.string a1] rfl goa_ ?_; (with_reducible refine (ident_Write.calls a1 t312 _ A11.out).mono ?_); rintro e w14 ⟨rfl, hb⟩; refine ⟨_, rfl, ?_⟩; have n0_ := Aside0.mk (below_step bel_ hb); clear HB; have HB := n0_; clear n0_; clear hb))
     go_ret
     exact ⟨rsl_, bel_⟩
    ·rw [if_neg c12] at H
     have c12b0 : ((t311.toList == t312.toList) != (a0.toList == a1.toList)) = false := by simpa using c12
     (try (have c12b1 : decide ((t311.toList == t312.toList) = (a0.toList == a1.toList)) = true := by simpa using c12))
     (try (have c12b2 : ((t311.toList == t312.toList) == (a0.toList == a1.toList)) = true := by simpa using c12))
     clear c12
     replace H := Option.bind_eq_some_iff.mp H
     obtain ⟨t313, A150, H⟩ := H
     try dsimp only at H
     have A15 := Aside0.mk A150
     clear A150
     by_cases c16 : 1 + t313.size ≤ 9223372036854775807
     ·rw [if_pos c16] at H
      have c16b0 := eq_true c16
      have c16b1 : decide (1 + t313.size ≤ 9223372036854775807) = true := decide_eq_true c16
      try have c16b2 : (9223372036854775807 < 1 + t313.size) = False := eq_false (Nat.not_lt.2 c16)
      by_cases c17 : ((⟨#[91]⟩ : ByteArray) ++ t313).size + 1 ≤ 9223372036854775807
      ·rw [if_pos c17] at H
       have c17b0 := eq_true c17
       have c17b1 : decide (((⟨#[91]⟩ : ByteArray) ++ t313).size + 1 ≤ 9223372036854775807) = true := decide_eq_true c17
       try have c17b2 : (9223372036854775807 < ((⟨#[91]⟩ : ByteArray) ++ t313).size + 1) = False := eq_false (Nat.not_lt.2 c17)
       try have c17b3 : (9223372036854775807 < 1 + t313.size + 1) = False := eq_false (Nat.not_lt.2 (by have h_ := c17; simp only [ByteArray.size_append] at h_; exact h_))
       replace H := Option.bind_eq_some_iff.mp H
       obtain ⟨t314, A180, H⟩ := H
       try dsimp only at H
       have A18 := Aside0.mk A180
       clear A180
       by_cases c19 : (((⟨#[91]⟩ : ByteArray) ++ t313) ++ (⟨#[32]⟩ : ByteArray)).size + t314.size ≤ 9223372036854775807
       ·rw [if_pos c19] at H
        have c19b0 := eq_true c19
        have c19b1 : decide ((((⟨#[91]⟩ : ByteArray) ++ t313) ++ (⟨#[32]⟩ : ByteArray)).size + t314.size ≤ 9223372036854775807) = true := decide_eq_true c19
        try have c19b2 : (9223372036854775807 < (((⟨#[91]⟩ : ByteArray) ++ t313) ++ (⟨#[32]⟩ : ByteArray)).size + t314.size) = False := eq_false (Nat.not_lt.2 c19)
        try have c19b3 : (9223372036854775807 < 1 + t313.size + 1 + t314.size) = False := eq_false (Nat.not_lt.2 (by have h_ := c19; simp only [ByteArray.size_append] at h_; exact h_))
        by_cases c20 : ((((⟨#[91]⟩ : ByteArray) ++ t313) ++ (⟨#[32]⟩ : ByteArray)) ++ t314).size + 1 ≤ 9223372036854775807
        ·rw [if_pos c20] at H
         have c20b0 := eq_true c20
         have c20b1 : decide (((((⟨#[91]⟩ : ByteArray) ++ t313) ++ (⟨#[32]⟩ : ByteArray)) ++ t314).size + 1 ≤ 9223372036854775807) = true := decide_eq_true c20
         try have c20b2 : (9223372036854775807 < ((((⟨#[91]⟩ : ByteArray) ++ t313) ++ (⟨#[32]⟩ : ByteArray)) ++ t314).size + 1) = False := eq_false (Nat.not_lt.2 c20)
         try have c20b3 : (9223372036854775807 < 1 + t313.size + 1 + t314.size + 1) = False := eq_false (Nat.not_lt.2 (by have h_ := c20; simp only [ByteArray.size_append] at h_; exact h_))
         by_cases c21 : ((((((⟨#[91]⟩ : ByteArray) ++ t313) ++ (⟨#[32]⟩ : ByteArray)) ++ t314) ++ (⟨#[93]⟩ : ByteArray)).size : Int) ≤ 140737488355328
         ·rw [if_pos c21] at H
          have c21b0 := eq_true c21
          have c21b1 : decide (((((((⟨#[91]⟩ : ByteArray) ++ t313) ++ (⟨#[32]⟩ : ByteArray)) ++ t314) ++ (⟨#[93]⟩ : ByteArray)).size : Int) ≤ 140737488355328) = true := decide_eq_true c21
          obtain ⟨y315, hy315⟩ : ∃ y_ : List Int, y_ = ((bytesOf (((((⟨#[91]⟩ : ByteArray) ++ t313) ++ (⟨#[32]⟩ : ByteArray)) ++ t314) ++ (⟨#[93]⟩ : ByteArray)) : List Int)) := ⟨_, rfl⟩
          replace H : ((token_Tokens.f kj2 y315).bind fun bt318 => (if bt318.2.2 = 0 then (if (bt318.1.length : Int) = 5 then (if 1 < (bt318.1.length : Int) then (if ((rd_T33 bt318.1 1).f2).toList = a0.toList then (if 2 < (bt318.1.length : Int) then (if ((rd_T33 bt318.1 2).f2).toList = a1.toList then ((parterrelaw04_lives.f).bind fun t325 => (some t325)) else (some false)) else (none)) else (some false)) else (none)) else (some false)) else (some false))) = some r := by first | (rw [hy315]; with_reducible exact H) | (have H2_ := (Option.bind_some _ _).symm.trans H; rw [hy315]; with_reducible exact H2_) | (have H2_ := (Option.bind_some _ _).symm.trans H; with_reducible exact H2_) | with_reducible exact H | (rw [hy315]; exact H) | exact H
          have Ny315 := Aside0.mk hy315
          clear hy315
          replace H := Option.bind_eq_some_iff.mp H
          obtain ⟨⟨t318, t319, t320⟩, A220, H⟩ := H
          try dsimp only at H
          have A22 := Aside0.mk A220
          clear A220
          by_cases c23 : t320 = 0
          ·rw [if_pos c23] at H
           have c23b0 : (t320 == 0) = true := beq_iff_eq.mpr c23
           have c23b1 : (t320 != 0) = false := bne_eq_false_iff_eq.mpr c23
           clear c23
           by_cases c24 : (t318.length : Int) = 5
           ·rw [if_pos c24] at H
            have c24b0 : ((t318.length : Int) == 5) = true := beq_iff_eq.mpr c24
            have c24b1 : ((t318.length : Int) != 5) = false := bne_eq_false_iff_eq.mpr c24
            clear c24
            by_cases c25 : 1 < (t318.length : Int)
            ·rw [if_pos c25] at H
             have c25b0 : decide (1 < (t318.length : Int)) = true := decide_eq_true c25
             have c25b1 : decide (1 < t318.length) = true := decide_eq_true (by omega)
             clear c25
             by_cases c26 : ((rd_T33 t318 1).f2).toList = a0.toList
             ·rw [if_pos c26] at H
              have c26b0 : (((rd_T33 t318 1).f2).toList == a0.toList) = true := beq_iff_eq.mpr c26
              have c26b1 : (((rd_T33 t318 1).f2).toList != a0.toList) = false := bne_eq_false_iff_eq.mpr c26
              clear c26
              by_cases c27 : 2 < (t318.length : Int)
              ·rw [if_pos c27] at H
               have c27b0 : decide (2 < (t318.length : Int)) = true := decide_eq_true c27
               have c27b1 : decide (2 < t318.length) = true := decide_eq_true (by omega)
               clear c27
               by_cases c28 : ((rd_T33 t318 2).f2).toList = a1.toList
               ·rw [if_pos c28] at H
                have c28b0 : (((rd_T33 t318 2).f2).toList == a1.toList) = true := beq_iff_eq.mpr c28
                have c28b1 : (((rd_T33 t318 2).f2).toList != a1.toList) = false := bne_eq_false_iff_eq.mpr c28
                clear c28
                replace H := Option.bind_eq_some_iff.mp H
                obtain ⟨t325, A290, H⟩ := H
                try dsimp only at H
                have A29 := Aside0.mk A290
                clear A290
                obtain rfl := Option.some.inj H
                go_wp2_with (first | ((with_reducible refine gate_callee (f := 15) rfl ?_); refine goesL_ (some 18) rfl rfl Try.func15 (by kernel_rfl) rfl #[.string a0] rfl goa_ ?_; (with_reducible refine (ident_Write.calls a0 t311 _ A10.out).mono ?_); rintro e w30 ⟨rfl, hb⟩; refine ⟨_, rfl, ?_⟩; have n0_ := Aside0.mk (below_step bel_ hb); clear HB; have HB := n0_; clear n0_; clear hb) | ((with_reducible refine gate_callee (f := 15) rfl ?_); refine goesL_ (some 20) rfl rfl Try.func15 (by kernel_rfl) rfl #[.string a1] rfl goa_ ?_; (with_reducible refine (ident_Write.calls a1 t312 _ A11.out).mono ?_); rintro e w31 ⟨rfl, hb⟩; refine ⟨_, rfl, ?_⟩; have n0_ := Aside0.mk (below_step bel_ hb); clear HB; have HB := n0_; clear n0_; clear hb) | ((with_reducible refine gate_callee (f := 15) rfl ?_); refine goesL_ (some 28) rfl rfl Try.func15 (by kernel_rfl) rfl #[.string a0] rfl goa_ ?_; (with_reducible refine (ident_Write.calls a0 t313 _ A15.out).mono ?_); rintro e w32 ⟨rfl, hb⟩; refine ⟨_, rfl, ?_⟩; have n0_ := Aside0.mk (below_step bel_ hb); clear HB; have HB := n0_; clear n0_; clear hb) | ((with_reducible refine gate_callee (f := 15) rfl ?_); refine goesL_ (some 32) rfl rfl Try.func15 (by kernel_rfl) rfl #[.string a1] rfl goa_ ?_; (with_reducible refine (ident_Write.calls a1 t314 _ A18.out).mono ?_); rintro e w33 ⟨rfl, hb⟩; refine ⟨_, rfl, ?_⟩; have n0_ := Aside0.mk (below_step bel_ hb); clear HB; have HB := n0_; clear n0_; clear hb) | ((with_reducible refine gate_dst (N := 35) rfl ?_); (try (refine gate_guard (by rfl) ?_; dsimp only)); refine Kd.Z_bytes _ 5 9 27 ?hg (N := 35) ?hd (x := .tmp 34) (((((⟨#[91]⟩ : ByteArray) ++ t313) ++ (⟨#[32]⟩ : ByteArray)) ++ t314) ++ (⟨#[93]⟩ : ByteArray)) ?ho ?hx Try.underlying9 Try.underlying27 Try.underlying5 ?hm (Below.refl _ _) (Nat.le_refl _) ?_; (case hd => rfl); (case hg => rfl); (case ho => rfl); (case hx => first | rfl | (go_simp; done)); (case hm => have h_ : ((((((⟨#[91]⟩ : ByteArray) ++ t313) ++ (⟨#[32]⟩ : ByteArray)) ++ t314) ++ (⟨#[93]⟩ : ByteArray)).size : Int) ≤ 140737488355328 := of_decide_eq_true (by first | (with_reducible assumption) | assumption); omega); intro v316 w34 ho35 hb hg_ hnew_; clear hg_ hnew_; (first | rw [← Ny315.out] at ho35 | (simp only [Int.reduceToNat] at ho35; rw [← Ny315.out] at ho35)); have n0_ := Aside0.mk (Kd.Z_lower ho35 (below_size bel_)); have n1_ := Aside0.mk (below_step bel_ hb); clear HB; have HO317 := n0_; have HB := n1_; clear n0_ n1_; clear hb ho35; obtain ⟨Ao36, co36, eo36⟩ := Kd.Z_slice HO317.out; subst eo36) | ((with_reducible refine gate_callee (f := 13) rfl ?_); refine goesL_ (some 36) rfl rfl Try.func13 (by kernel_rfl) rfl #[.slice Ao36 y315.length co36] rfl goa_ ?_; (with_reducible refine (token_Tokens.calls kj2 _ _ y315 t318 t319 t320 _ ?side1 ?side2 A22.out).mono ?_); (case side1 => repeat (first | exact (Kd.Z_reads' HO317.out).2.2 | (with_reducible refine Kd.C_alloc ?_ _) | (with_reducible refine Kd.C_drewN ?_ _) | (with_reducible refine Kd.C_drew ?_))); (case side2 => exact (Kd.Z_reads' HO317.out).2.1); rintro e w37 ⟨v321, rfl, ho0, hb⟩; refine ⟨_, rfl, ?_⟩; have n0_ := Aside0.mk (Kd.Z_below (by (with_reducible repeat (first | apply Kd.Z_alloc | apply Kd.Z_drewN | apply Kd.Z_drew)); exact HO317.out) hb); have n1_ := Aside0.mk (Kd.R_lower ho0 (below_size bel_)); have n2_ := Aside0.mk (below_step bel_ hb); clear HO317; clear HB; have HO317 := n0_; have HO322 := n1_; have HB := n2_; clear n0_ n1_ n2_; (try clear hb); (try clear hb2); (try clear hk); (try clear hi); (try clear ho0); obtain ⟨Ao38, co38, eo38⟩ := Kd.R_slice HO322.out; subst eo38; have p323 : 0 ≤ (1 : Int) := (by omega); have q323 : 1 < (t318.length : Int) := of_decide_eq_true (by first | (with_reducible assumption) | assumption); obtain ⟨ad323, e323, hx323_0, hx323_1, hx323_2, hx323_3⟩ := at_T33 (Kd.R_reads' HO322.out).2.2 1 p323 q323; cases e323; (try simp only [show (1 : Int).toNat = 1 from rfl, Nat.reduceMul, Nat.reduceEqDiff, Go.Addr.add, ↓reduceIte] at hx323_0); (try simp only [show (1 : Int).toNat = 1 from rfl, Nat.reduceMul, Nat.reduceEqDiff, Go.Addr.add, ↓reduceIte] at hx323_1); (try simp only [show (1 : Int).toNat = 1 from rfl, Nat.reduceMul, Nat.reduceEqDiff, Go.Addr.add, ↓reduceIte] at hx323_2); (try simp only [show (1 : Int).toNat = 1 from rfl, Nat.reduceMul, Nat.reduceEqDiff, Go.Addr.add, ↓reduceIte] at hx323_3); have qi323 : (1 < t318.length) = True := eq_true (by omega); (try rw [show ((1 : Int)).toNat = 1 from rfl] at hx323_0); (try rw [show 1 * 4 = 4 from rfl] at hx323_0); (try rw [show ((1 : Int)).toNat = 1 from rfl] at hx323_1); (try rw [show 1 * 4 = 4 from rfl] at hx323_1); (try rw [show ((1 : Int)).toNat = 1 from rfl] at hx323_2); (try rw [show 1 * 4 = 4 from rfl] at hx323_2); (try rw [show ((1 : Int)).toNat = 1 from rfl] at hx323_3); (try rw [show 1 * 4 = 4 from rfl] at hx323_3); replace p323 := eq_true p323; replace q323 := eq_true q323; have p324 : 0 ≤ (2 : Int) := (by omega); have q324 : 2 < (t318.length : Int) := of_decide_eq_true (by first | (with_reducible assumption) | assumption); obtain ⟨ad324, e324, hx324_0, hx324_1, hx324_2, hx324_3⟩ := at_T33 (Kd.R_reads' HO322.out).2.2 2 p324 q324; obtain rfl : ad323 = ad324 := (by injection e324); (try simp only [show (2 : Int).toNat = 2 from rfl, Nat.reduceMul, Nat.reduceEqDiff, Go.Addr.add, ↓reduceIte] at hx324_0); (try simp only [show (2 : Int).toNat = 2 from rfl, Nat.reduceMul, Nat.reduceEqDiff, Go.Addr.add, ↓reduceIte] at hx324_1); (try simp only [show (2 : Int).toNat = 2 from rfl, Nat.reduceMul, Nat.reduceEqDiff, Go.Addr.add, ↓reduceIte] at hx324_2); (try simp only [show (2 : Int).toNat = 2 from rfl, Nat.reduceMul, Nat.reduceEqDiff, Go.Addr.add, ↓reduceIte] at hx324_3); have qi324 : (2 < t318.length) = True := eq_true (by omega); (try rw [show ((2 : Int)).toNat = 2 from rfl] at hx324_0); (try rw [show 2 * 4 = 8 from rfl] at hx324_0); (try rw [show ((2 : Int)).toNat = 2 from rfl] at hx324_1); (try rw [show 2 * 4 = 8 from rfl] at hx324_1); (try rw [show ((2 : Int)).toNat = 2 from rfl] at hx324_2); (try rw [show 2 * 4 = 8 from rfl] at hx324_2); (try rw [show ((2 : Int)).toNat = 2 from rfl] at hx324_3); (try rw [show 2 * 4 = 8 from rfl] at hx324_3); replace p324 := eq_true p324; replace q324 := eq_true q324) | (go_at_call 14; (with_reducible refine (parterrelaw04_lives.calls  t325 _ A29.out).mono ?_); rintro e w39 ⟨rfl, hb⟩; have n0_ := Aside0.mk (Kd.Z_below (by (with_reducible repeat (first | apply Kd.Z_alloc | apply Kd.Z_drewN | apply Kd.Z_drew)); exact HO317.out) hb); have n1_ := Aside0.mk (Kd.R_below (by (with_reducible repeat (first | apply Kd.R_alloc | apply Kd.R_drewN | apply Kd.R_drew)); exact HO322.out) hb); have n2_ := Aside0.mk (below_step bel_ hb); clear HO317; clear HO322; clear HB; have HO317 := n0_; have HO322 := n1_; have HB := n2_; clear n0_ n1_ n2_; clear hb))
                go_ret
                exact ⟨rsl_, bel_⟩
               ·rw [if_neg c28] at H
                have c28b0 : (((rd_T33 t318 2).f2).toList == a1.toList) = false := beq_eq_false_iff_ne.mpr c28
                have c28b1 : (((rd_T33 t318 2).f2).toList != a1.toList) = true := bne_iff_ne.mpr c28
                obtain rfl := Option.some.inj H
                go_wp2_with (first | ((with_reducible refine gate_callee (f := 15) rfl ?_); refine goesL_ (some 18) rfl rfl Try.func15 (by kernel_rfl) rfl #[.string a0] rfl goa_ ?_; (with_reducible refine (ident_Write.calls a0 t311 _ A10.out).mono ?_); rintro e w40 ⟨rfl, hb⟩; refine ⟨_, rfl, ?_⟩; have n0_ := Aside0.mk (below_step bel_ hb); clear HB; have HB := n0_; clear n0_; clear hb) | ((with_reducible refine gate_callee (f := 15) rfl ?_); refine goesL_ (some 20) rfl rfl Try.func15 (by kernel_rfl) rfl #[.string a1] rfl goa_ ?_; (with_reducible refine (ident_Write.calls a1 t312 _ A11.out).mono ?_); rintro e w41 ⟨rfl, hb⟩; refine ⟨_, rfl, ?_⟩; have n0_ := Aside0.mk (below_step bel_ hb); clear HB; have HB := n0_; clear n0_; clear hb) | ((with_reducible refine gate_callee (f := 15) rfl ?_); refine goesL_ (some 28) rfl rfl Try.func15 (by kernel_rfl) rfl #[.string a0] rfl goa_ ?_; (with_reducible refine (ident_Write.calls a0 t313 _ A15.out).mono ?_); rintro e w42 ⟨rfl, hb⟩; refine ⟨_, rfl, ?_⟩; have n0_ := Aside0.mk (below_step bel_ hb); clear HB; have HB := n0_; clear n0_; clear hb) | ((with_reducible refine gate_callee (f := 15) rfl ?_); refine goesL_ (some 32) rfl rfl Try.func15 (by kernel_rfl) rfl #[.string a1] rfl goa_ ?_; (with_reducible refine (ident_Write.calls a1 t314 _ A18.out).mono ?_); rintro e w43 ⟨rfl, hb⟩; refine ⟨_, rfl, ?_⟩; have n0_ := Aside0.mk (below_step bel_ hb); clear HB; have HB := n0_; clear n0_; clear hb) | ((with_reducible refine gate_dst (N := 35) rfl ?_); (try (refine gate_guard (by rfl) ?_; dsimp only)); refine Kd.Z_bytes _ 5 9 27 ?hg (N := 35) ?hd (x := .tmp 34) (((((⟨#[91]⟩ : ByteArray) ++ t313) ++ (⟨#[32]⟩ : ByteArray)) ++ t314) ++ (⟨#[93]⟩ : ByteArray)) ?ho ?hx Try.underlying9 Try.underlying27 Try.underlying5 ?hm (Below.refl _ _) (Nat.le_refl _) ?_; (case hd => rfl); (case hg => rfl); (case ho => rfl); (case hx => first | rfl | (go_simp; done)); (case hm => have h_ : ((((((⟨#[91]⟩ : ByteArray) ++ t313) ++ (⟨#[32]⟩ : ByteArray)) ++ t314) ++ (⟨#[93]⟩ : ByteArray)).size : Int) ≤ 140737488355328 := of_decide_eq_true (by first | (with_reducible assumption) | assumption); omega); intro v316 w44 ho45 hb hg_ hnew_; clear hg_ hnew_; (first | rw [← Ny315.out] at ho45 | (simp only [Int.reduceToNat] at ho45; rw [← Ny315.out] at ho45)); have n0_ := Aside0.mk (Kd.Z_lower ho45 (below_size bel_)); have n1_ := Aside0.mk (below_step bel_ hb); clear HB; have HO317 := n0_; have HB := n1_; clear n0_ n1_; clear hb ho45; obtain ⟨Ao46, co46, eo46⟩ := Kd.Z_slice HO317.out; subst eo46) | ((with_reducible refine gate_callee (f := 13) rfl ?_); refine goesL_ (some 36) rfl rfl Try.func13 (by kernel_rfl) rfl #[.slice Ao46 y315.length co46] rfl goa_ ?_; (with_reducible refine (token_Tokens.calls kj2 _ _ y315 t318 t319 t320 _ ?side1 ?side2 A22.out).mono ?_); (case side1 => repeat (first | exact (Kd.Z_reads' HO317.out).2.2 | (with_reducible refine Kd.C_alloc ?_ _) | (with_reducible refine Kd.C_drewN ?_ _) | (with_reducible refine Kd.C_drew ?_))); (case side2 => exact (Kd.Z_reads' HO317.out).2.1); rintro e w47 ⟨v321, rfl, ho0, hb⟩; refine ⟨_, rfl, ?_⟩; have n0_ := Aside0.mk (Kd.Z_below (by (with_reducible repeat (first | apply Kd.Z_alloc | apply Kd.Z_drewN | apply Kd.Z_drew)); exact HO317.out) hb); have n1_ := Aside0.mk (Kd.R_lower ho0 (below_size bel_)); have n2_ := Aside0.mk (below_step bel_ hb); clear HO317; clear HB; have HO317 := n0_; have HO322 := n1_; have HB := n2_; clear n0_ n1_ n2_; (try clear hb); (try clear hb2); (try clear hk); (try clear hi); (try clear ho0); obtain ⟨Ao48, co48, eo48⟩ := Kd.R_slice HO322.out; subst eo48; have p323 : 0 ≤ (1 : Int) := (by omega); have q323 : 1 < (t318.length : Int) := of_decide_eq_true (by first | (with_reducible assumption) | assumption); obtain ⟨ad323, e323, hx323_0, hx323_1, hx323_2, hx323_3⟩ := at_T33 (Kd.R_reads' HO322.out).2.2 1 p323 q323; cases e323; (try simp only [show (1 : Int).toNat = 1 from rfl, Nat.reduceMul, Nat.reduceEqDiff, Go.Addr.add, ↓reduceIte] at hx323_0); (try simp only [show (1 : Int).toNat = 1 from rfl, Nat.reduceMul, Nat.reduceEqDiff, Go.Addr.add, ↓reduceIte] at hx323_1); (try simp only [show (1 : Int).toNat = 1 from rfl, Nat.reduceMul, Nat.reduceEqDiff, Go.Addr.add, ↓reduceIte] at hx323_2); (try simp only [show (1 : Int).toNat = 1 from rfl, Nat.reduceMul, Nat.reduceEqDiff, Go.Addr.add, ↓reduceIte] at hx323_3); have qi323 : (1 < t318.length) = True := eq_true (by omega); (try rw [show ((1 : Int)).toNat = 1 from rfl] at hx323_0); (try rw [show 1 * 4 = 4 from rfl] at hx323_0); (try rw [show ((1 : Int)).toNat = 1 from rfl] at hx323_1); (try rw [show 1 * 4 = 4 from rfl] at hx323_1); (try rw [show ((1 : Int)).toNat = 1 from rfl] at hx323_2); (try rw [show 1 * 4 = 4 from rfl] at hx323_2); (try rw [show ((1 : Int)).toNat = 1 from rfl] at hx323_3); (try rw [show 1 * 4 = 4 from rfl] at hx323_3); replace p323 := eq_true p323; replace q323 := eq_true q323; have p324 : 0 ≤ (2 : Int) := (by omega); have q324 : 2 < (t318.length : Int) := of_decide_eq_true (by first | (with_reducible assumption) | assumption); obtain ⟨ad324, e324, hx324_0, hx324_1, hx324_2, hx324_3⟩ := at_T33 (Kd.R_reads' HO322.out).2.2 2 p324 q324; obtain rfl : ad323 = ad324 := (by injection e324); (try simp only [show (2 : Int).toNat = 2 from rfl, Nat.reduceMul, Nat.reduceEqDiff, Go.Addr.add, ↓reduceIte] at hx324_0); (try simp only [show (2 : Int).toNat = 2 from rfl, Nat.reduceMul, Nat.reduceEqDiff, Go.Addr.add, ↓reduceIte] at hx324_1); (try simp only [show (2 : Int).toNat = 2 from rfl, Nat.reduceMul, Nat.reduceEqDiff, Go.Addr.add, ↓reduceIte] at hx324_2); (try simp only [show (2 : Int).toNat = 2 from rfl, Nat.reduceMul, Nat.reduceEqDiff, Go.Addr.add, ↓reduceIte] at hx324_3); have qi324 : (2 < t318.length) = True := eq_true (by omega); (try rw [show ((2 : Int)).toNat = 2 from rfl] at hx324_0); (try rw [show 2 * 4 = 8 from rfl] at hx324_0); (try rw [show ((2 : Int)).toNat = 2 from rfl] at hx324_1); (try rw [show 2 * 4 = 8 from rfl] at hx324_1); (try rw [show ((2 : Int)).toNat = 2 from rfl] at hx324_2); (try rw [show 2 * 4 = 8 from rfl] at hx324_2); (try rw [show ((2 : Int)).toNat = 2 from rfl] at hx324_3); (try rw [show 2 * 4 = 8 from rfl] at hx324_3); replace p324 := eq_true p324; replace q324 := eq_true q324))
                go_ret
                exact ⟨rsl_, bel_⟩
              ·rw [if_neg c27] at H
               exact absurd H (by simp)
             ·rw [if_neg c26] at H
              have c26b0 : (((rd_T33 t318 1).f2).toList == a0.toList) = false := beq_eq_false_iff_ne.mpr c26
              have c26b1 : (((rd_T33 t318 1).f2).toList != a0.toList) = true := bne_iff_ne.mpr c26
              obtain rfl := Option.some.inj H
              go_wp2_with (first | ((with_reducible refine gate_callee (f := 15) rfl ?_); refine goesL_ (some 18) rfl rfl Try.func15 (by kernel_rfl) rfl #[.string a0] rfl goa_ ?_; (with_reducible refine (ident_Write.calls a0 t311 _ A10.out).mono ?_); rintro e w49 ⟨rfl, hb⟩; refine ⟨_, rfl, ?_⟩; have n0_ := Aside0.mk (below_step bel_ hb); clear HB; have HB := n0_; clear n0_; clear hb) | ((with_reducible refine gate_callee (f := 15) rfl ?_); refine goesL_ (some 20) rfl rfl Try.func15 (by kernel_rfl) rfl #[.string a1] rfl goa_ ?_; (with_reducible refine (ident_Write.calls a1 t312 _ A11.out).mono ?_); rintro e w50 ⟨rfl, hb⟩; refine ⟨_, rfl, ?_⟩; have n0_ := Aside0.mk (below_step bel_ hb); clear HB; have HB := n0_; clear n0_; clear hb) | ((with_reducible refine gate_callee (f := 15) rfl ?_); refine goesL_ (some 28) rfl rfl Try.func15 (by kernel_rfl) rfl #[.string a0] rfl goa_ ?_; (with_reducible refine (ident_Write.calls a0 t313 _ A15.out).mono ?_); rintro e w51 ⟨rfl, hb⟩; refine ⟨_, rfl, ?_⟩; have n0_ := Aside0.mk (below_step bel_ hb); clear HB; have HB := n0_; clear n0_; clear hb) | ((with_reducible refine gate_callee (f := 15) rfl ?_); refine goesL_ (some 32) rfl rfl Try.func15 (by kernel_rfl) rfl #[.string a1] rfl goa_ ?_; (with_reducible refine (ident_Write.calls a1 t314 _ A18.out).mono ?_); rintro e w52 ⟨rfl, hb⟩; refine ⟨_, rfl, ?_⟩; have n0_ := Aside0.mk (below_step bel_ hb); clear HB; have HB := n0_; clear n0_; clear hb) | ((with_reducible refine gate_dst (N := 35) rfl ?_); (try (refine gate_guard (by rfl) ?_; dsimp only)); refine Kd.Z_bytes _ 5 9 27 ?hg (N := 35) ?hd (x := .tmp 34) (((((⟨#[91]⟩ : ByteArray) ++ t313) ++ (⟨#[32]⟩ : ByteArray)) ++ t314) ++ (⟨#[93]⟩ : ByteArray)) ?ho ?hx Try.underlying9 Try.underlying27 Try.underlying5 ?hm (Below.refl _ _) (Nat.le_refl _) ?_; (case hd => rfl); (case hg => rfl); (case ho => rfl); (case hx => first | rfl | (go_simp; done)); (case hm => have h_ : ((((((⟨#[91]⟩ : ByteArray) ++ t313) ++ (⟨#[32]⟩ : ByteArray)) ++ t314) ++ (⟨#[93]⟩ : ByteArray)).size : Int) ≤ 140737488355328 := of_decide_eq_true (by first | (with_reducible assumption) | assumption); omega); intro v316 w53 ho54 hb hg_ hnew_; clear hg_ hnew_; (first | rw [← Ny315.out] at ho54 | (simp only [Int.reduceToNat] at ho54; rw [← Ny315.out] at ho54)); have n0_ := Aside0.mk (Kd.Z_lower ho54 (below_size bel_)); have n1_ := Aside0.mk (below_step bel_ hb); clear HB; have HO317 := n0_; have HB := n1_; clear n0_ n1_; clear hb ho54; obtain ⟨Ao55, co55, eo55⟩ := Kd.Z_slice HO317.out; subst eo55) | ((with_reducible refine gate_callee (f := 13) rfl ?_); refine goesL_ (some 36) rfl rfl Try.func13 (by kernel_rfl) rfl #[.slice Ao55 y315.length co55] rfl goa_ ?_; (with_reducible refine (token_Tokens.calls kj2 _ _ y315 t318 t319 t320 _ ?side1 ?side2 A22.out).mono ?_); (case side1 => repeat (first | exact (Kd.Z_reads' HO317.out).2.2 | (with_reducible refine Kd.C_alloc ?_ _) | (with_reducible refine Kd.C_drewN ?_ _) | (with_reducible refine Kd.C_drew ?_))); (case side2 => exact (Kd.Z_reads' HO317.out).2.1); rintro e w56 ⟨v321, rfl, ho0, hb⟩; refine ⟨_, rfl, ?_⟩; have n0_ := Aside0.mk (Kd.Z_below (by (with_reducible repeat (first | apply Kd.Z_alloc | apply Kd.Z_drewN | apply Kd.Z_drew)); exact HO317.out) hb); have n1_ := Aside0.mk (Kd.R_lower ho0 (below_size bel_)); have n2_ := Aside0.mk (below_step bel_ hb); clear HO317; clear HB; have HO317 := n0_; have HO322 := n1_; have HB := n2_; clear n0_ n1_ n2_; (try clear hb); (try clear hb2); (try clear hk); (try clear hi); (try clear ho0); obtain ⟨Ao57, co57, eo57⟩ := Kd.R_slice HO322.out; subst eo57; have p323 : 0 ≤ (1 : Int) := (by omega); have q323 : 1 < (t318.length : Int) := of_decide_eq_true (by first | (with_reducible assumption) | assumption); obtain ⟨ad323, e323, hx323_0, hx323_1, hx323_2, hx323_3⟩ := at_T33 (Kd.R_reads' HO322.out).2.2 1 p323 q323; cases e323; (try simp only [show (1 : Int).toNat = 1 from rfl, Nat.reduceMul, Nat.reduceEqDiff, Go.Addr.add, ↓reduceIte] at hx323_0); (try simp only [show (1 : Int).toNat = 1 from rfl, Nat.reduceMul, Nat.reduceEqDiff, Go.Addr.add, ↓reduceIte] at hx323_1); (try simp only [show (1 : Int).toNat = 1 from rfl, Nat.reduceMul, Nat.reduceEqDiff, Go.Addr.add, ↓reduceIte] at hx323_2); (try simp only [show (1 : Int).toNat = 1 from rfl, Nat.reduceMul, Nat.reduceEqDiff, Go.Addr.add, ↓reduceIte] at hx323_3); have qi323 : (1 < t318.length) = True := eq_true (by omega); (try rw [show ((1 : Int)).toNat = 1 from rfl] at hx323_0); (try rw [show 1 * 4 = 4 from rfl] at hx323_0); (try rw [show ((1 : Int)).toNat = 1 from rfl] at hx323_1); (try rw [show 1 * 4 = 4 from rfl] at hx323_1); (try rw [show ((1 : Int)).toNat = 1 from rfl] at hx323_2); (try rw [show 1 * 4 = 4 from rfl] at hx323_2); (try rw [show ((1 : Int)).toNat = 1 from rfl] at hx323_3); (try rw [show 1 * 4 = 4 from rfl] at hx323_3); replace p323 := eq_true p323; replace q323 := eq_true q323))
              go_ret
              exact ⟨rsl_, bel_⟩
            ·rw [if_neg c25] at H
             exact absurd H (by simp)
           ·rw [if_neg c24] at H
            have c24b0 : ((t318.length : Int) == 5) = false := beq_eq_false_iff_ne.mpr c24
            have c24b1 : ((t318.length : Int) != 5) = true := bne_iff_ne.mpr c24
            obtain rfl := Option.some.inj H
            go_wp2_with (first | ((with_reducible refine gate_callee (f := 15) rfl ?_); refine goesL_ (some 18) rfl rfl Try.func15 (by kernel_rfl) rfl #[.string a0] rfl goa_ ?_; (with_reducible refine (ident_Write.calls a0 t311 _ A10.out).mono ?_); rintro e w58 ⟨rfl, hb⟩; refine ⟨_, rfl, ?_⟩; have n0_ := Aside0.mk (below_step bel_ hb); clear HB; have HB := n0_; clear n0_; clear hb) | ((with_reducible refine gate_callee (f := 15) rfl ?_); refine goesL_ (some 20) rfl rfl Try.func15 (by kernel_rfl) rfl #[.string a1] rfl goa_ ?_; (with_reducible refine (ident_Write.calls a1 t312 _ A11.out).mono ?_); rintro e w59 ⟨rfl, hb⟩; refine ⟨_, rfl, ?_⟩; have n0_ := Aside0.mk (below_step bel_ hb); clear HB; have HB := n0_; clear n0_; clear hb) | ((with_reducible refine gate_callee (f := 15) rfl ?_); refine goesL_ (some 28) rfl rfl Try.func15 (by kernel_rfl) rfl #[.string a0] rfl goa_ ?_; (with_reducible refine (ident_Write.calls a0 t313 _ A15.out).mono ?_); rintro e w60 ⟨rfl, hb⟩; refine ⟨_, rfl, ?_⟩; have n0_ := Aside0.mk (below_step bel_ hb); clear HB; have HB := n0_; clear n0_; clear hb) | ((with_reducible refine gate_callee (f := 15) rfl ?_); refine goesL_ (some 32) rfl rfl Try.func15 (by kernel_rfl) rfl #[.string a1] rfl goa_ ?_; (with_reducible refine (ident_Write.calls a1 t314 _ A18.out).mono ?_); rintro e w61 ⟨rfl, hb⟩; refine ⟨_, rfl, ?_⟩; have n0_ := Aside0.mk (below_step bel_ hb); clear HB; have HB := n0_; clear n0_; clear hb) | ((with_reducible refine gate_dst (N := 35) rfl ?_); (try (refine gate_guard (by rfl) ?_; dsimp only)); refine Kd.Z_bytes _ 5 9 27 ?hg (N := 35) ?hd (x := .tmp 34) (((((⟨#[91]⟩ : ByteArray) ++ t313) ++ (⟨#[32]⟩ : ByteArray)) ++ t314) ++ (⟨#[93]⟩ : ByteArray)) ?ho ?hx Try.underlying9 Try.underlying27 Try.underlying5 ?hm (Below.refl _ _) (Nat.le_refl _) ?_; (case hd => rfl); (case hg => rfl); (case ho => rfl); (case hx => first | rfl | (go_simp; done)); (case hm => have h_ : ((((((⟨#[91]⟩ : ByteArray) ++ t313) ++ (⟨#[32]⟩ : ByteArray)) ++ t314) ++ (⟨#[93]⟩ : ByteArray)).size : Int) ≤ 140737488355328 := of_decide_eq_true (by first | (with_reducible assumption) | assumption); omega); intro v316 w62 ho63 hb hg_ hnew_; clear hg_ hnew_; (first | rw [← Ny315.out] at ho63 | (simp only [Int.reduceToNat] at ho63; rw [← Ny315.out] at ho63)); have n0_ := Aside0.mk (Kd.Z_lower ho63 (below_size bel_)); have n1_ := Aside0.mk (below_step bel_ hb); clear HB; have HO317 := n0_; have HB := n1_; clear n0_ n1_; clear hb ho63; obtain ⟨Ao64, co64, eo64⟩ := Kd.Z_slice HO317.out; subst eo64) | ((with_reducible refine gate_callee (f := 13) rfl ?_); refine goesL_ (some 36) rfl rfl Try.func13 (by kernel_rfl) rfl #[.slice Ao64 y315.length co64] rfl goa_ ?_; (with_reducible refine (token_Tokens.calls kj2 _ _ y315 t318 t319 t320 _ ?side1 ?side2 A22.out).mono ?_); (case side1 => repeat (first | exact (Kd.Z_reads' HO317.out).2.2 | (with_reducible refine Kd.C_alloc ?_ _) | (with_reducible refine Kd.C_drewN ?_ _) | (with_reducible refine Kd.C_drew ?_))); (case side2 => exact (Kd.Z_reads' HO317.out).2.1); rintro e w65 ⟨v321, rfl, ho0, hb⟩; refine ⟨_, rfl, ?_⟩; have n0_ := Aside0.mk (Kd.Z_below (by (with_reducible repeat (first | apply Kd.Z_alloc | apply Kd.Z_drewN | apply Kd.Z_drew)); exact HO317.out) hb); have n1_ := Aside0.mk (Kd.R_lower ho0 (below_size bel_)); have n2_ := Aside0.mk (below_step bel_ hb); clear HO317; clear HB; have HO317 := n0_; have HO322 := n1_; have HB := n2_; clear n0_ n1_ n2_; (try clear hb); (try clear hb2); (try clear hk); (try clear hi); (try clear ho0); obtain ⟨Ao66, co66, eo66⟩ := Kd.R_slice HO322.out; subst eo66))
            go_ret
            exact ⟨rsl_, bel_⟩
          ·rw [if_neg c23] at H
           have c23b0 : (t320 == 0) = false := beq_eq_false_iff_ne.mpr c23
           have c23b1 : (t320 != 0) = true := bne_iff_ne.mpr c23
           obtain rfl := Option.some.inj H
           go_wp2_with (first | ((with_reducible refine gate_callee (f := 15) rfl ?_); refine goesL_ (some 18) rfl rfl Try.func15 (by kernel_rfl) rfl #[.string a0] rfl goa_ ?_; (with_reducible refine (ident_Write.calls a0 t311 _ A10.out).mono ?_); rintro e w67 ⟨rfl, hb⟩; refine ⟨_, rfl, ?_⟩; have n0_ := Aside0.mk (below_step bel_ hb); clear HB; have HB := n0_; clear n0_; clear hb) | ((with_reducible refine gate_callee (f := 15) rfl ?_); refine goesL_ (some 20) rfl rfl Try.func15 (by kernel_rfl) rfl #[.string a1] rfl goa_ ?_; (with_reducible refine (ident_Write.calls a1 t312 _ A11.out).mono ?_); rintro e w68 ⟨rfl, hb⟩; refine ⟨_, rfl, ?_⟩; have n0_ := Aside0.mk (below_step bel_ hb); clear HB; have HB := n0_; clear n0_; clear hb) | ((with_reducible refine gate_callee (f := 15) rfl ?_); refine goesL_ (some 28) rfl rfl Try.func15 (by kernel_rfl) rfl #[.string a0] rfl goa_ ?_; (with_reducible refine (ident_Write.calls a0 t313 _ A15.out).mono ?_); rintro e w69 ⟨rfl, hb⟩; refine ⟨_, rfl, ?_⟩; have n0_ := Aside0.mk (below_step bel_ hb); clear HB; have HB := n0_; clear n0_; clear hb) | ((with_reducible refine gate_callee (f := 15) rfl ?_); refine goesL_ (some 32) rfl rfl Try.func15 (by kernel_rfl) rfl #[.string a1] rfl goa_ ?_; (with_reducible refine (ident_Write.calls a1 t314 _ A18.out).mono ?_); rintro e w70 ⟨rfl, hb⟩; refine ⟨_, rfl, ?_⟩; have n0_ := Aside0.mk (below_step bel_ hb); clear HB; have HB := n0_; clear n0_; clear hb) | ((with_reducible refine gate_dst (N := 35) rfl ?_); (try (refine gate_guard (by rfl) ?_; dsimp only)); refine Kd.Z_bytes _ 5 9 27 ?hg (N := 35) ?hd (x := .tmp 34) (((((⟨#[91]⟩ : ByteArray) ++ t313) ++ (⟨#[32]⟩ : ByteArray)) ++ t314) ++ (⟨#[93]⟩ : ByteArray)) ?ho ?hx Try.underlying9 Try.underlying27 Try.underlying5 ?hm (Below.refl _ _) (Nat.le_refl _) ?_; (case hd => rfl); (case hg => rfl); (case ho => rfl); (case hx => first | rfl | (go_simp; done)); (case hm => have h_ : ((((((⟨#[91]⟩ : ByteArray) ++ t313) ++ (⟨#[32]⟩ : ByteArray)) ++ t314) ++ (⟨#[93]⟩ : ByteArray)).size : Int) ≤ 140737488355328 := of_decide_eq_true (by first | (with_reducible assumption) | assumption); omega); intro v316 w71 ho72 hb hg_ hnew_; clear hg_ hnew_; (first | rw [← Ny315.out] at ho72 | (simp only [Int.reduceToNat] at ho72; rw [← Ny315.out] at ho72)); have n0_ := Aside0.mk (Kd.Z_lower ho72 (below_size bel_)); have n1_ := Aside0.mk (below_step bel_ hb); clear HB; have HO317 := n0_; have HB := n1_; clear n0_ n1_; clear hb ho72; obtain ⟨Ao73, co73, eo73⟩ := Kd.Z_slice HO317.out; subst eo73) | ((with_reducible refine gate_callee (f := 13) rfl ?_); refine goesL_ (some 36) rfl rfl Try.func13 (by kernel_rfl) rfl #[.slice Ao73 y315.length co73] rfl goa_ ?_; (with_reducible refine (token_Tokens.calls kj2 _ _ y315 t318 t319 t320 _ ?side1 ?side2 A22.out).mono ?_); (case side1 => repeat (first | exact (Kd.Z_reads' HO317.out).2.2 | (with_reducible refine Kd.C_alloc ?_ _) | (with_reducible refine Kd.C_drewN ?_ _) | (with_reducible refine Kd.C_drew ?_))); (case side2 => exact (Kd.Z_reads' HO317.out).2.1); rintro e w74 ⟨v321, rfl, ho0, hb⟩; refine ⟨_, rfl, ?_⟩; have n0_ := Aside0.mk (Kd.Z_below (by (with_reducible repeat (first | apply Kd.Z_alloc | apply Kd.Z_drewN | apply Kd.Z_drew)); exact HO317.out) hb); have n1_ := Aside0.mk (Kd.R_lower ho0 (below_size bel_)); have n2_ := Aside0.mk (below_step bel_ hb); clear HO317; clear HB; have HO317 := n0_; have HO322 := n1_; have HB := n2_; clear n0_ n1_ n2_; (try clear hb); (try clear hb2); (try clear hk); (try clear hi); (try clear ho0)))
           go_ret
           exact ⟨rsl_, bel_⟩
         ·rw [if_neg c21] at H
          exact absurd H (by simp)
        ·rw [if_neg c20] at H
         exact absurd H (by simp)
       ·rw [if_neg c19] at H
        exact absurd H (by simp)
      ·rw [if_neg c17] at H
       exact absurd H (by simp)
     ·rw [if_neg c16] at H
      exact absurd H (by simp)

/-- THE ONE PURE STATEMENT of parterrelaw04_IdentApart. -/
def parterrelaw04_IdentApart.Pure : Prop := ∀ (a0 : ByteArray) (a1 : ByteArray), gStr a0 → gStr a1 → ∃ k, parterrelaw04_IdentApart.f k a0 a1 = some true

end Go.Proofs.Ytfccpnpocfjbcaa.PTk
