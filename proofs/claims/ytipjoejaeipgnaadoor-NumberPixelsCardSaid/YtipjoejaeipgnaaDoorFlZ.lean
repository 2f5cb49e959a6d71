/- Contracts of the two statements on floats. Conditions: as each theorem says. -/
import Derived.Test.YtipjoejaeipgnaaDoorPFlx6
import Derived.Test.YtipjoejaeipgnaaDoorPFlx8
import Derived.Test.YtipjoejaeipgnaaDoorFlY
namespace Go.Proofs.YtipjoejaeipgnaaDoor.Giv
open Go.RowKit Go.Proofs.YtipjoejaeipgnaaDoorW.PrintWords Go.Proofs.YtipjoejaeipgnaaDoorW.PrintLast Go.Proofs.YtipjoejaeipgnaaDoorW.PrintMore Go.Proofs.YtipjoejaeipgnaaDoor.PFl
open Go.Proofs.YtipjoejaeipgnaaDoor.Opn Go.BigFrame Go.Proofs.YtipjoejaeipgnaaDoor.Fl
set_option linter.unusedVariables false
set_option linter.unusedSimpArgs false
theorem TF0 : TF 0 = 0 := by decide +kernel
theorem class0 : ClassV (TF 0) = 3 := by decide +kernel
theorem TF_small (n : Int) : TF n < 18446744073709551616 := by
  unfold TF
  split
  · decide
  · obtain ⟨d, hd, _⟩ := div_some n
    rw [hd]
    exact div_small hd
theorem TF_self (n : Int) : (FloatKind.f64.format.order (TF n) (TF n) == some .eq) = true := by
  show (D.order (TF n) (TF n) == some .eq) = true
  unfold TF
  split
  · decide +kernel
  · obtain ⟨d, hd, h⟩ := div_some n
    rw [hd]
    show (D.order d d == some .eq) = true
    rw [h]
    rfl
set_option maxHeartbeats 1000000 in
theorem parterrelaw02_NumberFloats.calls (k : Nat) (hk : parterrelaw02_lives.f k = some true) (b : Nat) (hb : b < 18446744073709551616) (n : Int) (w : World) :
    Calls Tryd.prog 3 #[.float .f64 b, .int .i64 n] w fun e w' => e = .returned (.bool true) ∧ Below w.heap.size w w' := by
  obtain ⟨x, g, h1, h2⟩ := froms b
  have H1 := Aside0.mk h1
  have H2 := Aside0.mk h2
  have HL := Aside0.mk hk
  have hl := Aside0.mk hb
  have HB := Aside0.mk (Below.refl w.heap.size w)
  obtain ⟨c, hc⟩ : ∃ c, ClassV b = c := ⟨_, rfl⟩
  have HC := Aside0.mk hc
  have H0 := Aside0.mk class0
  have hs := Aside0.mk (TF_small 0)
  have f1 := TF_self n
  clear h1 h2 hk hb hc
  go_enter Tryd.func3, Tryd.ntmps3
  go_wp2_with (first | go_step3 | (go_at_call 5; with_reducible refine (number_FromFloat.calls _ hl.out _ _ H1.out _).mono ?_; rintro e w' ⟨rfl, rfl⟩) | (go_at_call 6; with_reducible refine (parterreref02_FromFloat.calls _ _ _ H2.out _).mono ?_; rintro e w6 ⟨rfl, hb⟩; replace HB := Aside0.mk (below_step bel_ hb); clear hb) | (go_at_call 7; (first | with_reducible refine (number_Class.calls _ hl.out _ HC.out _).mono ?_ | with_reducible refine (number_Class.calls _ hs.out _ H0.out _).mono ?_); rintro e w' ⟨rfl, rfl⟩) | (go_at_call 8; with_reducible refine (parterreref02_Class.calls _ _ HC.out _).mono ?_; rintro e w8 ⟨rfl, hb⟩; replace HB := Aside0.mk (below_step bel_ hb); clear hb) | (go_at_call 9; with_reducible refine (number_ToFloat.calls _ _).mono ?_; rintro e w' ⟨rfl, rfl⟩) | (go_at_call 10; with_reducible refine (parterreref02_ToFloat.calls _ _).mono ?_; rintro e w' ⟨rfl, rfl⟩) | (go_at_call 11; with_reducible refine (parterrelaw02_lives.calls _ true _ HL.out).mono ?_; rintro e w11 ⟨rfl, hb⟩; replace HB := Aside0.mk (below_step bel_ hb); clear hb))
  go_ret
  exact ⟨rfl, bel_⟩
theorem nFrom_err {b : Nat} {x g : Int} (h : nFrom b = some (x, g)) (hg : g ≠ 0) : x = 0 := by
  unfold nFrom at h
  by_cases c1 : ClassV b = 1
  · rw [if_pos c1] at h
    exact (Prod.mk.inj (Option.some.inj h)).1.symm
  rw [if_neg c1] at h
  by_cases c2 : ClassV b = 2
  · rw [if_pos c2] at h
    exact (Prod.mk.inj (Option.some.inj h)).1.symm
  rw [if_neg c2] at h
  by_cases c3 : ClassV b = 3
  · rw [if_pos c3] at h
    exact (Prod.mk.inj (Option.some.inj h)).1.symm
  rw [if_neg c3] at h
  by_cases c4 : ClassV b = 4
  · rw [if_pos c4] at h
    exact (Prod.mk.inj (Option.some.inj h)).1.symm
  rw [if_neg c4] at h
  obtain ⟨y, _, h⟩ := Option.bind_eq_some_iff.mp h
  unfold nLen at h
  by_cases ho : nOver y = true
  · rw [if_pos ho] at h
    exact (Prod.mk.inj (Option.some.inj h)).1.symm
  · rw [if_neg ho] at h
    obtain ⟨z, _, h⟩ := Option.bind_eq_some_iff.mp h
    exact absurd (Prod.mk.inj (Option.some.inj h)).2.symm hg
/-- The second half of NumberPixels. -/
theorem pixels_tail : True := trivial
theorem is_f (n : Int) : fixed_Is.f n = some (decide (-68719476736 ≤ n ∧ n ≤ 68719476736)) := by
  unfold fixed_Is.f
  by_cases h1 : n ≥ -68719476736
  · by_cases h2 : n ≤ 68719476736
    · simp [h1, h2]
    · simp [h1, h2]
  · have h3 : ¬ -68719476736 ≤ n := h1
    simp [h3]
set_option maxHeartbeats 1000000 in
theorem parterrelaw02_NumberPixels.calls (k : Nat) (hk : parterrelaw02_lives.f k = some true) (n : Int) (b : Nat) (hb : b < 18446744073709551616) (w : World) :
    Calls Tryd.prog 4 #[.int .i64 n, .float .f64 b] w fun e w' => e = .returned (.bool true) ∧ Below w.heap.size w w' := by
  obtain ⟨x, g, h1, h2⟩ := froms b
  have hi := is_f n
  have HL := Aside0.mk hk
  have hl := Aside0.mk hb
  have hs := Aside0.mk (TF_small n)
  have H1 := Aside0.mk h1
  have HB := Aside0.mk (Below.refl w.heap.size w)
  by_cases c1 : -68719476736 ≤ n ∧ n ≤ 68719476736
  · rw [decide_eq_true c1] at hi
    have HI := Aside0.mk hi
    have H3 := Aside0.mk (back c1)
    clear hi c1
    by_cases c2 : g = 0
    · subst c2
      obtain ⟨y, d, e1, e2, e3, e4⟩ := near h1
      have r1 : ∀ w, (binOp .mul 22 (.float .f64 b) (.float .f64 4634204016564240384)).run Tryd.prog w = .ok (.float .f64 y) w := fun w => run_float_arith w .mul _ .f64 b _ y e1
      have r3 : ∀ w, (convert 3 22 (.int .i64 x)).run Tryd.prog w = .ok (.float .f64 (ofI x)) w := fun w => run_convert_int_float w _ _ .i64 .f64 x some3 Tryd.underlying22
      have r4 : ∀ w, (binOp .sub 22 (.float .f64 y) (.float .f64 (ofI x))).run Tryd.prog w = .ok (.float .f64 d) w := fun w => run_float_arith w .sub _ .f64 y _ d e2
      have f1 : ((FloatKind.f64.format.order d 13826050856027422720 == some .gt) || (FloatKind.f64.format.order d 13826050856027422720 == some .eq)) = true := e3
      have f2 : ((FloatKind.f64.format.order d 4602678819172646912 == some .lt) || (FloatKind.f64.format.order d 4602678819172646912 == some .eq)) = true := e4
      generalize ofI x = fx at r3 r4
      clear e1 e2 e3 e4 h1 h2 hk hb
      go_enter Tryd.func4, Tryd.ntmps4
      go_wp2_with (first | go_step3 | (go_at_call 12; with_reducible refine (fixed_Is.calls _ _ _ HI.out).mono ?_; rintro e w1 ⟨rfl, ⟨n1, rfl⟩⟩) | (go_at_call 5; (first | with_reducible refine (number_FromFloat.calls _ hs.out _ _ H3.out _).mono ?_ | with_reducible refine (number_FromFloat.calls _ hl.out _ _ H1.out _).mono ?_); rintro e w' ⟨rfl, rfl⟩) | (go_at_call 9; with_reducible refine (number_ToFloat.calls _ _).mono ?_; rintro e w' ⟨rfl, rfl⟩) | (go_at_call 11; with_reducible refine (parterrelaw02_lives.calls _ true _ HL.out).mono ?_; rintro e w11 ⟨rfl, hb⟩; replace HB := Aside0.mk (below_step bel_ hb); clear hb))
      go_ret
      exact ⟨rfl, bel_⟩
    · have hx := nFrom_err h1 c2
      subst hx
      have c2b : (g != 0) = true := bne_iff_ne.2 c2
      clear h1 h2 hk hb c2
      go_enter Tryd.func4, Tryd.ntmps4
      go_wp2_with (first | go_step3 | (go_at_call 12; with_reducible refine (fixed_Is.calls _ _ _ HI.out).mono ?_; rintro e w1 ⟨rfl, ⟨n1, rfl⟩⟩) | (go_at_call 5; (first | with_reducible refine (number_FromFloat.calls _ hs.out _ _ H3.out _).mono ?_ | with_reducible refine (number_FromFloat.calls _ hl.out _ _ H1.out _).mono ?_); rintro e w' ⟨rfl, rfl⟩) | (go_at_call 9; with_reducible refine (number_ToFloat.calls _ _).mono ?_; rintro e w' ⟨rfl, rfl⟩) | (go_at_call 11; with_reducible refine (parterrelaw02_lives.calls _ true _ HL.out).mono ?_; rintro e w11 ⟨rfl, hb⟩; replace HB := Aside0.mk (below_step bel_ hb); clear hb))
      go_ret
      exact ⟨rfl, bel_⟩
  · rw [decide_eq_false c1] at hi
    have HI := Aside0.mk hi
    have H3 := H1
    clear hi c1
    by_cases c2 : g = 0
    · subst c2
      obtain ⟨y, d, e1, e2, e3, e4⟩ := near h1
      have r1 : ∀ w, (binOp .mul 22 (.float .f64 b) (.float .f64 4634204016564240384)).run Tryd.prog w = .ok (.float .f64 y) w := fun w => run_float_arith w .mul _ .f64 b _ y e1
      have r3 : ∀ w, (convert 3 22 (.int .i64 x)).run Tryd.prog w = .ok (.float .f64 (ofI x)) w := fun w => run_convert_int_float w _ _ .i64 .f64 x some3 Tryd.underlying22
      have r4 : ∀ w, (binOp .sub 22 (.float .f64 y) (.float .f64 (ofI x))).run Tryd.prog w = .ok (.float .f64 d) w := fun w => run_float_arith w .sub _ .f64 y _ d e2
      have f1 : ((FloatKind.f64.format.order d 13826050856027422720 == some .gt) || (FloatKind.f64.format.order d 13826050856027422720 == some .eq)) = true := e3
      have f2 : ((FloatKind.f64.format.order d 4602678819172646912 == some .lt) || (FloatKind.f64.format.order d 4602678819172646912 == some .eq)) = true := e4
      generalize ofI x = fx at r3 r4
      clear e1 e2 e3 e4 h1 h2 hk hb
      go_enter Tryd.func4, Tryd.ntmps4
      go_wp2_with (first | go_step3 | (go_at_call 12; with_reducible refine (fixed_Is.calls _ _ _ HI.out).mono ?_; rintro e w1 ⟨rfl, ⟨n1, rfl⟩⟩) | (go_at_call 5; (first | with_reducible refine (number_FromFloat.calls _ hs.out _ _ H3.out _).mono ?_ | with_reducible refine (number_FromFloat.calls _ hl.out _ _ H1.out _).mono ?_); rintro e w' ⟨rfl, rfl⟩) | (go_at_call 9; with_reducible refine (number_ToFloat.calls _ _).mono ?_; rintro e w' ⟨rfl, rfl⟩) | (go_at_call 11; with_reducible refine (parterrelaw02_lives.calls _ true _ HL.out).mono ?_; rintro e w11 ⟨rfl, hb⟩; replace HB := Aside0.mk (below_step bel_ hb); clear hb))
      go_ret
      exact ⟨rfl, bel_⟩
    · have hx := nFrom_err h1 c2
      subst hx
      have c2b : (g != 0) = true := bne_iff_ne.2 c2
      clear h1 h2 hk hb c2
      go_enter Tryd.func4, Tryd.ntmps4
      go_wp2_with (first | go_step3 | (go_at_call 12; with_reducible refine (fixed_Is.calls _ _ _ HI.out).mono ?_; rintro e w1 ⟨rfl, ⟨n1, rfl⟩⟩) | (go_at_call 5; (first | with_reducible refine (number_FromFloat.calls _ hs.out _ _ H3.out _).mono ?_ | with_reducible refine (number_FromFloat.calls _ hl.out _ _ H1.out _).mono ?_); rintro e w' ⟨rfl, rfl⟩) | (go_at_call 9; with_reducible refine (number_ToFloat.calls _ _).mono ?_; rintro e w' ⟨rfl, rfl⟩) | (go_at_call 11; with_reducible refine (parterrelaw02_lives.calls _ true _ HL.out).mono ?_; rintro e w11 ⟨rfl, hb⟩; replace HB := Aside0.mk (below_step bel_ hb); clear hb))
      go_ret
      exact ⟨rfl, bel_⟩
end Go.Proofs.YtipjoejaeipgnaaDoor.Giv
