/- Contracts of the functions that make lengths of floats, and floats of lengths. Conditions: as each theorem says. -/
import Derived.Test.YtipjoejaeipgnaaDoorPFlx6
import Derived.Test.YtipjoejaeipgnaaDoorPFlx8
import Derived.Test.YtipjoejaeipgnaaDoorFlW
namespace Go.Proofs.YtipjoejaeipgnaaDoor.Giv
open Go.RowKit Go.Proofs.YtipjoejaeipgnaaDoorW.PrintWords Go.Proofs.YtipjoejaeipgnaaDoorW.PrintLast Go.Proofs.YtipjoejaeipgnaaDoorW.PrintMore Go.Proofs.YtipjoejaeipgnaaDoor.PFl
open Go.Proofs.YtipjoejaeipgnaaDoor.Opn Go.BigFrame Go.Proofs.YtipjoejaeipgnaaDoor.Fl
set_option linter.unusedVariables false
set_option linter.unusedSimpArgs false
theorem toI_eq (x : Nat) : floatToIntVal .f64 x .i64 = toI x := rfl
theorem ofI_eq (n : Int) : floatOfInt .f64 n = ofI n := rfl
theorem mul_small {b x : Nat} (h : D.mul b C64 = some x) : x < 18446744073709551616 := Ieee.Format.mul_lt D h
theorem div_small {b x : Nat} (h : D.div b C64 = some x) : x < 18446744073709551616 := Ieee.Format.div_lt D h
theorem some22 : (Tryd.prog.underlying 22).isSome = true := by
  rw [Tryd.underlying22]
  rfl
theorem some3 : (Tryd.prog.underlying 3).isSome = true := by
  rw [Tryd.underlying3]
  rfl
theorem number_FromFloat.calls (b : Nat) (hb : b < 18446744073709551616) (n g : Int) (h : nFrom b = some (n, g)) (w : World) :
    Calls Tryd.prog 5 #[.float .f64 b] w fun e w' => e = .returned (.tuple #[.int .i64 n, .int .i64 g]) ∧ w = w' := by
  unfold nFrom at h
  by_cases c1 : ClassV b = 1
  · rw [if_pos c1] at h
    obtain ⟨rfl, rfl⟩ := Prod.mk.inj (Option.some.inj h)
    have hc := Aside0.mk c1
    have hl := Aside0.mk hb
    clear c1 h hb
    go_enter Tryd.func5, Tryd.ntmps5
    go_wp2_with (first | go_step3 | (go_at_call 7; with_reducible refine (number_Class.calls _ hl.out _ hc.out _).mono ?_; rintro e w' ⟨rfl, rfl⟩) | (go_at_call 13; with_reducible refine (math_Abs.calls _ hxl.out _).mono ?_; rintro e w' ⟨rfl, rfl⟩))
    go_ret2
    exact ⟨rfl, rfl⟩
  · rw [if_neg c1] at h
    by_cases c2 : ClassV b = 2
    · rw [if_pos c2] at h
      obtain ⟨rfl, rfl⟩ := Prod.mk.inj (Option.some.inj h)
      have hc := Aside0.mk c2
      have hl := Aside0.mk hb
      clear c1 c2 h hb
      go_enter Tryd.func5, Tryd.ntmps5
      go_wp2_with (first | go_step3 | (go_at_call 7; with_reducible refine (number_Class.calls _ hl.out _ hc.out _).mono ?_; rintro e w' ⟨rfl, rfl⟩) | (go_at_call 13; with_reducible refine (math_Abs.calls _ hxl.out _).mono ?_; rintro e w' ⟨rfl, rfl⟩))
      go_ret2
      exact ⟨rfl, rfl⟩
    · rw [if_neg c2] at h
      by_cases c3 : ClassV b = 3
      · rw [if_pos c3] at h
        obtain ⟨rfl, rfl⟩ := Prod.mk.inj (Option.some.inj h)
        have hc := Aside0.mk c3
        have hl := Aside0.mk hb
        clear c1 c2 c3 h hb
        go_enter Tryd.func5, Tryd.ntmps5
        go_wp2_with (first | go_step3 | (go_at_call 7; with_reducible refine (number_Class.calls _ hl.out _ hc.out _).mono ?_; rintro e w' ⟨rfl, rfl⟩) | (go_at_call 13; with_reducible refine (math_Abs.calls _ hxl.out _).mono ?_; rintro e w' ⟨rfl, rfl⟩))
        go_ret2
        exact ⟨rfl, rfl⟩
      · rw [if_neg c3] at h
        by_cases c4 : ClassV b = 4
        · rw [if_pos c4] at h
          obtain ⟨rfl, rfl⟩ := Prod.mk.inj (Option.some.inj h)
          have hc := Aside0.mk c4
          have hl := Aside0.mk hb
          clear c1 c2 c3 c4 h hb
          go_enter Tryd.func5, Tryd.ntmps5
          go_wp2_with (first | go_step3 | (go_at_call 7; with_reducible refine (number_Class.calls _ hl.out _ hc.out _).mono ?_; rintro e w' ⟨rfl, rfl⟩) | (go_at_call 13; with_reducible refine (math_Abs.calls _ hxl.out _).mono ?_; rintro e w' ⟨rfl, rfl⟩))
          go_ret2
          exact ⟨rfl, rfl⟩
        · rw [if_neg c4] at h
          obtain ⟨x, hx, hn⟩ := Option.bind_eq_some_iff.mp h
          have c0 : ClassV b = 0 ∧ ∀ s t, D.read x = .nan s t → False := by
            rcases read_cases b with ⟨s, m, e, hb1, hn1⟩ | ⟨s, hb1⟩ | ⟨s, t, hb1⟩
            · have hc := class_num hb1
              have hm := mul_num hb1
              rw [hx] at hm
              have hm := Option.some.inj hm
              refine ⟨?_, fun s' t' hr => ?_⟩
              · by_cases h0 : m = 0
                · rw [if_pos h0] at hc
                  cases s
                  · exact absurd hc c3
                  · exact absurd hc c4
                · rw [if_neg h0] at hc
                  exact hc
              · rw [hm] at hr
                rcases nearest_cases s (m * 4503599627370496) (e + -46) with ⟨k, l, h1, h2⟩ | h1
                · rw [h1] at hr
                  cases hr
                · rw [h1] at hr
                  cases hr
            · exact absurd (class_inf hb1) c2
            · exact absurd (class_nan hb1) c1
          have hc := Aside0.mk c0.1
          have hl := Aside0.mk hb
          have hxl := Aside0.mk (mul_small hx)
          have r1 : ∀ w, (binOp .mul 22 (.float .f64 b) (.float .f64 4634204016564240384)).run Tryd.prog w = .ok (.float .f64 x) w := fun w => run_float_arith w .mul _ .f64 b _ x hx
          have r2 : ∀ w, (callFunc 14 #[.float .f64 x]).run Tryd.prog w = .ok (.value (.float .f64 (RE x))) w := fun w => ext_even (fun s t e => c0.2 s t e) w
          unfold nLen at hn
          by_cases ho : nOver x = true
          · rw [if_pos ho] at hn
            obtain ⟨rfl, rfl⟩ := Prod.mk.inj (Option.some.inj hn)
            have f1 : (FloatKind.f64.format.order (x % 9223372036854775808) 4769312005385355264 == some .gt) = true := ho
            clear c1 c2 c3 c4 c0 h hb hx hn ho r2
            go_enter Tryd.func5, Tryd.ntmps5
            go_wp2_with (first | go_step3 | (go_at_call 7; with_reducible refine (number_Class.calls _ hl.out _ hc.out _).mono ?_; rintro e w' ⟨rfl, rfl⟩) | (go_at_call 13; with_reducible refine (math_Abs.calls _ hxl.out _).mono ?_; rintro e w' ⟨rfl, rfl⟩))
            go_ret2
            exact ⟨rfl, rfl⟩
          · rw [if_neg ho] at hn
            obtain ⟨n', ht, hn⟩ := Option.bind_eq_some_iff.mp hn
            obtain ⟨rfl, rfl⟩ := Prod.mk.inj (Option.some.inj hn)
            have f1 : (FloatKind.f64.format.order (x % 9223372036854775808) 4769312005385355264 == some .gt) = false := Bool.eq_false_iff.2 ho
            have r3 : ∀ w, (convert 22 3 (.float .f64 (RE x))).run Tryd.prog w = .ok (.int .i64 n') w := fun w => run_convert_float_int w _ _ .f64 .i64 _ n' some22 Tryd.underlying3 ht
            generalize RE x = y at r2 r3
            clear c1 c2 c3 c4 c0 h hb hx hn ho ht
            go_enter Tryd.func5, Tryd.ntmps5
            go_wp2_with (first | go_step3 | (go_at_call 7; with_reducible refine (number_Class.calls _ hl.out _ hc.out _).mono ?_; rintro e w' ⟨rfl, rfl⟩) | (go_at_call 13; with_reducible refine (math_Abs.calls _ hxl.out _).mono ?_; rintro e w' ⟨rfl, rfl⟩))
            go_ret2
            exact ⟨rfl, rfl⟩
/-- A whole number as a float, a sixty-fourth of it, is no NaN. -/
theorem div_some (n : Int) : ∃ w, D.div (ofI n) C64 = some w ∧ D.order w w = some .eq := by
  have ho : ofI n = D.nearest (decide (n < 0)) n.natAbs 0 := rfl
  rcases nearest_cases (decide (n < 0)) n.natAbs 0 with ⟨m, e, h1, h2⟩ | h1
  · rw [← ho] at h1
    obtain ⟨mag, place, h3, _, _⟩ := div64 h1 h2
    refine ⟨_, h3, ?_⟩
    rcases nearest_cases (decide (n < 0)) mag place with ⟨k, l, h4, h5⟩ | h4
    · exact self_num h4 h5
    · exact self_inf h4
  · rw [← ho] at h1
    refine ⟨D.word (decide (n < 0)) D.infRung, ?_, ?_⟩
    · unfold Ieee.Format.div
      rw [h1, rd64]
      show some (D.word (decide (n < 0) ^^ false) _) = _
      rw [Bool.xor_false]
    · have hr : ∀ s, D.read (D.word s D.infRung) = .infinity s := fun s => by cases s <;> decide +kernel
      exact self_inf (hr _)
theorem number_ToFloat.calls (n : Int) (w : World) :
    Calls Tryd.prog 9 #[.int .i64 n] w fun e w' => e = .returned (.float .f64 (TF n)) ∧ w = w' := by
  obtain ⟨d, hd, _⟩ := div_some n
  have r1 : ∀ w, (convert 3 22 (.int .i64 n)).run Tryd.prog w = .ok (.float .f64 (ofI n)) w := fun w => run_convert_int_float w _ _ .i64 .f64 n some3 Tryd.underlying22
  have r2 : ∀ w, (binOp .quo 22 (.float .f64 (ofI n)) (.float .f64 4634204016564240384)).run Tryd.prog w = .ok (.float .f64 d) w := fun w => run_float_arith w .quo _ .f64 _ _ d hd
  unfold TF
  by_cases h1 : n < -9007199254740992
  · rw [if_pos (Or.inl h1)]
    have q1 : decide (n < -9007199254740992) = true := decide_eq_true h1
    clear h1 hd
    go_enter Tryd.func9, Tryd.ntmps9
    go_wp2_with (fail)
    go_ret
    exact ⟨rfl, rfl⟩
  · have q1 : decide (n < -9007199254740992) = false := decide_eq_false h1
    by_cases h2 : n > 9007199254740992
    · rw [if_pos (Or.inr h2)]
      have q2 : decide (9007199254740992 < n) = true := decide_eq_true h2
      clear h1 h2 hd
      go_enter Tryd.func9, Tryd.ntmps9
      go_wp2_with (fail)
      go_ret
      exact ⟨rfl, rfl⟩
    · rw [if_neg (by omega), hd]
      have q2 : decide (9007199254740992 < n) = false := decide_eq_false h2
      clear h1 h2 hd
      go_enter Tryd.func9, Tryd.ntmps9
      go_wp2_with (fail)
      go_ret
      exact ⟨rfl, rfl⟩
theorem parterreref02_ToFloat.calls (n : Int) (w : World) :
    Calls Tryd.prog 10 #[.int .i64 n] w fun e w' => e = .returned (.float .f64 (TF n)) ∧ w = w' := by
  obtain ⟨d, hd, _⟩ := div_some n
  have r1 : ∀ w, (convert 3 22 (.int .i64 n)).run Tryd.prog w = .ok (.float .f64 (ofI n)) w := fun w => run_convert_int_float w _ _ .i64 .f64 n some3 Tryd.underlying22
  have r2 : ∀ w, (binOp .quo 22 (.float .f64 (ofI n)) (.float .f64 4634204016564240384)).run Tryd.prog w = .ok (.float .f64 d) w := fun w => run_float_arith w .quo _ .f64 _ _ d hd
  unfold TF
  by_cases h1 : n < -9007199254740992
  · rw [if_pos (Or.inl h1)]
    have q1 : decide (n < -9007199254740992) = true := decide_eq_true h1
    clear h1 hd
    go_enter Tryd.func10, Tryd.ntmps10
    go_wp2_with (fail)
    go_ret
    exact ⟨rfl, rfl⟩
  · have q1 : decide (n < -9007199254740992) = false := decide_eq_false h1
    by_cases h2 : n > 9007199254740992
    · rw [if_pos (Or.inr h2)]
      have q2 : decide (9007199254740992 < n) = true := decide_eq_true h2
      clear h1 h2 hd
      go_enter Tryd.func10, Tryd.ntmps10
      go_wp2_with (fail)
      go_ret
      exact ⟨rfl, rfl⟩
    · rw [if_neg (by omega), hd]
      have q2 : decide (9007199254740992 < n) = false := decide_eq_false h2
      clear h1 h2 hd
      go_enter Tryd.func10, Tryd.ntmps10
      go_wp2_with (fail)
      go_ret
      exact ⟨rfl, rfl⟩
end Go.Proofs.YtipjoejaeipgnaaDoor.Giv
