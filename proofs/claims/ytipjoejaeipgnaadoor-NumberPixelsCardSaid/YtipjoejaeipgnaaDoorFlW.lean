/- Contracts of the functions on floats. Conditions: as each theorem says. -/
import Derived.Test.YtipjoejaeipgnaaDoorPFlx6
import Derived.Test.YtipjoejaeipgnaaDoorPFlx8
import Derived.Test.YtipjoejaeipgnaaDoorSq
import Derived.Test.YtipjoejaeipgnaaDoorOpen
import Derived.Test.YtipjoejaeipgnaaDoorFl4
import Derived.Laws.Cover2
import Derived.Laws.Externs
import Derived.Laws.BitsAllLaws
namespace Go.Proofs.YtipjoejaeipgnaaDoor.Giv
open Go.RowKit Go.Proofs.YtipjoejaeipgnaaDoorW.PrintWords Go.Proofs.YtipjoejaeipgnaaDoorW.PrintLast Go.Proofs.YtipjoejaeipgnaaDoorW.PrintMore Go.Proofs.YtipjoejaeipgnaaDoor.PFl
open Go.Proofs.YtipjoejaeipgnaaDoor.Opn Go.BigFrame Go.Proofs.YtipjoejaeipgnaaDoor.Fl
set_option linter.unusedVariables false
set_option linter.unusedSimpArgs false
theorem ext_bits (b : Nat) (w : World) : (callFunc 22 #[.float .f64 b]).run Tryd.prog w = .ok (.value (.int .u64 b)) w := by
  rw [run_callFunc_extern Tryd.func22 (by kernel_rfl) (by kernel_rfl) (by kernel_rfl) (e := Extern.MathFloatBits.float64bits) (by kernel_rfl)]
  rfl
theorem ext_from (n : Int) (w : World) : (callFunc 21 #[.int .u64 n]).run Tryd.prog w = .ok (.value (.float .f64 n.toNat)) w := by
  rw [run_callFunc_extern Tryd.func21 (by kernel_rfl) (by kernel_rfl) (by kernel_rfl) (e := Extern.MathFloatBits.float64frombits) (by kernel_rfl)]
  rfl
theorem ext_even {b : Nat} (h : ∀ s t, D.read b ≠ .nan s t) (w : World) : (callFunc 14 #[.float .f64 b]).run Tryd.prog w = .ok (.value (.float .f64 (RE b))) w := by
  rw [run_callFunc_extern Tryd.func14 (by kernel_rfl) (by kernel_rfl) (by kernel_rfl) (e := Extern.MathFloor.toIntegral "math.RoundToEven" .even) (by kernel_rfl)]
  have e : (Extern.MathFloor.toIntegral "math.RoundToEven" .even #[.float .f64 b]).run Tryd.prog w = .ok (.float .f64 (RE b)) w := by
    unfold Extern.MathFloor.toIntegral RE
    show Sem.run _ (match D.read b with | .nan s t => _ | d => _) w = _
    cases hd : D.read b with
    | nan s t => exact absurd hd (h s t)
    | infinity s => rfl
    | number s m e => rfl
  rw [e]
  rfl
theorem neg_f (k : FloatKind) (b : Nat) : Op.unary .neg (.float k b) = pure (.float k (Op.negFloat k b)) := rfl
attribute [local go_sem] ext_bits ext_from neg_f
theorem abs_bits {b : Nat} (hb : b < 18446744073709551616) : (bits .andNot .u64 (b : Int) 9223372036854775808).toNat = b % 9223372036854775808 := by
  have h := u64_andNot_nat b 9223372036854775808 hb (by decide)
  rw [show ((9223372036854775808 : Nat) : Int) = 9223372036854775808 from rfl] at h
  rw [h, Int.toNat_natCast, show 18446744073709551615 - 9223372036854775808 = 2 ^ 63 - 1 from rfl, Nat.and_two_pow_sub_one_eq_mod]
theorem math_Abs.calls (b : Nat) (hb : b < 18446744073709551616) (w : World) :
    Calls Tryd.prog 13 #[.float .f64 b] w fun e w' => e = .returned (.float .f64 (b % 9223372036854775808)) ∧ w = w' := by
  rw [← abs_bits hb]
  go_enter Tryd.func13, Tryd.ntmps13
  go_wp2
  go_ret
  exact ⟨rfl, rfl⟩
theorem math_IsNaN.calls (b : Nat) (r : Bool) (h : (D.order b b != some .eq) = r) (w : World) :
    Calls Tryd.prog 15 #[.float .f64 b] w fun e w' => e = .returned (.bool r) ∧ w = w' := by
  subst h
  go_enter Tryd.func15, Tryd.ntmps15
  go_wp2
  go_ret
  exact ⟨rfl, rfl⟩
theorem sign_bits {b : Nat} (hb : b < 18446744073709551616) : decide (wrap64 (b : Int) < 0) = decide (9223372036854775808 ≤ b) := by
  congr 1
  unfold wrap64
  exact propext ⟨fun a => by omega, fun a => by omega⟩
theorem math_Signbit.calls (b : Nat) (hb : b < 18446744073709551616) (r : Bool) (h : decide (9223372036854775808 ≤ b) = r) (w : World) :
    Calls Tryd.prog 17 #[.float .f64 b] w fun e w' => e = .returned (.bool r) ∧ w = w' := by
  rw [← h, ← sign_bits hb]
  clear h
  go_enter Tryd.func17, Tryd.ntmps17
  go_wp2
  go_ret
  exact ⟨rfl, rfl⟩
theorem math_IsInf.calls1 (b : Nat) (r : Bool) (h : (D.order b CMF == some .gt) = r) (w : World) :
    Calls Tryd.prog 16 #[.float .f64 b, .int .i64 1] w fun e w' => e = .returned (.bool r) ∧ w = w' := by
  subst h
  go_enter Tryd.func16, Tryd.ntmps16
  go_wp2
  go_ret
  exact ⟨rfl, rfl⟩
theorem math_IsInf.calls2 (b : Nat) (r : Bool) (h : (D.order (b ^^^ 9223372036854775808) CMF == some .gt) = r) (w : World) :
    Calls Tryd.prog 16 #[.float .f64 b, .int .i64 (-1)] w fun e w' => e = .returned (.bool r) ∧ w = w' := by
  subst h
  go_enter Tryd.func16, Tryd.ntmps16
  go_wp2
  go_ret
  exact ⟨rfl, rfl⟩
/-- The tests of a class, each with its answer. -/
structure Tests (b : Nat) (f1 f2 f3 f4 f5 : Bool) : Prop where
  lt : b < 18446744073709551616
  nan : (D.order b b != some .eq) = f1
  inf : (D.order b CMF == some .gt) = f2
  ninf : (D.order (b ^^^ 9223372036854775808) CMF == some .gt) = f3
  zero : (FloatKind.f64.format.order b 0 != some .eq) = f4
  sign : decide (9223372036854775808 ≤ b) = f5
theorem number_Class.walk (b : Nat) (f1 f2 f3 f4 f5 : Bool) (h : Tests b f1 f2 f3 f4 f5) (w : World) :
    Calls Tryd.prog 7 #[.float .f64 b] w fun e w' => e = .returned (.int .i64 (if f1 = true then 1 else if f2 = true then 2 else if f3 = true then 2 else if f4 = true then 0 else if f5 = true then 4 else 3)) ∧ w = w' := by
  have H := Aside0.mk h
  have h4 := h.zero
  clear h
  cases f1
  · cases f2
    · cases f3
      · cases f4
        · cases f5
          · go_enter Tryd.func7, Tryd.ntmps7
            go_wp2_with (first | go_step3 | (go_at_call 15; with_reducible refine (math_IsNaN.calls _ _ H.out.nan _).mono ?_; rintro e w' ⟨rfl, rfl⟩) | (go_at_call 16; (first | with_reducible refine (math_IsInf.calls1 _ _ H.out.inf _).mono ?_ | with_reducible refine (math_IsInf.calls2 _ _ H.out.ninf _).mono ?_); rintro e w' ⟨rfl, rfl⟩) | (go_at_call 17; with_reducible refine (math_Signbit.calls _ H.out.lt _ H.out.sign _).mono ?_; rintro e w' ⟨rfl, rfl⟩))
            go_ret
            exact ⟨rfl, rfl⟩
          · go_enter Tryd.func7, Tryd.ntmps7
            go_wp2_with (first | go_step3 | (go_at_call 15; with_reducible refine (math_IsNaN.calls _ _ H.out.nan _).mono ?_; rintro e w' ⟨rfl, rfl⟩) | (go_at_call 16; (first | with_reducible refine (math_IsInf.calls1 _ _ H.out.inf _).mono ?_ | with_reducible refine (math_IsInf.calls2 _ _ H.out.ninf _).mono ?_); rintro e w' ⟨rfl, rfl⟩) | (go_at_call 17; with_reducible refine (math_Signbit.calls _ H.out.lt _ H.out.sign _).mono ?_; rintro e w' ⟨rfl, rfl⟩))
            go_ret
            exact ⟨rfl, rfl⟩
        · go_enter Tryd.func7, Tryd.ntmps7
          go_wp2_with (first | go_step3 | (go_at_call 15; with_reducible refine (math_IsNaN.calls _ _ H.out.nan _).mono ?_; rintro e w' ⟨rfl, rfl⟩) | (go_at_call 16; (first | with_reducible refine (math_IsInf.calls1 _ _ H.out.inf _).mono ?_ | with_reducible refine (math_IsInf.calls2 _ _ H.out.ninf _).mono ?_); rintro e w' ⟨rfl, rfl⟩) | (go_at_call 17; with_reducible refine (math_Signbit.calls _ H.out.lt _ H.out.sign _).mono ?_; rintro e w' ⟨rfl, rfl⟩))
          go_ret
          exact ⟨rfl, rfl⟩
      · go_enter Tryd.func7, Tryd.ntmps7
        go_wp2_with (first | go_step3 | (go_at_call 15; with_reducible refine (math_IsNaN.calls _ _ H.out.nan _).mono ?_; rintro e w' ⟨rfl, rfl⟩) | (go_at_call 16; (first | with_reducible refine (math_IsInf.calls1 _ _ H.out.inf _).mono ?_ | with_reducible refine (math_IsInf.calls2 _ _ H.out.ninf _).mono ?_); rintro e w' ⟨rfl, rfl⟩) | (go_at_call 17; with_reducible refine (math_Signbit.calls _ H.out.lt _ H.out.sign _).mono ?_; rintro e w' ⟨rfl, rfl⟩))
        go_ret
        exact ⟨rfl, rfl⟩
    · go_enter Tryd.func7, Tryd.ntmps7
      go_wp2_with (first | go_step3 | (go_at_call 15; with_reducible refine (math_IsNaN.calls _ _ H.out.nan _).mono ?_; rintro e w' ⟨rfl, rfl⟩) | (go_at_call 16; (first | with_reducible refine (math_IsInf.calls1 _ _ H.out.inf _).mono ?_ | with_reducible refine (math_IsInf.calls2 _ _ H.out.ninf _).mono ?_); rintro e w' ⟨rfl, rfl⟩) | (go_at_call 17; with_reducible refine (math_Signbit.calls _ H.out.lt _ H.out.sign _).mono ?_; rintro e w' ⟨rfl, rfl⟩))
      go_ret
      exact ⟨rfl, rfl⟩
  · go_enter Tryd.func7, Tryd.ntmps7
    go_wp2_with (first | go_step3 | (go_at_call 15; with_reducible refine (math_IsNaN.calls _ _ H.out.nan _).mono ?_; rintro e w' ⟨rfl, rfl⟩) | (go_at_call 16; (first | with_reducible refine (math_IsInf.calls1 _ _ H.out.inf _).mono ?_ | with_reducible refine (math_IsInf.calls2 _ _ H.out.ninf _).mono ?_); rintro e w' ⟨rfl, rfl⟩) | (go_at_call 17; with_reducible refine (math_Signbit.calls _ H.out.lt _ H.out.sign _).mono ?_; rintro e w' ⟨rfl, rfl⟩))
    go_ret
    exact ⟨rfl, rfl⟩
theorem tests_of (b : Nat) (hb : b < 18446744073709551616) : ∃ f1 f2 f3 f4 f5, Tests b f1 f2 f3 f4 f5 ∧ (if f1 = true then 1 else if f2 = true then 2 else if f3 = true then 2 else if f4 = true then 0 else if f5 = true then 4 else 3) = ClassV b := by
  have eqb : ∀ o : Option Ordering, o = some .eq → (o != some .eq) = false := fun o h => by rw [h]; rfl
  rcases read_cases b with ⟨s, m, e, h, hn⟩ | ⟨s, h⟩ | ⟨s, t, h⟩
  · have z := zero_num h hn
    refine ⟨false, false, false, decide (m ≠ 0), s, ⟨hb, eqb _ (self_num h hn), max_num h hn, max_num (neg_num hb h) hn, ?_, ?_⟩, ?_⟩
    · by_cases h0 : m = 0
      · rw [decide_eq_false (fun e => e h0)]
        exact eqb _ (z.2 h0)
      · rw [decide_eq_true h0]
        show (D.order b 0 != some .eq) = true
        exact bne_iff_ne.2 (fun e => h0 (z.1 e))
    · have := read_sign hb
      rw [h] at this
      exact this.symm
    · rw [class_num h]
      by_cases h0 : m = 0
      · rw [if_pos h0, decide_eq_false (fun e => e h0)]
        rfl
      · rw [if_neg h0, decide_eq_true h0]
        rfl
  · refine ⟨false, !s, s, _, _, ⟨hb, eqb _ (self_inf h), max_inf h, ?_, rfl, rfl⟩, ?_⟩
    · rw [max_inf (neg_inf hb h), Bool.not_not]
    · rw [class_inf h]
      cases s <;> rfl
  · refine ⟨true, _, _, _, _, ⟨hb, ?_, rfl, rfl, rfl, rfl⟩, ?_⟩
    · rw [self_nan h]
      rfl
    · rw [class_nan h]
      rfl
theorem number_Class.calls (b : Nat) (hb : b < 18446744073709551616) (c : Int) (hc : ClassV b = c) (w : World) :
    Calls Tryd.prog 7 #[.float .f64 b] w fun e w' => e = .returned (.int .i64 c) ∧ w = w' := by
  obtain ⟨f1, f2, f3, f4, f5, h, e⟩ := tests_of b hb
  rw [← hc, ← e]
  exact number_Class.walk b f1 f2 f3 f4 f5 h w
/-- Bits of a NaN, drawn. -/
def NB (b : Nat) (w : World) : Nat := (Question.nanBits .f64 b b).cut (w.tape w.drawn (.nanBits .f64 b b))
theorem nb_order (b : Nat) (w : World) : (FloatKind.f64.format.order (NB b w) 0 != some .eq) = true := by
  show (D.order (NB b w) 0 != some .eq) = true
  have h : ∃ s t, D.read (NB b w) = .nan s t := by
    unfold NB
    show ∃ s t, D.read (_ % 2 * 9223372036854775808 + 9218868437227405312 + 1 + _ / 2 % 4503599627370495) = _
    generalize w.tape w.drawn (.nanBits .f64 b b) = q
    have hp : q % 2 < 2 := Nat.mod_lt _ (by decide)
    have hr : q / 2 % 4503599627370495 < 4503599627370495 := Nat.mod_lt _ (by decide)
    generalize q % 2 = p at hp
    generalize q / 2 % 4503599627370495 = r at hr
    have hm : (p * 9223372036854775808 + 9218868437227405312 + 1 + r) % 9223372036854775808 = 9218868437227405313 + r := by omega
    rw [read_eq, hm]
    unfold body
    rw [if_neg (by omega), if_neg (by omega), if_neg (by omega)]
    exact ⟨_, _, rfl⟩
  obtain ⟨s, t, h⟩ := h
  unfold Ieee.Format.order
  rw [h]
  rfl
theorem run_nan {P : Program} (t : TypeId) (b : Nat) (h : D.sub b b = none) (w : World) : (binOp .sub t (.float .f64 b) (.float .f64 b)).run P w = .ok (.float .f64 (NB b w)) w.drew := by
  have e : Op.floatArith .sub .f64 b b = (do pure (.float .f64 (← choose (.nanBits .f64 b b)))) := by
    unfold Op.floatArith
    have h' : FloatKind.f64.format.sub b b = none := h
    simp [h']
  show (Op.floatArith .sub .f64 b b).run P w = _
  rw [e, Sem.run_bind, run_choose_drew, if_neg (show ¬ Question.forced (.nanBits .f64 b b) = true from Bool.false_ne_true)]
  rfl
theorem parterreref02_Class.zero (b : Nat) (s : Bool) (e : Int) (h : D.read b = .number s 0 e) (hn : Num 0 e) (w : World) :
    Calls Tryd.prog 8 #[.float .f64 b] w fun e w' => e = .returned (.int .i64 (if s = true then 4 else 3)) ∧ w = w' := by
  have f1 : (FloatKind.f64.format.order b b != some .eq) = false := by
    show (D.order b b != some .eq) = false
    rw [self_num h hn]
    rfl
  obtain ⟨d, hd, hz⟩ := sub_self h hn
  have f2 : (FloatKind.f64.format.order d 0 != some .eq) = false := by
    show (D.order d 0 != some .eq) = false
    rw [hz]
    rfl
  have f3 : (FloatKind.f64.format.order b 0 == some .eq) = true := by
    show (D.order b 0 == some .eq) = true
    rw [(zero_num h hn).2 rfl]
    rfl
  obtain ⟨q, hq, f4⟩ := quo_zero h
  have f5 : (FloatKind.f64.format.order q 0 == some .lt) = s := f4
  have r1 : ∀ w, (binOp .sub 22 (.float .f64 b) (.float .f64 b)).run Tryd.prog w = .ok (.float .f64 d) w := fun w => run_float_arith w .sub _ .f64 b b d hd
  have r2 : ∀ w, (binOp .quo 22 (.float .f64 4607182418800017408) (.float .f64 b)).run Tryd.prog w = .ok (.float .f64 q) w := fun w => run_float_arith w .quo _ .f64 _ b q hq
  clear h hn hd hz hq f4
  cases s
  · go_enter Tryd.func8, Tryd.ntmps8
    go_wp2
    go_ret
    exact ⟨rfl, rfl⟩
  · go_enter Tryd.func8, Tryd.ntmps8
    go_wp2
    go_ret
    exact ⟨rfl, rfl⟩
theorem parterreref02_Class.plain (b : Nat) (s : Bool) (m : Nat) (e : Int) (h : D.read b = .number s m e) (hn : Num m e) (h0 : ¬ m = 0) (w : World) :
    Calls Tryd.prog 8 #[.float .f64 b] w fun e w' => e = .returned (.int .i64 0) ∧ w = w' := by
  have f1 : (FloatKind.f64.format.order b b != some .eq) = false := by
    show (D.order b b != some .eq) = false
    rw [self_num h hn]
    rfl
  obtain ⟨d, hd, hz⟩ := sub_self h hn
  have f2 : (FloatKind.f64.format.order d 0 != some .eq) = false := by
    show (D.order d 0 != some .eq) = false
    rw [hz]
    rfl
  have f3 : (FloatKind.f64.format.order b 0 == some .eq) = false := by
    show (D.order b 0 == some .eq) = false
    exact beq_eq_false_iff_ne.2 (fun e => h0 ((zero_num h hn).1 e))
  have r1 : ∀ w, (binOp .sub 22 (.float .f64 b) (.float .f64 b)).run Tryd.prog w = .ok (.float .f64 d) w := fun w => run_float_arith w .sub _ .f64 b b d hd
  clear h hn hd hz h0
  go_enter Tryd.func8, Tryd.ntmps8
  go_wp2
  go_ret
  exact ⟨rfl, rfl⟩
theorem parterreref02_Class.inf (b : Nat) (s : Bool) (h : D.read b = .infinity s) (w : World) :
    Calls Tryd.prog 8 #[.float .f64 b] w fun e w' => e = .returned (.int .i64 2) ∧ w.drew = w' := by
  have f1 : (FloatKind.f64.format.order b b != some .eq) = false := by
    show (D.order b b != some .eq) = false
    rw [self_inf h]
    rfl
  have f2 : ∀ w, (FloatKind.f64.format.order (NB b w) 0 != some .eq) = true := nb_order b
  have r1 : ∀ w, (binOp .sub 22 (.float .f64 b) (.float .f64 b)).run Tryd.prog w = .ok (.float .f64 (NB b w)) w.drew := run_nan _ b (sub_inf h)
  clear h
  go_enter Tryd.func8, Tryd.ntmps8
  go_wp2
  go_ret
  exact ⟨rfl, rfl⟩
theorem parterreref02_Class.nan (b : Nat) (s : Bool) (t : Nat) (h : D.read b = .nan s t) (w : World) :
    Calls Tryd.prog 8 #[.float .f64 b] w fun e w' => e = .returned (.int .i64 1) ∧ w = w' := by
  have f1 : (FloatKind.f64.format.order b b != some .eq) = true := by
    show (D.order b b != some .eq) = true
    rw [self_nan h]
    rfl
  clear h
  go_enter Tryd.func8, Tryd.ntmps8
  go_wp2
  go_ret
  exact ⟨rfl, rfl⟩
theorem parterreref02_Class.calls (b : Nat) (c : Int) (hc : ClassV b = c) (w : World) :
    Calls Tryd.prog 8 #[.float .f64 b] w fun e w' => e = .returned (.int .i64 c) ∧ Below w.heap.size w w' := by
  subst hc
  rcases read_cases b with ⟨s, m, e, h, hn⟩ | ⟨s, h⟩ | ⟨s, t, h⟩
  · rw [class_num h]
    by_cases h0 : m = 0
    · subst h0
      rw [if_pos rfl]
      exact (parterreref02_Class.zero b s e h hn w).mono fun e w' ⟨h1, h2⟩ => ⟨h1, h2 ▸ Below.refl _ _⟩
    · rw [if_neg h0]
      exact (parterreref02_Class.plain b s m e h hn h0 w).mono fun e w' ⟨h1, h2⟩ => ⟨h1, h2 ▸ Below.refl _ _⟩
  · rw [class_inf h]
    exact (parterreref02_Class.inf b s h w).mono fun e w' ⟨h1, h2⟩ => ⟨h1, h2 ▸ below_drew (Below.refl _ _)⟩
  · rw [class_nan h]
    exact (parterreref02_Class.nan b s t h w).mono fun e w' ⟨h1, h2⟩ => ⟨h1, h2 ▸ Below.refl _ _⟩
end Go.Proofs.YtipjoejaeipgnaaDoor.Giv
