/- Contracts of the document's length of a float, and of the two statements on floats. Conditions: as each theorem says. -/
import Derived.Test.YtipjoejaeipgnaaDoorPFlx6
import Derived.Test.YtipjoejaeipgnaaDoorPFlx8
import Derived.Test.YtipjoejaeipgnaaDoorFlX
namespace Go.Proofs.YtipjoejaeipgnaaDoor.Giv
open Go.RowKit Go.Proofs.YtipjoejaeipgnaaDoorW.PrintWords Go.Proofs.YtipjoejaeipgnaaDoorW.PrintLast Go.Proofs.YtipjoejaeipgnaaDoorW.PrintMore Go.Proofs.YtipjoejaeipgnaaDoor.PFl
open Go.Proofs.YtipjoejaeipgnaaDoor.Opn Go.BigFrame Go.Proofs.YtipjoejaeipgnaaDoor.Fl
set_option linter.unusedVariables false
set_option linter.unusedSimpArgs false
theorem toI_bd {x : Nat} {n : Int} (h : toI x = some n) (ho : rOver x = false) : -68719476737 ≤ n ∧ n ≤ 68719476737 := by
  rcases read_cases x with ⟨s, m, e, h1, h2⟩ | ⟨s, h1⟩ | ⟨s, t, h1⟩
  · rw [rOver_num h1 h2] at ho
    have hq := q_small (of_decide_eq_false ho)
    rw [toI_of (toInt_zero h1 h2) (sg_bd s (by omega))] at h
    rw [← Option.some.inj h]
    exact sg_bd s (by omega)
  · rw [rOver_inf h1] at ho
    cases ho
  · unfold toI at h
    rw [h1] at h
    cases h
/-- The five tests of what is left, each with its answer. -/
structure Left (n : Int) (l : Nat) (u1 u2 d1 d2 od : Bool) : Prop where
  u1 : (FloatKind.f64.format.order l 4602678819172646912 == some .gt) = u1
  u2 : (FloatKind.f64.format.order l 4602678819172646912 == some .eq) = u2
  d1 : (FloatKind.f64.format.order l 13826050856027422720 == some .lt) = d1
  d2 : (FloatKind.f64.format.order l 13826050856027422720 == some .eq) = d2
  od : (n.tmod 2 != 0) = od
theorem parterreref02_FromFloat.left (b : Nat) (c x l : Nat) (n : Int) (w : World) (hc : ∃ c, ClassV b = c ∧ c ≠ 1) (hx : D.mul b C64 = some x) (ho : rOver x = false) (ht : toI x = some n) (hl : D.sub x (ofI n) = some l) (u1 u2 d1 d2 od : Bool) (h : Left n l u1 u2 d1 d2 od) :
    Calls Tryd.prog 6 #[.float .f64 b] w fun e w' => e = .returned (.tuple #[.int .i64 (if (u1 || (u2 && od)) = true then n + 1 else if (d1 || (d2 && od)) = true then n - 1 else n), .int .i64 0]) ∧ Below w.heap.size w w' := by
  obtain ⟨cc, hc, hc1⟩ := hc
  have HC := Aside0.mk hc
  have f0 : (cc == 1) = false := beq_eq_false_iff_ne.2 hc1
  have hb := toI_bd ht ho
  have ho' := (Bool.or_eq_false_iff.1 ho)
  have f1 : (FloatKind.f64.format.order x 4769312005385355264 == some .gt) = false := ho'.1
  have f2 : (FloatKind.f64.format.order x 13992684042240131072 == some .lt) = false := ho'.2
  have r1 : ∀ w, (binOp .mul 22 (.float .f64 b) (.float .f64 4634204016564240384)).run Tryd.prog w = .ok (.float .f64 x) w := fun w => run_float_arith w .mul _ .f64 b _ x hx
  have r2 : ∀ w, (convert 22 3 (.float .f64 x)).run Tryd.prog w = .ok (.int .i64 n) w := fun w => run_convert_float_int w _ _ .f64 .i64 _ n some22 Tryd.underlying3 ht
  have r3 : ∀ w, (convert 3 22 (.int .i64 n)).run Tryd.prog w = .ok (.float .f64 (ofI n)) w := fun w => run_convert_int_float w _ _ .i64 .f64 n some3 Tryd.underlying22
  have r4 : ∀ w, (binOp .sub 22 (.float .f64 x) (.float .f64 (ofI n))).run Tryd.prog w = .ok (.float .f64 l) w := fun w => run_float_arith w .sub _ .f64 x _ l hl
  have lo : -68719476737 ≤ n := hb.1
  have hi : n ≤ 68719476737 := hb.2
  obtain ⟨t1, t2, t3, t4, t5⟩ := h
  generalize ofI n = fn at r3 r4
  clear hb ho ho' hx ht hl hc hc1
  cases u1
  · cases u2
    · cases d1
      · cases d2
        · clear t5
          (try simp only [Bool.true_or, Bool.false_or, Bool.and_true, Bool.and_false, Bool.or_false, Bool.true_and, Bool.false_and, if_true, if_false, Bool.false_eq_true, reduceIte])
          go_enter Tryd.func6, Tryd.ntmps6
          go_wp2_with (first | go_step3 | (go_at_call 8; with_reducible refine (parterreref02_Class.calls _ _ HC.out _).mono ?_; rintro e w' ⟨rfl, hb⟩))
          go_ret2
          exact ⟨rfl, hb⟩
        · cases od
          · (try simp only [Bool.true_or, Bool.false_or, Bool.and_true, Bool.and_false, Bool.or_false, Bool.true_and, Bool.false_and, if_true, if_false, Bool.false_eq_true, reduceIte])
            go_enter Tryd.func6, Tryd.ntmps6
            go_wp2_with (first | go_step3 | (go_at_call 8; with_reducible refine (parterreref02_Class.calls _ _ HC.out _).mono ?_; rintro e w' ⟨rfl, hb⟩))
            go_ret2
            exact ⟨rfl, hb⟩
          · (try simp only [Bool.true_or, Bool.false_or, Bool.and_true, Bool.and_false, Bool.or_false, Bool.true_and, Bool.false_and, if_true, if_false, Bool.false_eq_true, reduceIte])
            go_enter Tryd.func6, Tryd.ntmps6
            go_wp2_with (first | go_step3 | (go_at_call 8; with_reducible refine (parterreref02_Class.calls _ _ HC.out _).mono ?_; rintro e w' ⟨rfl, hb⟩))
            go_ret2
            exact ⟨rfl, hb⟩
      · clear t5
        (try simp only [Bool.true_or, Bool.false_or, Bool.and_true, Bool.and_false, Bool.or_false, Bool.true_and, Bool.false_and, if_true, if_false, Bool.false_eq_true, reduceIte])
        go_enter Tryd.func6, Tryd.ntmps6
        go_wp2_with (first | go_step3 | (go_at_call 8; with_reducible refine (parterreref02_Class.calls _ _ HC.out _).mono ?_; rintro e w' ⟨rfl, hb⟩))
        go_ret2
        exact ⟨rfl, hb⟩
    · cases od
      · cases d1
        · cases d2
          · (try simp only [Bool.true_or, Bool.false_or, Bool.and_true, Bool.and_false, Bool.or_false, Bool.true_and, Bool.false_and, if_true, if_false, Bool.false_eq_true, reduceIte])
            go_enter Tryd.func6, Tryd.ntmps6
            go_wp2_with (first | go_step3 | (go_at_call 8; with_reducible refine (parterreref02_Class.calls _ _ HC.out _).mono ?_; rintro e w' ⟨rfl, hb⟩))
            go_ret2
            exact ⟨rfl, hb⟩
          · (try simp only [Bool.true_or, Bool.false_or, Bool.and_true, Bool.and_false, Bool.or_false, Bool.true_and, Bool.false_and, if_true, if_false, Bool.false_eq_true, reduceIte])
            go_enter Tryd.func6, Tryd.ntmps6
            go_wp2_with (first | go_step3 | (go_at_call 8; with_reducible refine (parterreref02_Class.calls _ _ HC.out _).mono ?_; rintro e w' ⟨rfl, hb⟩))
            go_ret2
            exact ⟨rfl, hb⟩
        · (try simp only [Bool.true_or, Bool.false_or, Bool.and_true, Bool.and_false, Bool.or_false, Bool.true_and, Bool.false_and, if_true, if_false, Bool.false_eq_true, reduceIte])
          go_enter Tryd.func6, Tryd.ntmps6
          go_wp2_with (first | go_step3 | (go_at_call 8; with_reducible refine (parterreref02_Class.calls _ _ HC.out _).mono ?_; rintro e w' ⟨rfl, hb⟩))
          go_ret2
          exact ⟨rfl, hb⟩
      · (try simp only [Bool.true_or, Bool.false_or, Bool.and_true, Bool.and_false, Bool.or_false, Bool.true_and, Bool.false_and, if_true, if_false, Bool.false_eq_true, reduceIte])
        go_enter Tryd.func6, Tryd.ntmps6
        go_wp2_with (first | go_step3 | (go_at_call 8; with_reducible refine (parterreref02_Class.calls _ _ HC.out _).mono ?_; rintro e w' ⟨rfl, hb⟩))
        go_ret2
        exact ⟨rfl, hb⟩
  · clear t5
    (try simp only [Bool.true_or, Bool.false_or, Bool.and_true, Bool.and_false, Bool.or_false, Bool.true_and, Bool.false_and, if_true, if_false, Bool.false_eq_true, reduceIte])
    go_enter Tryd.func6, Tryd.ntmps6
    go_wp2_with (first | go_step3 | (go_at_call 8; with_reducible refine (parterreref02_Class.calls _ _ HC.out _).mono ?_; rintro e w' ⟨rfl, hb⟩))
    go_ret2
    exact ⟨rfl, hb⟩
theorem parterreref02_FromFloat.over (b : Nat) (x : Nat) (w : World) (hc : ∃ c, ClassV b = c ∧ c ≠ 1) (hx : D.mul b C64 = some x) (ho : rOver x = true) :
    Calls Tryd.prog 6 #[.float .f64 b] w fun e w' => e = .returned (.tuple #[.int .i64 0, .int .i64 10]) ∧ Below w.heap.size w w' := by
  obtain ⟨cc, hc, hc1⟩ := hc
  have HC := Aside0.mk hc
  have f0 : (cc == 1) = false := beq_eq_false_iff_ne.2 hc1
  have r1 : ∀ w, (binOp .mul 22 (.float .f64 b) (.float .f64 4634204016564240384)).run Tryd.prog w = .ok (.float .f64 x) w := fun w => run_float_arith w .mul _ .f64 b _ x hx
  have ho2 : ((FloatKind.f64.format.order x 4769312005385355264 == some .gt) || (FloatKind.f64.format.order x 13992684042240131072 == some .lt)) = true := ho
  clear hx ho hc hc1
  by_cases c1 : (FloatKind.f64.format.order x 4769312005385355264 == some .gt) = true
  · clear ho2
    (try simp only [Bool.true_or, Bool.false_or, Bool.and_true, Bool.and_false, Bool.or_false, Bool.true_and, Bool.false_and, if_true, if_false, Bool.false_eq_true, reduceIte])
    go_enter Tryd.func6, Tryd.ntmps6
    go_wp2_with (first | go_step3 | (go_at_call 8; with_reducible refine (parterreref02_Class.calls _ _ HC.out _).mono ?_; rintro e w' ⟨rfl, hb⟩))
    go_ret2
    exact ⟨rfl, hb⟩
  · have c1 := Bool.eq_false_iff.2 c1
    rw [c1, Bool.false_or] at ho2
    (try simp only [Bool.true_or, Bool.false_or, Bool.and_true, Bool.and_false, Bool.or_false, Bool.true_and, Bool.false_and, if_true, if_false, Bool.false_eq_true, reduceIte])
    go_enter Tryd.func6, Tryd.ntmps6
    go_wp2_with (first | go_step3 | (go_at_call 8; with_reducible refine (parterreref02_Class.calls _ _ HC.out _).mono ?_; rintro e w' ⟨rfl, hb⟩))
    go_ret2
    exact ⟨rfl, hb⟩
theorem parterreref02_FromFloat.nan (b : Nat) (w : World) (hc : ClassV b = 1) :
    Calls Tryd.prog 6 #[.float .f64 b] w fun e w' => e = .returned (.tuple #[.int .i64 0, .int .i64 20]) ∧ Below w.heap.size w w' := by
  have HC := Aside0.mk hc
  clear hc
  (try simp only [Bool.true_or, Bool.false_or, Bool.and_true, Bool.and_false, Bool.or_false, Bool.true_and, Bool.false_and, if_true, if_false, Bool.false_eq_true, reduceIte])
  go_enter Tryd.func6, Tryd.ntmps6
  go_wp2_with (first | go_step3 | (go_at_call 8; with_reducible refine (parterreref02_Class.calls _ _ HC.out _).mono ?_; rintro e w' ⟨rfl, hb⟩))
  go_ret2
  exact ⟨rfl, hb⟩
theorem parterreref02_FromFloat.calls (b : Nat) (n g : Int) (h : rFrom b = some (n, g)) (w : World) :
    Calls Tryd.prog 6 #[.float .f64 b] w fun e w' => e = .returned (.tuple #[.int .i64 n, .int .i64 g]) ∧ Below w.heap.size w w' := by
  unfold rFrom at h
  by_cases c1 : ClassV b = 1
  · rw [if_pos c1] at h
    obtain ⟨rfl, rfl⟩ := Prod.mk.inj (Option.some.inj h)
    exact parterreref02_FromFloat.nan b w c1
  · rw [if_neg c1] at h
    obtain ⟨x, hx, h⟩ := Option.bind_eq_some_iff.mp h
    unfold rLen at h
    by_cases ho : rOver x = true
    · rw [if_pos ho] at h
      obtain ⟨rfl, rfl⟩ := Prod.mk.inj (Option.some.inj h)
      exact parterreref02_FromFloat.over b x w ⟨_, rfl, c1⟩ hx ho
    · rw [if_neg ho] at h
      obtain ⟨n0, ht, h⟩ := Option.bind_eq_some_iff.mp h
      obtain ⟨l, hl, h⟩ := Option.bind_eq_some_iff.mp h
      have hw := parterreref02_FromFloat.left b 0 x l n0 w ⟨_, rfl, c1⟩ hx (Bool.eq_false_iff.2 ho) ht hl _ _ _ _ _ ⟨rfl, rfl, rfl, rfl, rfl⟩
      refine hw.mono fun e w' ⟨h1, h2⟩ => ⟨?_, h2⟩
      rw [h1]
      have e0 : n = (if up n0 l = true then n0 + 1 else if dn n0 l = true then n0 - 1 else n0) ∧ g = 0 := by
        by_cases hu : up n0 l = true
        · rw [if_pos hu] at h ⊢
          obtain ⟨rfl, rfl⟩ := Prod.mk.inj (Option.some.inj h)
          exact ⟨rfl, rfl⟩
        · rw [if_neg hu] at h ⊢
          by_cases hd : dn n0 l = true
          · rw [if_pos hd] at h ⊢
            obtain ⟨rfl, rfl⟩ := Prod.mk.inj (Option.some.inj h)
            exact ⟨rfl, rfl⟩
          · rw [if_neg hd] at h ⊢
            obtain ⟨rfl, rfl⟩ := Prod.mk.inj (Option.some.inj h)
            exact ⟨rfl, rfl⟩
      rw [e0.1, e0.2]
      rfl
end Go.Proofs.YtipjoejaeipgnaaDoor.Giv
