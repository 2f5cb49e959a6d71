import Derived.Test.YtaalmkkekbhpnaaPRax4
import Derived.Test.YtaalmkkekbhpnaaOpen
import Derived.Test.YtaalmkkekbhpnaaWTab
namespace Go.Proofs.Ytaalmkkekbhpnaa.Giv
open Go.RowKit Go.Proofs.YtaalmkkekbhpnaaW.PrintWords Go.Proofs.YtaalmkkekbhpnaaW.PrintLast Go.Proofs.YtaalmkkekbhpnaaW.PrintMore Go.Proofs.Ytaalmkkekbhpnaa.PRa
open Go.Proofs.Ytaalmkkekbhpnaa.Opn Go.BigFrame
set_option linter.unusedVariables false
set_option linter.unusedSimpArgs false
/-- What the function of that number tells of a byte. -/
def area_run.test (p : Nat) (c : Int) : Option Bool := if p = 18 then area_inner.f c else none
def area_run.l0 : Nat → ByteArray → Nat → Int → Option Int
  | 0, _, _, _ => none
  | k + 1, s, p, n => if n < (s.size : Int) then (if 0 ≤ n then ((area_run.test p (bt s n)).bind fun t => (if t = true then area_run.l0 k s p (wrap64 (n + 1)) else some n)) else none) else some n
def area_run.f (k : Nat) (s : ByteArray) (p : Nat) : Option Int := if p = 18 then area_run.l0 k s p 0 else none
theorem area_run.mono_l : ∀ k s p n, LeO (area_run.l0 k s p n) (area_run.l0 (k + 1) s p n)
  | 0, _, _, _ => fun r h => by simp [area_run.l0] at h
  | k + 1, s, p, n => by
    have ih := area_run.mono_l k
    unfold area_run.l0
    refine LeO.ite (LeO.ite (LeO.bind (LeO.refl _) (fun _ => LeO.ite (ih _ _ _) (LeO.refl _))) (LeO.none _)) (LeO.refl _)
theorem area_run.mono : ∀ s p k, LeO (area_run.f k s p) (area_run.f (k + 1) s p) := by
  intro s p k
  unfold area_run.f
  exact LeO.ite (area_run.mono_l _ _ _ _) (LeO.none _)
set_option maxHeartbeats 8000000 in
set_option maxRecDepth 100000 in
theorem area_run.calls_inner (k : Nat) (a0 : ByteArray) (r : Int) (w : World) (h : area_run.l0 k a0 18 0 = some r) :
    Calls Try.prog 17 #[.string a0, .func (.func 18) #[] #[]] w fun e w' => e = .returned (.int .i64 r) ∧ Drawn0 w w' := by
  have H' := Aside0.mk h
  clear h
  go_enter Try.func17, Try.ntmps17
  go_wp2
  go_loopg [4] k (fun kq v4 w' => ∃ (n : Int), v4 = .int .i64 n ∧ Aside0 (area_run.l0 kq a0 18 n = some r) ∧ Aside0 (kq ≤ k) ∧ Drawn0 w w')
  case atStart => exact ⟨0, rfl, H', ⟨Nat.le_refl _⟩, by repeat (first | exact Drawn0.refl _ | apply Drawn0.step)⟩
  case round =>
    clear H'
    obtain ⟨n, rfl, HA, HK, hd⟩ := hrel
    obtain ⟨nd0, rfl⟩ := hd
    cases gk with
    | zero => exact absurd HA.out (by simp [area_run.l0])
    | succ k1 =>
      have H := HA.out
      clear HA
      simp only [area_run.l0] at H
      by_cases c1 : n < (a0.size : Int)
      · rw [if_pos c1] at H
        have c1b0 : decide (n < (a0.size : Int)) = true := decide_eq_true c1
        clear c1
        by_cases c2 : 0 ≤ n
        · rw [if_pos c2] at H
          have c2b0 : decide (0 ≤ n) = true := decide_eq_true c2
          clear c2
          obtain ⟨t, ht, H⟩ := Option.bind_eq_some_iff.mp H
          replace ht : area_inner.f (bt a0 n) = some t := ht
          have A1 := Aside0.mk ht
          clear ht
          have p1 : 0 ≤ (n : Int) := of_decide_eq_true (by first | (with_reducible assumption) | assumption)
          have q1 : n < (a0.size : Int) := of_decide_eq_true (by first | (with_reducible assumption) | assumption)
          have hx1 := bt_at a0 n
          replace p1 := eq_true p1
          replace q1 := eq_true q1
          cases t with
          | true =>
            rw [if_pos rfl] at H
            have H' := Aside0.mk H
            clear H
            go_wp2_with (first | (go_at_call 18; (with_reducible refine (area_inner.calls (bt a0 n) true _ A1.out).mono ?_); rintro e w' ⟨rfl, ⟨nd, rfl⟩⟩))
            go_roundg k1
            case measure => have := HK.out; omega
            case rel => exact ⟨(wrap64 (n + 1)), (by first | rfl | (simp; done) | (simp [*]; done)), H', ⟨by have := HK.out; omega⟩, by repeat (first | exact Drawn0.refl _ | apply Drawn0.step)⟩
          | false =>
            rw [if_neg (by decide)] at H
            obtain rfl := Option.some.inj H
            clear H
            go_wp2_with (first | (go_at_call 18; (with_reducible refine (area_inner.calls (bt a0 n) false _ A1.out).mono ?_); rintro e w' ⟨rfl, ⟨nd, rfl⟩⟩))
            go_ret
            exact ⟨by first | rfl | (simp; done) | (simp [*]; done), by repeat (first | exact Drawn0.refl _ | apply Drawn0.step)⟩
        · rw [if_neg c2] at H
          exact absurd H (by simp)
      · rw [if_neg c1] at H
        have c1b0 : decide (n < (a0.size : Int)) = false := decide_eq_false c1
        clear c1
        obtain rfl := Option.some.inj H
        clear H
        go_wp2
        go_ret
        exact ⟨by first | rfl | (simp; done) | (simp [*]; done), by repeat (first | exact Drawn0.refl _ | apply Drawn0.step)⟩
theorem area_run.calls (k : Nat) (a0 : ByteArray) (a1 : Nat) (r : Int) (w : World) (h : area_run.f k a0 a1 = some r) :
    Calls Try.prog 17 #[.string a0, .func (.func a1) #[] #[]] w fun e w' => e = .returned (.int .i64 r) ∧ Drawn0 w w' := by
  unfold area_run.f at h
  split at h
  · rename_i hp
    subst hp
    exact area_run.calls_inner k a0 r w h
  · cases h
end Go.Proofs.Ytaalmkkekbhpnaa.Giv
