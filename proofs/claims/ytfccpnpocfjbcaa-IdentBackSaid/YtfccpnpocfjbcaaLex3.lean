import Derived.Test.YtfccpnpocfjbcaaPTkx2
import Derived.Test.YtfccpnpocfjbcaaPTkx5
import Derived.Test.YtfccpnpocfjbcaaPTkx6
import Derived.Test.YtfccpnpocfjbcaaPTkx8
import Derived.Test.YtfccpnpocfjbcaaSq
import Derived.BigRegion
import Derived.BigQuiet
import Derived.Deep.QuietTactic
import Derived.Test.YtfccpnpocfjbcaaLex2
namespace Go.Proofs.Ytfccpnpocfjbcaa.Giv
open Go.RowKit Go.Proofs.YtfccpnpocfjbcaaW.PrintWords Go.Proofs.YtfccpnpocfjbcaaW.PrintLast Go.Proofs.YtfccpnpocfjbcaaW.PrintMore Go.Proofs.Ytfccpnpocfjbcaa.PTk
open Go.Proofs.Ytfccpnpocfjbcaa.Opn Go.BigFrame
set_option linter.unusedVariables false
set_option linter.unusedSimpArgs false
/-- Does an identifier begin at a place? -/
def begF (k : Nat) (s : ByteArray) (i : Nat) : Option Bool := (isF token_lexer_begins_1.f s i).bind fun m => if m = true then ((isF token_lexer_begins_1.f s (i + 1)).bind fun a => if a = true then some true else ((isF token_Letter.f s (i + 1)).bind fun b => if b = true then some true else escF k s (i + 1)))
    else ((isF token_Letter.f s i).bind fun a => if a = true then some true else escF k s i)
theorem begF.mono : ∀ s i k, LeO (begF k s i) (begF (k + 1) s i) := by
  intro s i k
  unfold begF
  repeat' first
      | (with_reducible exact escF.mono _ _ _)
      | (with_reducible exact LeO.refl _)
      | (with_reducible exact LeO.none _)
      | (with_reducible refine LeO.ite ?_ ?_)
      | (with_reducible refine LeO.bind ?_ (fun _ => ?_))
set_option maxHeartbeats 8000000 in
set_option maxRecDepth 100000 in
theorem begins_calls (k : Nat) (s : ByteArray) (g i : Nat) (hs : s.size ≤ 140737488351232) (hi : i ≤ s.size) (r : Bool) (w : World) (h : Lx w g s i) (hf : begF k s i = some r) :
    Calls Try.prog 45 #[.pointer (some ⟨g, 0, none⟩)] w fun e w' => e = .returned (.bool r) ∧ Below w.heap.size w w' := by
  have HS := Aside0.mk hs
  have HX := Aside0.mk h
  have HB := Aside0.mk (Below.refl w.heap.size w)
  have HJ0 := Aside0.mk (show i ≤ 140737488351300 by omega)
  have HJ1 := Aside0.mk (show i + 1 ≤ 140737488351300 by omega)
  have HW0 := Aside0.mk (show IntKind.i64.wrap (i : Int) = (i : Int) from wrapE i 0 (by omega))
  have HW1 := Aside0.mk (show IntKind.i64.wrap ((i : Int) + 1) = ((i + 1 : Nat) : Int) from wrapE i 1 (by omega))
  unfold begF at hf
  obtain ⟨m, hm, hf⟩ := Option.bind_eq_some_iff.mp hf
  have A1 := Aside0.mk hm
  clear hm h hs hi
  cases m
  · rw [if_neg (by decide)] at hf
    obtain ⟨a, ha, hf⟩ := Option.bind_eq_some_iff.mp hf
    have A2 := Aside0.mk ha
    clear ha
    cases a
    · rw [if_neg (by decide)] at hf
      have A3 := Aside0.mk hf
      clear hf
      go_enter Try.func45, Try.ntmps45
      go_wp2_with (first | (go_at_call 43; with_reducible refine (is_minus0 s g i i HS.out HW0.out _ _ ?lx A1.out).mono ?_; (case lx => exact (by repeat (first | (with_reducible first | exact HX.out | apply Lx.drewN | apply Lx.drew)))); rintro e wi ⟨rfl, ⟨ni, rfl⟩⟩) | (go_at_call 43; with_reducible refine (is_letter0 s g i i HS.out HW0.out _ _ ?lx A2.out).mono ?_; (case lx => exact (by repeat (first | (with_reducible first | exact HX.out | apply Lx.drewN | apply Lx.drew)))); rintro e wi ⟨rfl, ⟨ni, rfl⟩⟩) | (go_at_call 57; with_reducible refine (escape_0 k s g i i HS.out HJ0.out HW0.out _ _ ?lx A3.out).mono ?_; (case lx => exact (by repeat (first | (with_reducible first | exact HX.out | apply Lx.drewN | apply Lx.drew)))); rintro e wi ⟨rfl, hb⟩; have HX2 := Aside0.mk (Lx.below (by repeat (first | (with_reducible first | exact HX.out | apply Lx.drewN | apply Lx.drew))) hb); have HB2 := Aside0.mk (below_step (by repeat (first | (with_reducible first | exact HB.out | apply below_drewN0 | apply below_drew1))) hb); clear hb HX HB; have HX := HX2; have HB := HB2; clear HX2 HB2))
      go_ret
      exact ⟨rfl, (by repeat (first | (with_reducible first | exact HB.out | apply below_drewN0 | apply below_drew1)))⟩
    · rw [if_pos rfl] at hf
      obtain rfl := Option.some.inj hf
      clear hf
      go_enter Try.func45, Try.ntmps45
      go_wp2_with (first | (go_at_call 43; with_reducible refine (is_minus0 s g i i HS.out HW0.out _ _ ?lx A1.out).mono ?_; (case lx => exact (by repeat (first | (with_reducible first | exact HX.out | apply Lx.drewN | apply Lx.drew)))); rintro e wi ⟨rfl, ⟨ni, rfl⟩⟩) | (go_at_call 43; with_reducible refine (is_letter0 s g i i HS.out HW0.out _ _ ?lx A2.out).mono ?_; (case lx => exact (by repeat (first | (with_reducible first | exact HX.out | apply Lx.drewN | apply Lx.drew)))); rintro e wi ⟨rfl, ⟨ni, rfl⟩⟩))
      go_ret
      exact ⟨rfl, (by repeat (first | (with_reducible first | exact HB.out | apply below_drewN0 | apply below_drew1)))⟩
  · rw [if_pos rfl] at hf
    obtain ⟨a, ha, hf⟩ := Option.bind_eq_some_iff.mp hf
    have A2 := Aside0.mk ha
    clear ha
    cases a
    · rw [if_neg (by decide)] at hf
      obtain ⟨b, hb, hf⟩ := Option.bind_eq_some_iff.mp hf
      have A3 := Aside0.mk hb
      clear hb
      cases b
      · rw [if_neg (by decide)] at hf
        have A4 := Aside0.mk hf
        clear hf
        go_enter Try.func45, Try.ntmps45
        go_wp2_with (first | (go_at_call 43; with_reducible refine (is_minus0 s g i i HS.out HW0.out _ _ ?lx A1.out).mono ?_; (case lx => exact (by repeat (first | (with_reducible first | exact HX.out | apply Lx.drewN | apply Lx.drew)))); rintro e wi ⟨rfl, ⟨ni, rfl⟩⟩) | (go_at_call 43; with_reducible refine (is_minus1 s g i (i + 1) HS.out HW1.out _ _ ?lx A2.out).mono ?_; (case lx => exact (by repeat (first | (with_reducible first | exact HX.out | apply Lx.drewN | apply Lx.drew)))); rintro e wi ⟨rfl, ⟨ni, rfl⟩⟩) | (go_at_call 43; with_reducible refine (is_letter1 s g i (i + 1) HS.out HW1.out _ _ ?lx A3.out).mono ?_; (case lx => exact (by repeat (first | (with_reducible first | exact HX.out | apply Lx.drewN | apply Lx.drew)))); rintro e wi ⟨rfl, ⟨ni, rfl⟩⟩) | (go_at_call 57; with_reducible refine (escape_1 k s g i (i + 1) HS.out HJ1.out HW1.out _ _ ?lx A4.out).mono ?_; (case lx => exact (by repeat (first | (with_reducible first | exact HX.out | apply Lx.drewN | apply Lx.drew)))); rintro e wi ⟨rfl, hb⟩; have HX2 := Aside0.mk (Lx.below (by repeat (first | (with_reducible first | exact HX.out | apply Lx.drewN | apply Lx.drew))) hb); have HB2 := Aside0.mk (below_step (by repeat (first | (with_reducible first | exact HB.out | apply below_drewN0 | apply below_drew1))) hb); clear hb HX HB; have HX := HX2; have HB := HB2; clear HX2 HB2))
        go_ret
        exact ⟨rfl, (by repeat (first | (with_reducible first | exact HB.out | apply below_drewN0 | apply below_drew1)))⟩
      · rw [if_pos rfl] at hf
        obtain rfl := Option.some.inj hf
        clear hf
        go_enter Try.func45, Try.ntmps45
        go_wp2_with (first | (go_at_call 43; with_reducible refine (is_minus0 s g i i HS.out HW0.out _ _ ?lx A1.out).mono ?_; (case lx => exact (by repeat (first | (with_reducible first | exact HX.out | apply Lx.drewN | apply Lx.drew)))); rintro e wi ⟨rfl, ⟨ni, rfl⟩⟩) | (go_at_call 43; with_reducible refine (is_minus1 s g i (i + 1) HS.out HW1.out _ _ ?lx A2.out).mono ?_; (case lx => exact (by repeat (first | (with_reducible first | exact HX.out | apply Lx.drewN | apply Lx.drew)))); rintro e wi ⟨rfl, ⟨ni, rfl⟩⟩) | (go_at_call 43; with_reducible refine (is_letter1 s g i (i + 1) HS.out HW1.out _ _ ?lx A3.out).mono ?_; (case lx => exact (by repeat (first | (with_reducible first | exact HX.out | apply Lx.drewN | apply Lx.drew)))); rintro e wi ⟨rfl, ⟨ni, rfl⟩⟩))
        go_ret
        exact ⟨rfl, (by repeat (first | (with_reducible first | exact HB.out | apply below_drewN0 | apply below_drew1)))⟩
    · rw [if_pos rfl] at hf
      obtain rfl := Option.some.inj hf
      clear hf
      go_enter Try.func45, Try.ntmps45
      go_wp2_with (first | (go_at_call 43; with_reducible refine (is_minus0 s g i i HS.out HW0.out _ _ ?lx A1.out).mono ?_; (case lx => exact (by repeat (first | (with_reducible first | exact HX.out | apply Lx.drewN | apply Lx.drew)))); rintro e wi ⟨rfl, ⟨ni, rfl⟩⟩) | (go_at_call 43; with_reducible refine (is_minus1 s g i (i + 1) HS.out HW1.out _ _ ?lx A2.out).mono ?_; (case lx => exact (by repeat (first | (with_reducible first | exact HX.out | apply Lx.drewN | apply Lx.drew)))); rintro e wi ⟨rfl, ⟨ni, rfl⟩⟩))
      go_ret
      exact ⟨rfl, (by repeat (first | (with_reducible first | exact HB.out | apply below_drewN0 | apply below_drew1)))⟩
end Go.Proofs.Ytfccpnpocfjbcaa.Giv
