/- LineTellsCardSaid, part 3 of 7: contracts of the program's functions, the words that they use, and the plain laws on what they compute. Conditions: none beyond what the statements say. -/
import Derived.Test.YtofdhdafabmhmaaGreatDoorKLt1
import Derived.Test.YtofdhdafabmhmaaGreatDoorKLt0
import Derived.BigRegion
import Derived.BigQuiet
import Derived.Deep.QuietTactic
import Derived.Test.YtofdhdafabmhmaaGreatDoorProg
import Derived.Lib.Strings
import Derived.Lib.Slices
import Derived.Lib.Walk
import Derived.Lib.Builder
import Derived.Lib.AppendStr
import Derived.Lib.UnsafeStr
import Derived.WalkKit
import Derived.Tactics
import Derived.OwnWalk
import Derived.Laws.Externs
import Derived.KernelRfl
import Derived.Outline
import Derived.Tactics2
import Derived.Defers
import Derived.Recover
import Derived.Lib.ConvBytes
section
namespace Go.Proofs.YtofdhdafabmhmaaGreatDoor.Giv
open Go.RowKit Go.Proofs.YtofdhdafabmhmaaGreatDoorW.PrintWords Go.Proofs.YtofdhdafabmhmaaGreatDoorW.PrintLast Go.Proofs.YtofdhdafabmhmaaGreatDoorW.PrintMore Go.Proofs.YtofdhdafabmhmaaGreatDoor.PLt
open Go.Proofs.YtofdhdafabmhmaaGreatDoor.Opn Go.BigFrame
set_option linter.unusedVariables false
set_option linter.unusedSimpArgs false
/-- Does an identifier begin at a place? -/
def begF (k : Nat) (s : ByteArray) (i : Nat) : Option Bool := (isF token_lexer_begins_1.f s i).bind fun m => if m = true then ((isF token_lexer_begins_1.f s (i + 1)).bind fun a => if a = true then some true else ((isF token_Letter.f s (i + 1)).bind fun b => if b = true then some true else escF k s (i + 1)))
    else ((isF token_Letter.f s i).bind fun a => if a = true then some true else escF k s i)
theorem begF.mono : ∀ s i k, LeO (begF k s i) (begF (k + 1) s i) := by
  intro s i k
  unfold begF
  repeat' first
      | (with_reducible exact escF.mono _ _ _)
      | (with_reducible exact LeO.refl _)
      | (with_reducible exact LeO.none _)
      | (with_reducible refine LeO.ite ?_ ?_)
      | (with_reducible refine LeO.bind ?_ (fun _ => ?_))
set_option maxHeartbeats 8000000 in
set_option maxRecDepth 100000 in
theorem begins_calls (k : Nat) (s : ByteArray) (g i : Nat) (hs : s.size ≤ 140737488351232) (hi : i ≤ s.size) (r : Bool) (w : World) (h : Lx w g s i) (hf : begF k s i = some r) :
    Calls Tryz.prog 104 #[.pointer (some ⟨g, 0, none⟩)] w fun e w' => e = .returned (.bool r) ∧ Below w.heap.size w w' := by
  have HS := Aside0.mk hs
  have HX := Aside0.mk h
  have HB := Aside0.mk (Below.refl w.heap.size w)
  have HJ0 := Aside0.mk (show i ≤ 140737488351300 by omega)
  have HJ1 := Aside0.mk (show i + 1 ≤ 140737488351300 by omega)
  have HW0 := Aside0.mk (show IntKind.i64.wrap (i : Int) = (i : Int) from wrapE i 0 (by omega))
  have HW1 := Aside0.mk (show IntKind.i64.wrap ((i : Int) + 1) = ((i + 1 : Nat) : Int) from wrapE i 1 (by omega))
  unfold begF at hf
  obtain ⟨m, hm, hf⟩ := Option.bind_eq_some_iff.mp hf
  have A1 := Aside0.mk hm
  clear hm h hs hi
  cases m
  · rw [if_neg (by decide)] at hf
    obtain ⟨a, ha, hf⟩ := Option.bind_eq_some_iff.mp hf
    have A2 := Aside0.mk ha
    clear ha
    cases a
    · rw [if_neg (by decide)] at hf
      have A3 := Aside0.mk hf
      clear hf
      go_enter Tryz.func104, Tryz.ntmps104
      go_wp2_with (first | (go_at_call 102; with_reducible refine (is_minus0 s g i i HS.out HW0.out _ _ ?lx A1.out).mono ?_; (case lx => exact (by repeat (first | (with_reducible first | exact HX.out | apply Lx.drewN | apply Lx.drew)))); rintro e wi ⟨rfl, ⟨ni, rfl⟩⟩) | (go_at_call 102; with_reducible refine (is_letter0 s g i i HS.out HW0.out _ _ ?lx A2.out).mono ?_; (case lx => exact (by repeat (first | (with_reducible first | exact HX.out | apply Lx.drewN | apply Lx.drew)))); rintro e wi ⟨rfl, ⟨ni, rfl⟩⟩) | (go_at_call 125; with_reducible refine (escape_0 k s g i i HS.out HJ0.out HW0.out _ _ ?lx A3.out).mono ?_; (case lx => exact (by repeat (first | (with_reducible first | exact HX.out | apply Lx.drewN | apply Lx.drew)))); rintro e wi ⟨rfl, hb⟩; have HX2 := Aside0.mk (Lx.below (by repeat (first | (with_reducible first | exact HX.out | apply Lx.drewN | apply Lx.drew))) hb); have HB2 := Aside0.mk (below_step (by repeat (first | (with_reducible first | exact HB.out | apply below_drewN0 | apply below_drew1))) hb); clear hb HX HB; have HX := HX2; have HB := HB2; clear HX2 HB2))
      go_ret
      exact ⟨rfl, (by repeat (first | (with_reducible first | exact HB.out | apply below_drewN0 | apply below_drew1)))⟩
    · rw [if_pos rfl] at hf
      obtain rfl := Option.some.inj hf
      clear hf
      go_enter Tryz.func104, Tryz.ntmps104
      go_wp2_with (first | (go_at_call 102; with_reducible refine (is_minus0 s g i i HS.out HW0.out _ _ ?lx A1.out).mono ?_; (case lx => exact (by repeat (first | (with_reducible first | exact HX.out | apply Lx.drewN | apply Lx.drew)))); rintro e wi ⟨rfl, ⟨ni, rfl⟩⟩) | (go_at_call 102; with_reducible refine (is_letter0 s g i i HS.out HW0.out _ _ ?lx A2.out).mono ?_; (case lx => exact (by repeat (first | (with_reducible first | exact HX.out | apply Lx.drewN | apply Lx.drew)))); rintro e wi ⟨rfl, ⟨ni, rfl⟩⟩))
      go_ret
      exact ⟨rfl, (by repeat (first | (with_reducible first | exact HB.out | apply below_drewN0 | apply below_drew1)))⟩
  · rw [if_pos rfl] at hf
    obtain ⟨a, ha, hf⟩ := Option.bind_eq_some_iff.mp hf
    have A2 := Aside0.mk ha
    clear ha
    cases a
    · rw [if_neg (by decide)] at hf
      obtain ⟨b, hb, hf⟩ := Option.bind_eq_some_iff.mp hf
      have A3 := Aside0.mk hb
      clear hb
      cases b
      · rw [if_neg (by decide)] at hf
        have A4 := Aside0.mk hf
        clear hf
        go_enter Tryz.func104, Tryz.ntmps104
        go_wp2_with (first | (go_at_call 102; with_reducible refine (is_minus0 s g i i HS.out HW0.out _ _ ?lx A1.out).mono ?_; (case lx => exact (by repeat (first | (with_reducible first | exact HX.out | apply Lx.drewN | apply Lx.drew)))); rintro e wi ⟨rfl, ⟨ni, rfl⟩⟩) | (go_at_call 102; with_reducible refine (is_minus1 s g i (i + 1) HS.out HW1.out _ _ ?lx A2.out).mono ?_; (case lx => exact (by repeat (first | (with_reducible first | exact HX.out | apply Lx.drewN | apply Lx.drew)))); rintro e wi ⟨rfl, ⟨ni, rfl⟩⟩) | (go_at_call 102; with_reducible refine (is_letter1 s g i (i + 1) HS.out HW1.out _ _ ?lx A3.out).mono ?_; (case lx => exact (by repeat (first | (with_reducible first | exact HX.out | apply Lx.drewN | apply Lx.drew)))); rintro e wi ⟨rfl, ⟨ni, rfl⟩⟩) | (go_at_call 125; with_reducible refine (escape_1 k s g i (i + 1) HS.out HJ1.out HW1.out _ _ ?lx A4.out).mono ?_; (case lx => exact (by repeat (first | (with_reducible first | exact HX.out | apply Lx.drewN | apply Lx.drew)))); rintro e wi ⟨rfl, hb⟩; have HX2 := Aside0.mk (Lx.below (by repeat (first | (with_reducible first | exact HX.out | apply Lx.drewN | apply Lx.drew))) hb); have HB2 := Aside0.mk (below_step (by repeat (first | (with_reducible first | exact HB.out | apply below_drewN0 | apply below_drew1))) hb); clear hb HX HB; have HX := HX2; have HB := HB2; clear HX2 HB2))
        go_ret
        exact ⟨rfl, (by repeat (first | (with_reducible first | exact HB.out | apply below_drewN0 | apply below_drew1)))⟩
      · rw [if_pos rfl] at hf
        obtain rfl := Option.some.inj hf
        clear hf
        go_enter Tryz.func104, Tryz.ntmps104
        go_wp2_with (first | (go_at_call 102; with_reducible refine (is_minus0 s g i i HS.out HW0.out _ _ ?lx A1.out).mono ?_; (case lx => exact (by repeat (first | (with_reducible first | exact HX.out | apply Lx.drewN | apply Lx.drew)))); rintro e wi ⟨rfl, ⟨ni, rfl⟩⟩) | (go_at_call 102; with_reducible refine (is_minus1 s g i (i + 1) HS.out HW1.out _ _ ?lx A2.out).mono ?_; (case lx => exact (by repeat (first | (with_reducible first | exact HX.out | apply Lx.drewN | apply Lx.drew)))); rintro e wi ⟨rfl, ⟨ni, rfl⟩⟩) | (go_at_call 102; with_reducible refine (is_letter1 s g i (i + 1) HS.out HW1.out _ _ ?lx A3.out).mono ?_; (case lx => exact (by repeat (first | (with_reducible first | exact HX.out | apply Lx.drewN | apply Lx.drew)))); rintro e wi ⟨rfl, ⟨ni, rfl⟩⟩))
        go_ret
        exact ⟨rfl, (by repeat (first | (with_reducible first | exact HB.out | apply below_drewN0 | apply below_drew1)))⟩
    · rw [if_pos rfl] at hf
      obtain rfl := Option.some.inj hf
      clear hf
      go_enter Tryz.func104, Tryz.ntmps104
      go_wp2_with (first | (go_at_call 102; with_reducible refine (is_minus0 s g i i HS.out HW0.out _ _ ?lx A1.out).mono ?_; (case lx => exact (by repeat (first | (with_reducible first | exact HX.out | apply Lx.drewN | apply Lx.drew)))); rintro e wi ⟨rfl, ⟨ni, rfl⟩⟩) | (go_at_call 102; with_reducible refine (is_minus1 s g i (i + 1) HS.out HW1.out _ _ ?lx A2.out).mono ?_; (case lx => exact (by repeat (first | (with_reducible first | exact HX.out | apply Lx.drewN | apply Lx.drew)))); rintro e wi ⟨rfl, ⟨ni, rfl⟩⟩))
      go_ret
      exact ⟨rfl, (by repeat (first | (with_reducible first | exact HB.out | apply below_drewN0 | apply below_drew1)))⟩
end Go.Proofs.YtofdhdafabmhmaaGreatDoor.Giv
end
section
namespace Go.Proofs.YtofdhdafabmhmaaGreatDoor.Giv
open Go.RowKit Go.Proofs.YtofdhdafabmhmaaGreatDoorW.PrintWords Go.Proofs.YtofdhdafabmhmaaGreatDoorW.PrintLast Go.Proofs.YtofdhdafabmhmaaGreatDoorW.PrintMore Go.Proofs.YtofdhdafabmhmaaGreatDoor.PLt
open Go.Proofs.YtofdhdafabmhmaaGreatDoor.Opn Go.BigFrame
set_option linter.unusedVariables false
set_option linter.unusedSimpArgs false
/-- All is kept but the lexer's block. -/
structure Lk (g : Nat) (w w' : World) : Prop where
  os : w'.os = w.os
  tape : w'.tape = w.tape
  output : w'.output = w.output
  size : w.heap.size ≤ w'.heap.size
  heap : ∀ k, k < w.heap.size → k ≠ g → w'.heap[k]? = w.heap[k]?
theorem Lx.setv {W : World} {g : Nat} {s : ByteArray} {i : Nat} (h : Lx W g s i) {v : Int} {j : Nat} (hv : v = (j : Int)) : Lx (W.setCell ⟨g, 1, none⟩ (.int .i64 v)) g s j := by
  subst hv
  exact h.set j
theorem Lk.refl (g : Nat) (w : World) : Lk g w w := ⟨rfl, rfl, rfl, Nat.le_refl _, fun _ _ _ => rfl⟩
theorem Lk.trans {g : Nat} {w w1 w2 : World} (h : Lk g w w1) (k : Lk g w1 w2) : Lk g w w2 :=
  ⟨k.os.trans h.os, k.tape.trans h.tape, k.output.trans h.output, Nat.le_trans h.size k.size, fun i hi hg => (k.heap i (Nat.lt_of_lt_of_le hi h.size) hg).trans (h.heap i hi hg)⟩
theorem Lk.of_below {g : Nat} {w w' : World} (h : Below w.heap.size w w') : Lk g w w' := ⟨h.os, h.tape, h.output, h.size, fun k hk _ => h.block k hk⟩
theorem Lk.call {g : Nat} {w w1 w2 : World} (h : Lk g w w1) (k : Below w1.heap.size w1 w2) : Lk g w w2 := h.trans (Lk.of_below k)
theorem Lk.drewN {g : Nat} {w w1 : World} (h : Lk g w w1) (n : Nat) : Lk g w (w1.drewN n) := h.trans ⟨rfl, rfl, rfl, Nat.le_refl _, fun _ _ _ => rfl⟩
theorem Lk.drew {g : Nat} {w w1 : World} (h : Lk g w w1) : Lk g w w1.drew := h.trans ⟨rfl, rfl, rfl, Nat.le_refl _, fun _ _ _ => rfl⟩
theorem Lk.set {g : Nat} {w w1 : World} (h : Lk g w w1) (o : Nat) (v : Value) : Lk g w (w1.setCell ⟨g, o, none⟩ v) :=
  h.trans ⟨rfl, rfl, rfl, by simp [World.setCell], fun k hk hg => Below.heap_setCell w1 _ v k hg⟩
theorem Lk.below {g B : Nat} {a w w' : World} (hb : Below B a w) (h : Lk g w w') (hg : B ≤ g) (hB : B ≤ w.heap.size) : Below B a w' :=
  hb.trans ⟨h.os, h.tape, h.output, h.size, fun k hk => h.heap k (Nat.lt_of_lt_of_le hk hB) (by omega)⟩
theorem Lk.at {g k : Nat} {w w' : World} {o : Obj} (h : Lk g w w') (hk : w.heap[k]? = some o) (hg : k ≠ g) : w'.heap[k]? = some o := (h.heap k (Array.getElem?_eq_some_iff.1 hk).1 hg).trans hk
/-- Where the blanks end (a comment: none). -/
def skipF : Nat → ByteArray → Nat → Option Nat
  | 0, _, _ => none
  | k + 1, s, i => if i < s.size then ((token_blank.f (bt s (i : Nat))).bind fun b => if b = true then skipF k s (i + 1) else ((strings_HasPrefix.f (s.extract i s.size) (⟨#[47, 42]⟩ : ByteArray)).bind fun p => if p = true then none else some i)) else some i
theorem skipF.mono : ∀ k s i, LeO (skipF k s i) (skipF (k + 1) s i)
  | 0, s, i => LeO.none _
  | k + 1, s, i => by
    unfold skipF
    repeat' first
      | exact skipF.mono k _ _
      | (with_reducible exact LeO.refl _)
      | (with_reducible exact LeO.none _)
      | (with_reducible refine LeO.ite ?_ ?_)
      | (with_reducible refine LeO.bind ?_ (fun _ => ?_))
set_option maxHeartbeats 8000000 in
set_option maxRecDepth 100000 in
theorem skip_calls (k : Nat) (s : ByteArray) (g i r : Nat) (hs : s.size ≤ 140737488351232) (hi : i ≤ s.size) (w : World) (h : Lx w g s i) (hf : skipF k s i = some r) :
    Calls Tryz.prog 84 #[.pointer (some ⟨g, 0, none⟩)] w fun e w' => e = .returned (.tuple #[]) ∧ Lx w' g s r ∧ Lk g w w' := by
  have hu := Tryz.underlying103
  have hut := Tryz.underlying9
  have HS := Aside0.mk hs
  have HF := Aside0.mk hf
  have H1 := Aside0.mk h
  have HI := Aside0.mk hi
  clear hf h hs hi
  go_enter Tryz.func84, Tryz.ntmps84
  go_wp2
  go_loopg [] k (fun kq wr => ∃ i : Nat, Aside0 (i ≤ s.size) ∧ Aside0 (skipF kq s i = some r) ∧ Aside0 (Lx wr g s i) ∧ Aside0 (Lk g w wr))
  case atStart => exact ⟨i, HI, HF, H1, ⟨Lk.refl g w⟩⟩
  case round =>
    clear HF H1 HI
    obtain ⟨i, HI, HF, HX, HK⟩ := hrel
    cases gk with
    | zero => exact absurd HF.out (by simp [skipF])
    | succ k2 =>
      have hf := HF.out
      have hi := HI.out
      have hs := HS.out
      have hc0 := HX.out.s
      have hc1 := HX.out.i
      have hz1 := blk_frozen HX.out 1
      clear HF
      unfold skipF at hf
      by_cases hlt : i < s.size
      · rw [if_pos hlt] at hf
        obtain ⟨b, hb, hf⟩ := Option.bind_eq_some_iff.mp hf
        have A1 := Aside0.mk hb
        have HLT := Aside0.mk hlt
        have hw1 : IntKind.i64.wrap ((i : Int) + 1) = ((i + 1 : Nat) : Int) := wrapE i 1 (by omega)
        have hw2 : wrap64 ((i : Int) + 1) = ((i + 1 : Nat) : Int) := by rw [← i64_w]; exact hw1
        have q0 : (0 ≤ (i : Int)) = True := eq_true (by omega)
        have q1 : ((i : Int) < (s.size : Int)) = True := eq_true (by omega)
        have q2 : decide ((i : Int) < (s.size : Int)) = true := decide_eq_true (by omega)
        have q3 : decide (i < s.size) = true := decide_eq_true hlt
        have q4 : (i < s.size) = True := eq_true hlt
        have hx : ∀ h : i < s.size, ((s[i].toNat : Nat) : Int) = bt s (i : Nat) := fun h => bt_at s (i : Int) (by simpa using h)
        clear hb
        cases b
        · rw [if_neg (by decide)] at hf
          obtain ⟨p, hp, hf⟩ := Option.bind_eq_some_iff.mp hf
          have A2 := Aside0.mk hp
          clear hp
          cases p
          · rw [if_neg (by decide)] at hf
            obtain rfl := Option.some.inj hf
            have hcut : ∀ W, (Instr.slice 9 (.string s) (some (.int .i64 (i : Int))) none none).run Tryz.prog W = .ok (.string (s.extract i s.size)) W := fun W => by
              have q5 : ((i : Int) ≤ (s.size : Int)) = True := eq_true (by omega)
              simp [go_sem, hut, q0, q5]
            clear hf hi hs hlt
            go_wp2
            refine wp_region_quiet_lit (by kernel_rfl) (by kernel_rfl) ?_
            repeat (go_big_quiet_step (fail))
            refine wpQuiet_nil ?_
            intro _ hw'
            obtain ⟨nq, hw''⟩ := hw'
            subst hw''
            go_wp2
            refine wp_region_quiet_lit (by kernel_rfl) (by kernel_rfl) ?_
            repeat (go_big_quiet_step (fail))
            refine qcall (some 23) rfl Tryz.func98 (by kernel_rfl) rfl #[.int .u8 (bt s (i : Nat))] (.bool false) (by rfl) rfl goa_ (fun w1 hw1 => ?_) ?_
            · obtain ⟨n1, rfl⟩ := hw1
              refine (token_blank.calls _ _ _ A1.out).mono ?_
              rintro e w2 ⟨rfl, ⟨m1, rfl⟩⟩
              exact ⟨rfl, ⟨n1 + m1, by simp [World.drewN, Nat.add_assoc]⟩⟩
            simp only [Act.put, List.setIfInBounds_toArray, List.set_cons_zero, List.set_cons_succ]
            repeat (go_big_quiet_step (fail))
            refine wpQuiet_nil ?_
            intro _ hw'
            obtain ⟨nq, hw''⟩ := hw'
            subst hw''
            go_wp2
            refine wp_region_quiet_lit (by kernel_rfl) (by kernel_rfl) ?_
            repeat (go_big_quiet_step (fail))
            refine qcall (some 41) rfl Tryz.func99 (by kernel_rfl) rfl #[.string (s.extract i s.size), .string (⟨#[47, 42]⟩ : ByteArray)] (.bool false) (by rfl) rfl goa_ (fun w1 hw1 => ?_) ?_
            · obtain ⟨n1, rfl⟩ := hw1
              refine (strings_HasPrefix.calls _ _ _ _ A2.out).mono ?_
              rintro e w2 ⟨rfl, ⟨m1, rfl⟩⟩
              exact ⟨rfl, ⟨n1 + m1, by simp [World.drewN, Nat.add_assoc]⟩⟩
            simp only [Act.put, List.setIfInBounds_toArray, List.set_cons_zero, List.set_cons_succ]
            repeat (go_big_quiet_step (fail))
            refine wpQuiet_nil ?_
            intro _ hw'
            obtain ⟨nq, hw''⟩ := hw'
            subst hw''
            go_wp2
            refine bodyPost_ret (results_none rfl _ _ _) rfl ?_
            exact ⟨rfl, (by repeat (first | (with_reducible first | exact HX.out | apply Lx.drewN | apply Lx.drew | apply Lx.set))), (by repeat (first | (with_reducible first | exact HK.out | apply Lk.drewN | apply Lk.drew | apply Lk.set)))⟩
          · rw [if_pos rfl] at hf
            cases hf
        · rw [if_pos rfl] at hf
          have A2 := Aside0.mk hf
          clear hf hi hs hlt
          go_wp2
          refine wp_region_quiet_lit (by kernel_rfl) (by kernel_rfl) ?_
          repeat (go_big_quiet_step (fail))
          refine wpQuiet_nil ?_
          intro _ hw'
          obtain ⟨nq, hw''⟩ := hw'
          subst hw''
          go_wp2
          refine wp_region_quiet_lit (by kernel_rfl) (by kernel_rfl) ?_
          repeat (go_big_quiet_step (fail))
          refine qcall (some 23) rfl Tryz.func98 (by kernel_rfl) rfl #[.int .u8 (bt s (i : Nat))] (.bool true) (by rfl) rfl goa_ (fun w1 hw1 => ?_) ?_
          · obtain ⟨n1, rfl⟩ := hw1
            refine (token_blank.calls _ _ _ A1.out).mono ?_
            rintro e w2 ⟨rfl, ⟨m1, rfl⟩⟩
            exact ⟨rfl, ⟨n1 + m1, by simp [World.drewN, Nat.add_assoc]⟩⟩
          simp only [Act.put, List.setIfInBounds_toArray, List.set_cons_zero, List.set_cons_succ]
          repeat (go_big_quiet_step (fail))
          refine wpQuiet_nil ?_
          intro _ hw'
          obtain ⟨nq, hw''⟩ := hw'
          subst hw''
          go_wp2
          go_roundg k2
          case measure => omega
          case rel => exact ⟨i + 1, ⟨HLT.out⟩, A2, ⟨Lx.setv (by repeat (first | (with_reducible first | exact HX.out | apply Lx.drewN | apply Lx.drew | apply Lx.set))) (by omega)⟩, ⟨(by repeat (first | (with_reducible first | exact HK.out | apply Lk.drewN | apply Lk.drew | apply Lk.set)))⟩⟩
      · rw [if_neg hlt] at hf
        obtain rfl := Option.some.inj hf
        have q1 : ((i : Int) < (s.size : Int)) = False := eq_false (by omega)
        have q2 : decide ((i : Int) < (s.size : Int)) = false := decide_eq_false (by omega)
        have q3 : decide (i < s.size) = false := decide_eq_false hlt
        have q4 : (i < s.size) = False := eq_false hlt
        clear hf hi hs hlt
        go_wp2
        refine wp_region_quiet_lit (by kernel_rfl) (by kernel_rfl) ?_
        repeat (go_big_quiet_step (fail))
        refine wpQuiet_nil ?_
        intro _ hw'
        obtain ⟨nq, hw''⟩ := hw'
        subst hw''
        go_wp2
        go_end0
        exact ⟨rfl, (by repeat (first | (with_reducible first | exact HX.out | apply Lx.drewN | apply Lx.drew | apply Lx.set))), (by repeat (first | (with_reducible first | exact HK.out | apply Lk.drewN | apply Lk.drew | apply Lk.set)))⟩
end Go.Proofs.YtofdhdafabmhmaaGreatDoor.Giv
end
section
/- The contracts of (*strings.Builder).copyCheck and WriteString, by hand, of a builder that the call itself has made. Condition: what is held and what is written is at most 2^47 bytes. -/
set_option linter.unusedVariables false
set_option linter.unusedSimpArgs false
namespace Go.Proofs.YtofdhdafabmhmaaGreatDoor.Giv
open Go.RowKit

theorem builder_size : (Tryz.prog.info? 81).map (·.size) = some 2 := by kernel_rfl
theorem builder_lies : liesAt Tryz.prog Tryz.prog.depth 81 (2 / Tryz.prog.cellsOf 81) 0 81 1 = true := by kernel_rfl
theorem byte_info : (Tryz.prog.info? 5).map (fun i => (i.zero, i.size, i.bytes)) = some (some (.int .u8 0), 1, 1) := by kernel_rfl

set_option maxHeartbeats 1000000 in
set_option maxRecDepth 100000 in
theorem copyCheck_used (b : Nat) (w : World) (h0 : w.cell? ⟨b, 0, none⟩ = some (.pointer (some ⟨b, 0, none⟩))) :
    Calls Tryz.prog 89 #[.pointer (some ⟨b, 0, none⟩)] w fun e w' => e = .returned (.tuple #[]) ∧ w' = w := by
  obtain ⟨j, hj, _⟩ := Option.map_eq_some_iff.1 builder_size
  have ht := Tryz.underlying79
  have hs := Lib.run_neq_ptr_same w (⟨b, 0, none⟩ : Addr) ht hj
  go_enter Tryz.func89, Tryz.ntmps89
  go_wp2
  go_end0
  exact ⟨rfl, rfl⟩

set_option maxHeartbeats 1000000 in
set_option maxRecDepth 100000 in
theorem copyCheck_fresh (b : Nat) (w : World) (h0 : w.cell? ⟨b, 0, none⟩ = some (.pointer none)) (hsh : w.shape? b = some (81, 2)) (hfz : w.frozen? ⟨b, 0, none⟩ = false) :
    Calls Tryz.prog 89 #[.pointer (some ⟨b, 0, none⟩)] w fun e w' => e = .returned (.tuple #[]) ∧ w' = w.setCell ⟨b, 0, none⟩ (.pointer (some ⟨b, 0, none⟩)) := by
  obtain ⟨j, hj, hjs⟩ := Option.map_eq_some_iff.1 builder_size
  have ht := Tryz.underlying79
  have hu := Tryz.underlying117
  go_enter Tryz.func89, Tryz.ntmps89
  go_wp2
  rw [Lib.run_to_unsafe w ⟨b, 0, none⟩ ht hu hj (by rw [hjs]; decide) hsh (Nat.zero_lt_succ 1)]
  simp only [Result.andThen]
  rw [Oper.upon_value]
  go_wp2
  rw [run_callFunc_extern Tryz.func109 (by kernel_rfl) (by kernel_rfl) (by kernel_rfl) (e := Extern.AbiNoEscape.same) (by kernel_rfl)]
  rw [Lib.run_noEscape]
  simp only [Result.andThen]
  rw [Oper.upon_value]
  go_wp2
  rw [Lib.run_from_unsafe w ⟨b, 0, none⟩ hu ht hj hsh builder_lies]
  simp only [Result.andThen]
  rw [Oper.upon_value]
  go_wp2
  go_end0
  exact ⟨rfl, rfl⟩

theorem copyCheck_calls (B b : Nat) (bs : List Value) (w : World) (h : Lib.IsBuilder 81 5 B b bs w) :
    Calls Tryz.prog 89 #[.pointer (some ⟨b, 0, none⟩)] w fun e w' => e = .returned (.tuple #[]) ∧ (Lib.BuilderAt 81 5 B b (.pointer (some ⟨b, 0, none⟩)) bs w' ∧ Below B w w') := by
  rcases h with h | h
  · refine (copyCheck_fresh b w h.cell0 h.shape h.frozen0).mono ?_
    rintro e w' ⟨rfl, rfl⟩
    exact ⟨rfl, h.used _, (Below.refl B w).setCell (p := ⟨b, 0, none⟩) h.1 _⟩
  · refine (copyCheck_used b w h.cell0).mono ?_
    rintro e w' ⟨rfl, rfl⟩
    exact ⟨rfl, h, Below.refl B _⟩

set_option maxHeartbeats 2000000 in
set_option maxRecDepth 100000 in
theorem writeString_calls (B b : Nat) (bs : List Value) (s : ByteArray) (w : World) (h : Lib.IsBuilder 81 5 B b bs w) (hlen : bs.length + s.size ≤ 140737488355328) (hBw : B ≤ w.heap.size) :
    Calls Tryz.prog 59 #[.pointer (some ⟨b, 0, none⟩), .string s] w fun e w' => e = .returned (.tuple #[.int .i64 s.size, .nilIface]) ∧ (Lib.BuilderAt 81 5 B b (.pointer (some ⟨b, 0, none⟩)) (bs ++ Lib.strCells s) w' ∧ Below B w w') := by
  obtain ⟨i0, hi, hz0, hz1, hz2⟩ := info_parts byte_info
  go_enter Tryz.func59, Tryz.ntmps59
  go_wp2_with (go_at_call 89; refine (copyCheck_calls B b bs _ h).mono ?_)
  rintro e w1 ⟨rfl, h1, hb1⟩
  have hlt := h1.lt
  obtain ⟨hB, v, hbk, hown, hne⟩ := h1
  have c0 : w1.cell? ⟨b, 0, none⟩ = some (.pointer (some ⟨b, 0, none⟩)) := by rw [Lib.cell_of_heap hbk]; rfl
  have c1 : w1.cell? ⟨b, 1, none⟩ = some v := by rw [Lib.cell_of_heap hbk]; rfl
  go_wp2_with (at_builtin; refine Lib.wpList_append_own_string _ rfl _ _ 67 9 rfl B 5 i0 Tryz.underlying67 Tryz.underlying9 hi hz0 hz1 hz2 _ _ _ rfl hown s rfl ?c3 ?c4 ?c5 ?_)
  case c3 => unfold maxLen; omega
  case c4 => omega
  case c5 => have := hb1.size; omega
  intro v' w2 hown' hgrow _
  have hb2 : w2.heap[b]? = some (.cells #[.pointer (some ⟨b, 0, none⟩), v] 81 (0, 0)) := (hgrow.block b hlt (fun e => hne e.symm)).trans hbk
  have d0 : w2.cell? ⟨b, 0, none⟩ = some (.pointer (some ⟨b, 0, none⟩)) := by rw [Lib.cell_of_heap hb2]; rfl
  have d1 : w2.cell? ⟨b, 1, none⟩ = some v := by rw [Lib.cell_of_heap hb2]; rfl
  have f1 : w2.frozen? ⟨b, 1, none⟩ = false := Lib.frozen_of_heap hb2 1
  obtain ⟨ao, n', cap, rfl⟩ : ∃ ao n' cap, v' = .slice ao n' cap := by
    rcases hown'.2 with ⟨hv, _⟩ | ⟨g, cap, cur, hv, _⟩
    · exact ⟨_, _, _, hv⟩
    · exact ⟨_, _, _, hv⟩
  go_wp2
  go_ret2
  refine ⟨rfl, ?_, ?_⟩
  · exact Lib.BuilderAt.put (T := 81) (e := 5) hB hb2 (bs' := bs ++ Lib.strCells s) (by simpa [Lib.strCells_length] using hown') (by decide)
  · exact (hb1.grown hgrow (by have := hb1.size; omega) (fun k hk => (hown.lt k hk).1)).setCell (p := ⟨b, 1, none⟩) hB _
end Go.Proofs.YtofdhdafabmhmaaGreatDoor.Giv
end
section
namespace Go.Proofs.YtofdhdafabmhmaaGreatDoor.Giv
open Go.RowKit Go.Proofs.YtofdhdafabmhmaaGreatDoorW.PrintWords Go.Proofs.YtofdhdafabmhmaaGreatDoorW.PrintLast Go.Proofs.YtofdhdafabmhmaaGreatDoorW.PrintMore Go.Proofs.YtofdhdafabmhmaaGreatDoor.PLt
open Go.Proofs.YtofdhdafabmhmaaGreatDoor.Opn Go.BigFrame
set_option linter.unusedVariables false
set_option linter.unusedSimpArgs false
theorem Lx.fz {W : World} {g : Nat} {s : ByteArray} {i : Nat} (h : Lx W g s i) : W.frozen? ⟨g, 1, none⟩ = false := blk_frozen h 1
def byteAt (s : ByteArray) (i : Nat) : UInt8 := UInt8.ofNat (bt s (i : Nat)).toNat
theorem byteAt_val (s : ByteArray) (i : Nat) : ((byteAt s i).toNat : Int) = bt s (i : Nat) := by
  have := bt_range s (i : Nat)
  unfold byteAt
  rw [UInt8.toNat_ofNat']
  omega
theorem isB_keep {T e : TypeId} {B b : Nat} {l : List Value} {w w' : World} (h : Lib.IsBuilder T e B b l w) (hk : ∀ k, B ≤ k → k < w.heap.size → w'.heap[k]? = w.heap[k]?) : Lib.IsBuilder T e B b l w' := by
  have key : ∀ p, Lib.BuilderAt T e B b p l w → Lib.BuilderAt T e B b p l w' := by
    intro p hp
    have hlt := hp.lt
    obtain ⟨hB, v, hbk, hown, hne⟩ := hp
    refine ⟨hB, v, (hk b hB hlt).trans hbk, ⟨hown.1, ?_⟩, hne⟩
    rcases hown.2 with h1 | ⟨g, cap, cur, hv, hg, hc, h4⟩
    · exact Or.inl h1
    · exact Or.inr ⟨g, cap, cur, hv, hg, (hk g hg (Array.getElem?_eq_some_iff.1 hc).1).trans hc, h4⟩
  rcases h with h | h
  · exact Or.inl (key _ h)
  · exact Or.inr (key _ h)
theorem isB_drewN {T e : TypeId} {B b : Nat} {l : List Value} {w : World} (h : Lib.IsBuilder T e B b l w) (n : Nat) : Lib.IsBuilder T e B b l (w.drewN n) := h
theorem isB_drew {T e : TypeId} {B b : Nat} {l : List Value} {w : World} (h : Lib.IsBuilder T e B b l w) : Lib.IsBuilder T e B b l w.drew := h
theorem isB_call {T e : TypeId} {B b : Nat} {l : List Value} {w w' : World} (h : Lib.IsBuilder T e B b l w) (hb : Below w.heap.size w w') : Lib.IsBuilder T e B b l w' := isB_keep h (fun k _ hk => hb.block k hk)
theorem isB_set {T e : TypeId} {B b g o : Nat} {v : Value} {l : List Value} {w : World} (h : Lib.IsBuilder T e B b l w) (hg : g < B) : Lib.IsBuilder T e B b l (w.setCell ⟨g, o, none⟩ v) :=
  isB_keep h (fun k hk _ => Below.heap_setCell w _ v k (show k ≠ g by omega))
theorem Lx.lower {W W' : World} {g B : Nat} {s : ByteArray} {i : Nat} (h : Lx W g s i) (hb : Below B W W') (hg : g < B) : Lx W' g s i := (hb.block g hg).trans h
theorem Lk.lower {g B : Nat} {w w1 w2 : World} (h : Lk g w w1) (k : Below B w1 w2) (hB : w.heap.size ≤ B) : Lk g w w2 :=
  ⟨k.os.trans h.os, k.tape.trans h.tape, k.output.trans h.output, Nat.le_trans h.size k.size, fun i hi hg => (k.block i (by omega)).trans (h.heap i hi hg)⟩
theorem built1 {T e : TypeId} {B b : Nat} {l : List UInt8} {c : UInt8} {v : Int} {w : World} (hv : v = (c.toNat : Int)) (h : Lib.BuilderAt T e B b (.pointer (some ⟨b, 0, none⟩)) (Lib.byteCells l ++ [.int .u8 v]) w) : Lib.IsBuilder T e B b (Lib.byteCells (l ++ [c])) w := Or.inr (by
  subst hv
  unfold Lib.byteCells at *
  rw [List.map_append]
  exact h)
theorem builtS {T e : TypeId} {B b : Nat} {l : List UInt8} {r : ByteArray} {w : World} (h : Lib.BuilderAt T e B b (.pointer (some ⟨b, 0, none⟩)) (Lib.byteCells l ++ Lib.strCells r) w) : Lib.IsBuilder T e B b (Lib.byteCells (l ++ r.data.toList)) w := Or.inr (by
  unfold Lib.byteCells Lib.strCells at *
  rw [List.map_append]
  exact h)
set_option maxHeartbeats 2000000 in
set_option maxRecDepth 100000 in
theorem writeByte_calls (B b : Nat) (bs : List Value) (c : Int) (w : World) (h : Lib.IsBuilder 81 5 B b bs w) (hlen : bs.length + 1 ≤ 140737488355328) (hBw : B ≤ w.heap.size) :
    Calls Tryz.prog 128 #[.pointer (some ⟨b, 0, none⟩), .int .u8 c] w fun e w' => e = .returned .nilIface ∧ (Lib.BuilderAt 81 5 B b (.pointer (some ⟨b, 0, none⟩)) (bs ++ [.int .u8 c]) w' ∧ Below B w w') := by
  obtain ⟨i0, hi, hz0, hz1, hz2⟩ := info_parts byte_info
  go_enter Tryz.func128, Tryz.ntmps128
  go_wp2_with (go_at_call 89; refine (copyCheck_calls B b bs _ h).mono ?_)
  rintro e w1 ⟨rfl, h1, hb1⟩
  have hlt := h1.lt
  obtain ⟨hB, v, hbk, hown, hne⟩ := h1
  have c0 : w1.cell? ⟨b, 0, none⟩ = some (.pointer (some ⟨b, 0, none⟩)) := by rw [Lib.cell_of_heap hbk]; rfl
  have c1 : w1.cell? ⟨b, 1, none⟩ = some v := by rw [Lib.cell_of_heap hbk]; rfl
  go_wp2_with (at_builtin; refine wpList_append_own _ rfl _ _ 67 rfl B 5 i0 (.int .u8 0) 1 1 Tryz.underlying67 hi hz0 hz1 hz2 rfl (by decide) _ _ _ rfl (hown.alloc _) ⟨w1.heap.size, 0, none⟩ 1 1 [.int .u8 c] rfl rfl ?c1 ?c2 ?c3 ?c4 ?c5 ?_)
  case c1 =>
    intro j u hj
    match j, hj with
    | 0, hj => simp at hj; subst hj; simp [Addr.add]
  case c2 => intro u hu; simp at hu; subst hu; rfl
  case c3 => unfold maxLen; omega
  case c4 => omega
  case c5 => have := hb1.size; simp; omega
  intro v' w2 hown' hgrow _
  have hb2 : w2.heap[b]? = some (.cells #[.pointer (some ⟨b, 0, none⟩), v] 81 (0, 0)) := by
    rw [hgrow.block b (by simp; omega) (fun e => hne e.symm), Lib.alloc_old w1 _ b hlt]
    exact hbk
  have d0 : w2.cell? ⟨b, 0, none⟩ = some (.pointer (some ⟨b, 0, none⟩)) := by rw [Lib.cell_of_heap hb2]; rfl
  have d1 : w2.cell? ⟨b, 1, none⟩ = some v := by rw [Lib.cell_of_heap hb2]; rfl
  have f1 : w2.frozen? ⟨b, 1, none⟩ = false := Lib.frozen_of_heap hb2 1
  obtain ⟨g, cap, rfl⟩ : ∃ g cap, v' = .slice (some ⟨g, 0, none⟩) (bs.length + 1) cap := by
    rcases hown'.2 with ⟨_, h0⟩ | ⟨g, cap, cur, hv, _⟩
    · omega
    · exact ⟨g, cap, hv⟩
  go_wp2
  go_ret
  refine ⟨rfl, ?_, ?_⟩
  · exact Lib.BuilderAt.put (T := 81) (e := 5) hB hb2 (bs' := bs ++ [.int .u8 c]) (by simpa using hown') (by decide)
  · exact ((hb1.alloc (by have := hb1.size; omega) _).grown hgrow (by have := hb1.size; simp; omega) (fun k hk => (hown.lt k hk).1)).setCell (p := ⟨b, 1, none⟩) hB _
end Go.Proofs.YtofdhdafabmhmaaGreatDoor.Giv
end
section
namespace Go.Proofs.YtofdhdafabmhmaaGreatDoor.Giv
open Go.RowKit Go.Proofs.YtofdhdafabmhmaaGreatDoorW.PrintWords Go.Proofs.YtofdhdafabmhmaaGreatDoorW.PrintLast Go.Proofs.YtofdhdafabmhmaaGreatDoorW.PrintMore Go.Proofs.YtofdhdafabmhmaaGreatDoor.PLt
open Go.Proofs.YtofdhdafabmhmaaGreatDoor.Opn Go.BigFrame
set_option linter.unusedVariables false
set_option linter.unusedSimpArgs false
theorem lt0_ {T e : TypeId} {B b : Nat} {l : List Value} {w : World} (h : Lib.IsBuilder T e B b l w) : b < w.heap.size := by
  rcases h with h | h
  · exact h.lt
  · exact h.lt
theorem _root_.Go.Lib.IsBuilder.lt0 {T e : TypeId} {B b : Nat} {l : List Value} {w : World} (h : Lib.IsBuilder T e B b l w) : b < w.heap.size := lt0_ h
/-- What an identifier means, and where it ends. -/
def identF : Nat → ByteArray → Nat → List UInt8 → Option (List UInt8 × Nat)
  | 0, _, _, _ => none
  | k + 1, s, i, acc => (isF token_lexer_ident_1.f s i).bind fun a => if a = true then (if i < s.size then (if acc.length ≤ 10000000 then identF k s (i + 1) (acc ++ [byteAt s i]) else none) else none)
    else ((escF k s i).bind fun e => if e = true then ((token_Hex.f k s (i : Int)).bind fun t => if 0 ≤ t.2 then (if i + t.2.toNat ≤ s.size then (if acc.length + t.1.size ≤ 10000000 then identF k s (i + t.2.toNat) (acc ++ t.1.data.toList) else none) else none) else none) else some (acc, i))
theorem identF.mono : ∀ k s i acc, LeO (identF k s i acc) (identF (k + 1) s i acc)
  | 0, s, i, acc => LeO.none _
  | k + 1, s, i, acc => by
    rw [identF, identF]
    repeat' first
      | exact identF.mono k _ _ _
      | (with_reducible exact escF.mono _ _ _)
      | (with_reducible exact token_Hex.mono _ _ _)
      | (with_reducible exact LeO.refl _)
      | (with_reducible exact LeO.none _)
      | (with_reducible refine LeO.ite ?_ ?_)
      | (with_reducible refine LeO.bind ?_ (fun _ => ?_))
def lexer_ident.T5 : Bool × List (List Nat × List Nat) := (true, [([], []), ([0], [0]), ([1], [1]), ([2], [2]), ([], []), ([4], [4]), ([5], [5]), ([6], [6]), ([3, 7], [3, 7]), ([8], [8])])
def lexer_ident.B5 : List Nat := [0, 1, 3, 7, 0, 16, 48, 112, 255, 511]
theorem lexer_ident.tab5 : rtab .any (opsOf Tryz.f105 5) = lexer_ident.T5 := by kernel_rfl
theorem lexer_ident.bits5 : waitsOk lexer_ident.T5.2 lexer_ident.B5 = true := by kernel_rfl
def lexer_ident.T8 : Bool × List (List Nat × List Nat) := (true, [([], []), ([0], [0]), ([1], [1]), ([2], [2]), ([], []), ([4], [4]), ([5], [5]), ([6], [6]), ([3, 7], [3, 7]), ([8], [8]), ([9], [9]), ([9], [9]), ([10, 8, 0, 1, 2, 3, 4, 5, 6, 7, 8, 9, 10], [10]), ([11, 12, 0, 1, 2, 3, 4, 5, 6, 7, 8, 9, 10, 11, 12], [11])])
def lexer_ident.B8 : List Nat := [0, 1, 3, 7, 0, 16, 48, 112, 255, 511, 1023, 1023, 2047, 8191]
theorem lexer_ident.tab8 : rtab .any (opsOf Tryz.f105 8) = lexer_ident.T8 := by kernel_rfl
theorem lexer_ident.bits8 : waitsOk lexer_ident.T8.2 lexer_ident.B8 = true := by kernel_rfl
set_option maxHeartbeats 8000000 in
set_option maxRecDepth 100000 in
theorem ident_calls (k : Nat) (s : ByteArray) (g i j : Nat) (l : List UInt8) (hs : s.size ≤ 140737488351232) (hi : i ≤ s.size) (w : World) (h : Lx w g s i) (hf : identF k s i [] = some (l, j)) :
    Calls Tryz.prog 105 #[.pointer (some ⟨g, 0, none⟩)] w fun e w' => e = .returned (.string ⟨l.toArray⟩) ∧ Lx w' g s j ∧ Lk g w w' := by
  have hu := Tryz.underlying103
  have HS := Aside0.mk hs
  have HF := Aside0.mk hf
  have H1 := Aside0.mk h
  have HI := Aside0.mk hi
  have hg := (Array.getElem?_eq_some_iff.1 h).1
  have HG := Aside0.mk hg
  have hfr := Lib.fresh_isBuilder 81 5 w
  have HFR := Aside0.mk hfr
  clear hf h hs hi hg hfr
  go_enter Tryz.func105, Tryz.ntmps105
  go_wp2
  go_loopg [] k (fun kq wr => ∃ (i : Nat) (acc : List UInt8), Aside0 (i ≤ s.size) ∧ Aside0 (identF kq s i acc = some (l, j)) ∧ Aside0 (Lx wr g s i) ∧ Aside0 (Lk g w wr) ∧ Aside0 (Lib.IsBuilder 81 5 w.heap.size w.heap.size (Lib.byteCells acc) wr))
  case atStart => exact ⟨i, [], HI, HF, ⟨Lx.below H1.out ((Below.refl _ _).alloc (Nat.le_refl _) _)⟩, ⟨Lk.of_below ((Below.refl _ _).alloc (Nat.le_refl _) _)⟩, HFR⟩
  case round =>
    clear HF H1 HI HFR
    obtain ⟨i, acc, HI, HF, HX, HK, HD⟩ := hrel
    cases gk with
    | zero => exact absurd HF.out (by simp [identF])
    | succ k2 =>
      have hf := HF.out
      have hi := HI.out
      have hs := HS.out
      have HJ := Aside0.mk (show i ≤ 140737488351300 by omega)
      have HW0 := Aside0.mk (show IntKind.i64.wrap (i : Int) = (i : Int) from wrapE i 0 (by omega))
      clear HF
      rw [identF] at hf
      obtain ⟨a, ha, hf⟩ := Option.bind_eq_some_iff.mp hf
      have A1 := Aside0.mk ha
      clear ha
      cases a
      · rw [if_neg (by decide)] at hf
        obtain ⟨e, he, hf⟩ := Option.bind_eq_some_iff.mp hf
        have A2 := Aside0.mk he
        clear he
        cases e
        · rw [if_neg (by decide)] at hf
          obtain ⟨rfl, rfl⟩ := Prod.mk.inj (Option.some.inj hf)
          clear hf hi hs
          go_wp2_with (first | (go_at_call 102; with_reducible refine (is_inner0 s g i i HS.out HW0.out _ _ ?lx A1.out).mono ?_; (case lx => exact (by repeat (first | (with_reducible first | exact HX.out | apply Lx.drewN | apply Lx.drew)))); rintro e wi ⟨rfl, ⟨ni, rfl⟩⟩) | (go_at_call 125; with_reducible refine (escape_0 k2 s g i i HS.out HJ.out HW0.out _ _ ?lx A2.out).mono ?_; (case lx => exact (by repeat (first | (with_reducible first | exact HX.out | apply Lx.drewN | apply Lx.drew)))); rintro e wi ⟨rfl, hb⟩; have HX2 := Aside0.mk (Lx.below (by repeat (first | (with_reducible first | exact HX.out | apply Lx.drewN | apply Lx.drew))) hb); have HK2 := Aside0.mk (Lk.call (by repeat (first | (with_reducible first | exact HK.out | apply Lk.drewN | apply Lk.drew | apply Lk.set))) hb); have HD2 := Aside0.mk (isB_call (by repeat (first | (with_reducible first | exact HD.out | apply isB_drewN | apply isB_drew))) hb); clear hb; clear HX HK HD; have HX := HX2; have HK := HK2; have HD := HD2; clear HX2 HK2 HD2; have hc0 := HX.out.s; have hc1 := HX.out.i; have hz1 := HX.out.fz) | (go_at_call 60; refine (Tryz.Builder_String_any w.heap.size w.heap.size acc _ (by repeat (first | (with_reducible first | exact HD.out | apply isB_drewN | apply isB_drew))) (Nat.le_of_lt HD.out.lt0)).mono ?_; rintro e w7 ⟨rfl, hb7⟩; have HX7 := Aside0.mk (Lx.lower (by repeat (first | (with_reducible first | exact HX.out | apply Lx.drewN | apply Lx.drew))) hb7 HG.out); have HK7 := Aside0.mk (Lk.lower (by repeat (first | (with_reducible first | exact HK.out | apply Lk.drewN | apply Lk.drew | apply Lk.set))) hb7 (Nat.le_refl _)); clear hb7))
          go_ret
          exact ⟨rfl, HX7.out, HK7.out⟩
        · rw [if_pos rfl] at hf
          obtain ⟨⟨x, n⟩, hx, hf⟩ := Option.bind_eq_some_iff.mp hf
          have A3 := Aside0.mk hx
          clear hx
          try dsimp only at hf
          by_cases h1 : 0 ≤ n
          · rw [if_pos h1] at hf
            by_cases h2 : i + n.toNat ≤ s.size
            · rw [if_pos h2] at hf
              by_cases h3 : acc.length + x.size ≤ 10000000
              · rw [if_pos h3] at hf
                have A4 := Aside0.mk hf
                have HI2 := Aside0.mk h2
                have HLEN := Aside0.mk (show (Lib.byteCells acc).length + x.size ≤ 140737488355328 by unfold Lib.byteCells; rw [List.length_map]; omega)
                have hwn : wrap64 ((i : Int) + n) = ((i + n.toNat : Nat) : Int) := by unfold wrap64; omega
                have HWN := Aside0.mk hwn
                clear hf h1 h2 h3 hwn hi hs
                go_wp2_with (first | (go_at_call 102; with_reducible refine (is_inner0 s g i i HS.out HW0.out _ _ ?lx A1.out).mono ?_; (case lx => exact (by repeat (first | (with_reducible first | exact HX.out | apply Lx.drewN | apply Lx.drew)))); rintro e wi ⟨rfl, ⟨ni, rfl⟩⟩) | (go_at_call 125; with_reducible refine (escape_0 k2 s g i i HS.out HJ.out HW0.out _ _ ?lx A2.out).mono ?_; (case lx => exact (by repeat (first | (with_reducible first | exact HX.out | apply Lx.drewN | apply Lx.drew)))); rintro e wi ⟨rfl, hb⟩; have HX2 := Aside0.mk (Lx.below (by repeat (first | (with_reducible first | exact HX.out | apply Lx.drewN | apply Lx.drew))) hb); have HK2 := Aside0.mk (Lk.call (by repeat (first | (with_reducible first | exact HK.out | apply Lk.drewN | apply Lk.drew | apply Lk.set))) hb); have HD2 := Aside0.mk (isB_call (by repeat (first | (with_reducible first | exact HD.out | apply isB_drewN | apply isB_drew))) hb); clear hb; clear HX HK HD; have HX := HX2; have HK := HK2; have HD := HD2; clear HX2 HK2 HD2; have hc0 := HX.out.s; have hc1 := HX.out.i; have hz1 := HX.out.fz))
                have HX4 : Aside0 (Lx (wi).drew g s i) := Aside0.mk (Lx.drew (by repeat (first | (with_reducible first | exact HX.out | apply Lx.drewN | apply Lx.drew))))
                have HK4 : Aside0 (Lk g w (wi).drew) := Aside0.mk (Lk.drew (by repeat (first | (with_reducible first | exact HK.out | apply Lk.drewN | apply Lk.drew | apply Lk.set))))
                have HD4 : Aside0 (Lib.IsBuilder 81 5 w.heap.size w.heap.size (Lib.byteCells acc) (wi).drew) := Aside0.mk (isB_drew (by repeat (first | (with_reducible first | exact HD.out | apply isB_drewN | apply isB_drew))))
                refine start_ (n := 14) (S := (fun w' => w'.cell? ⟨g, 0, none⟩ = some (.string s) ∧ w'.cell? ⟨g, 1, none⟩ = some (.int .i64 (i : Int)))) (ds := []) #[false, false, false, false, false, false, false, false, false, false, false, false, false, false] (by kernel_rfl) rfl rfl ⟨HX4.out.s, HX4.out.i⟩ (fun hHeld => ?_)
                refine with_tabW lexer_ident.tab8 lexer_ident.bits8 (fun HT_ HW_ => ?_)
                generalize (wi).drew = w4 at HX4 HK4 HD4 hHeld ⊢
                refine pure_ (i := 0) (N := (some 33)) (v := ?_) (a' := ?_) #[true, false, false, false, false, false, false, false, false, false, false, false, false, false] rfl rfl (any_of HT_.out (by kernel_rfl)) (fun _ _ _ h => h) (Or.inl ⟨by rfl, ?_⟩) ?_ ?_
                rotate_left
                ·intro w'
                 go_simp
                 with_reducible rfl
                rotate_left
                ·simp only [Act.put, List.setIfInBounds_toArray, List.set_cons_zero, List.set_cons_succ, i64_w, i32_w]
                 rfl
                refine pure_ (i := 1) (N := (some 34)) (v := ?_) (a' := ?_) #[true, true, false, false, false, false, false, false, false, false, false, false, false, false] rfl rfl (any_of HT_.out (by kernel_rfl)) (fun _ _ _ h => h) (Or.inl ⟨by rfl, ?_⟩) ?_ ?_
                rotate_left
                ·intro w'
                 go_simp
                 with_reducible rfl
                rotate_left
                ·simp only [Act.put, List.setIfInBounds_toArray, List.set_cons_zero, List.set_cons_succ, i64_w, i32_w]
                 rfl
                refine pure_ (i := 2) (N := (some 35)) (v := ?_) (a' := ?_) #[true, true, true, false, false, false, false, false, false, false, false, false, false, false] rfl rfl (any_of HT_.out (by kernel_rfl)) (fun _ _ _ h => h) (Or.inl ⟨by rfl, ?_⟩) ?_ ?_
                rotate_left
                ·intro w'
                 go_simp
                 with_reducible rfl
                rotate_left
                ·simp only [Act.put, List.setIfInBounds_toArray, List.set_cons_zero, List.set_cons_succ, i64_w, i32_w]
                 rfl
                refine take_ (i := 3) (N := (some 36)) (v := ?_) (a' := ?_) #[true, true, true, true, false, false, false, false, false, false, false, false, false, false] rfl rfl (take_ofW HT_.out HW_.out (by kernel_rfl)) (fun _ _ _ h => h) (Or.inl ⟨by rfl, ?_⟩) hHeld ?_ ?_
                rotate_left
                ·rintro w' ⟨s0, s1⟩
                 go_simp
                 with_reducible rfl
                rotate_left
                ·simp only [Act.put, List.setIfInBounds_toArray, List.set_cons_zero, List.set_cons_succ, i64_w, i32_w]
                 rfl
                refine pure_ (i := 4) (N := (some 37)) (v := ?_) (a' := ?_) #[true, true, true, true, true, false, false, false, false, false, false, false, false, false] rfl rfl (any_of HT_.out (by kernel_rfl)) (fun _ _ _ h => h) (Or.inl ⟨by rfl, ?_⟩) ?_ ?_
                rotate_left
                ·intro w'
                 go_simp
                 with_reducible rfl
                rotate_left
                ·simp only [Act.put, List.setIfInBounds_toArray, List.set_cons_zero, List.set_cons_succ, i64_w, i32_w]
                 rfl
                refine pure_ (i := 5) (N := (some 38)) (v := ?_) (a' := ?_) #[true, true, true, true, true, true, false, false, false, false, false, false, false, false] rfl rfl (any_of HT_.out (by kernel_rfl)) (fun _ _ _ h => h) (Or.inl ⟨by rfl, ?_⟩) ?_ ?_
                rotate_left
                ·intro w'
                 go_simp
                 with_reducible rfl
                rotate_left
                ·simp only [Act.put, List.setIfInBounds_toArray, List.set_cons_zero, List.set_cons_succ, i64_w, i32_w]
                 rfl
                refine pure_ (i := 6) (N := (some 39)) (v := ?_) (a' := ?_) #[true, true, true, true, true, true, true, false, false, false, false, false, false, false] rfl rfl (any_of HT_.out (by kernel_rfl)) (fun _ _ _ h => h) (Or.inl ⟨by rfl, ?_⟩) ?_ ?_
                rotate_left
                ·intro w'
                 go_simp
                 with_reducible rfl
                rotate_left
                ·simp only [Act.put, List.setIfInBounds_toArray, List.set_cons_zero, List.set_cons_succ, i64_w, i32_w]
                 rfl
                refine take_ (i := 7) (N := (some 40)) (v := ?_) (a' := ?_) #[true, true, true, true, true, true, true, true, false, false, false, false, false, false] rfl rfl (take_ofW HT_.out HW_.out (by kernel_rfl)) (fun _ _ _ h => h) (Or.inl ⟨by rfl, ?_⟩) hHeld ?_ ?_
                rotate_left
                ·rintro w' ⟨s0, s1⟩
                 go_simp
                 with_reducible rfl
                rotate_left
                ·simp only [Act.put, List.setIfInBounds_toArray, List.set_cons_zero, List.set_cons_succ, i64_w, i32_w]
                 rfl
                refine one_ (i := 8) (N := (some 41)) #[true, true, true, true, true, true, true, true, true, false, false, false, false, false] rfl rfl (one_of HT_.out (by kernel_rfl)) (by decide) (fun K hK => ?_)
                refine goes_ Tryz.func129 (by kernel_rfl) rfl #[.string s, .int .i64 (i : Int)] (by rfl) rfl rfl goa_ ?_
                with_reducible refine (token_Hex.calls k2 s (i : Int) x n _ A3.out).mono ?_
                rintro e w5 ⟨rfl, hb⟩
                refine ⟨_, rfl, ?_⟩
                have HX5 := Aside0.mk (HX4.out.below hb)
                have HK5 := Aside0.mk (HK4.out.call hb)
                have HD5 := Aside0.mk (isB_call HD4.out hb)
                clear hb
                refine hK.out _ _ ⟨HX5.out.s, HX5.out.i⟩ (fun hHeld => ?_)
                clear hK K
                refine norm_ (a' := ?_) ?_ ?_
                rotate_left
                ·show Act.put _ (some 41) _ = _
                 simp only [Act.put, List.setIfInBounds_toArray, List.set_cons_zero, List.set_cons_succ, i64_w, i32_w]
                 rfl
                refine pure_ (i := 9) (N := (some 32)) (v := ?_) (a' := ?_) #[true, true, true, true, true, true, true, true, true, true, false, false, false, false] rfl rfl (any_of HT_.out (by kernel_rfl)) (fun _ _ _ h => h) (Or.inl ⟨by rfl, ?_⟩) ?_ ?_
                rotate_left
                ·intro w'
                 go_simp
                 with_reducible rfl
                rotate_left
                ·simp only [Act.put, List.setIfInBounds_toArray, List.set_cons_zero, List.set_cons_succ, i64_w, i32_w]
                 rfl
                refine pure_ (i := 10) (N := (some 42)) (v := ?_) (a' := ?_) #[true, true, true, true, true, true, true, true, true, true, true, false, false, false] rfl rfl (any_of HT_.out (by kernel_rfl)) (fun _ _ _ h => h) (Or.inl ⟨by rfl, ?_⟩) ?_ ?_
                rotate_left
                ·intro w'
                 go_simp
                 with_reducible rfl
                rotate_left
                ·simp only [Act.put, List.setIfInBounds_toArray, List.set_cons_zero, List.set_cons_succ, i64_w, i32_w]
                 rfl
                refine pure_ (i := 11) (N := (some 43)) (v := ?_) (a' := ?_) #[true, true, true, true, true, true, true, true, true, true, true, true, false, false] rfl rfl (any_of HT_.out (by kernel_rfl)) (fun _ _ _ h => h) (Or.inl ⟨by rfl, ?_⟩) ?_ ?_
                rotate_left
                ·intro w'
                 go_simp
                 with_reducible rfl
                rotate_left
                ·simp only [Act.put, List.setIfInBounds_toArray, List.set_cons_zero, List.set_cons_succ, i64_w, i32_w]
                 rfl
                refine pure_ (i := 12) (N := (some 5)) (v := ?_) (a' := ?_) #[true, true, true, true, true, true, true, true, true, true, true, true, true, false] rfl rfl (any_of HT_.out (by kernel_rfl)) (fun _ _ _ h => h) (Or.inl ⟨by rfl, ?_⟩) ?_ ?_
                rotate_left
                ·intro w'
                 go_simp
                 with_reducible rfl
                rotate_left
                ·simp only [Act.put, List.setIfInBounds_toArray, List.set_cons_zero, List.set_cons_succ, i64_w, i32_w]
                 rfl
                refine pure_ (i := 13) (N := (some 6)) (v := ?_) (a' := ?_) #[true, true, true, true, true, true, true, true, true, true, true, true, true, true] rfl rfl (any_of HT_.out (by kernel_rfl)) (fun _ _ _ h => h) (Or.inl ⟨by rfl, ?_⟩) ?_ ?_
                rotate_left
                ·intro w'
                 go_simp
                 with_reducible rfl
                rotate_left
                ·simp only [Act.put, List.setIfInBounds_toArray, List.set_cons_zero, List.set_cons_succ, i64_w, i32_w]
                 rfl
                refine done_ (done_of HT_.out (by kernel_rfl)) ?_
                clear HX HK HD HX4 HK4 HD4
                have HX := HX5
                have HK := HK5
                have HD := HD5
                clear HX5 HK5 HD5
                have hc0 := HX.out.s
                have hc1 := HX.out.i
                have hz1 := HX.out.fz
                go_wp2_with (first | (go_at_call 59; refine (writeString_calls w.heap.size w.heap.size (Lib.byteCells acc) x _ (by repeat (first | (with_reducible first | exact HD.out | apply isB_drewN | apply isB_drew))) HLEN.out (Nat.le_of_lt HD.out.lt0)).mono ?_; rintro e w7 ⟨rfl, hd7, hb7⟩; have HX2 := Aside0.mk (Lx.lower (by repeat (first | (with_reducible first | exact HX.out | apply Lx.drewN | apply Lx.drew))) hb7 HG.out); have HK2 := Aside0.mk (Lk.lower (by repeat (first | (with_reducible first | exact HK.out | apply Lk.drewN | apply Lk.drew | apply Lk.set))) hb7 (Nat.le_refl _)); have HD2 := Aside0.mk (builtS hd7); clear hd7 hb7; clear HX HK HD; have HX := HX2; have HK := HK2; have HD := HD2; clear HX2 HK2 HD2; have hc0 := HX.out.s; have hc1 := HX.out.i; have hz1 := HX.out.fz))
                have hc0 := HX.out.s
                have hc1 := HX.out.i
                have hz1 := HX.out.fz
                go_wp2
                go_roundg k2
                case measure => omega
                case rel => exact ⟨i + n.toNat, acc ++ x.data.toList, HI2, A4, ⟨Lx.setv (by repeat (first | (with_reducible first | exact HX.out | apply Lx.drewN | apply Lx.drew))) HWN.out⟩, ⟨(by repeat (first | (with_reducible first | exact HK.out | apply Lk.drewN | apply Lk.drew | apply Lk.set)))⟩, ⟨isB_set (by repeat (first | (with_reducible first | exact HD.out | apply isB_drewN | apply isB_drew))) HG.out⟩⟩
              · rw [if_neg h3] at hf
                cases hf
            · rw [if_neg h2] at hf
              cases hf
          · rw [if_neg h1] at hf
            cases hf
      · rw [if_pos rfl] at hf
        by_cases hlt : i < s.size
        · rw [if_pos hlt] at hf
          by_cases h3 : acc.length ≤ 10000000
          · rw [if_pos h3] at hf
            have A4 := Aside0.mk hf
            have HLEN := Aside0.mk (show (Lib.byteCells acc).length + 1 ≤ 140737488355328 by unfold Lib.byteCells; rw [List.length_map]; omega)
            have HI2 := Aside0.mk (show i + 1 ≤ s.size by omega)
            have hw2 : wrap64 ((i : Int) + 1) = ((i + 1 : Nat) : Int) := by unfold wrap64; omega
            have HWN := Aside0.mk (show (i : Int) + 1 = ((i + 1 : Nat) : Int) by omega)
            have q0 : (0 ≤ (i : Int)) = True := eq_true (by omega)
            have q1 : ((i : Int) < (s.size : Int)) = True := eq_true (by omega)
            have q2 : decide ((i : Int) < (s.size : Int)) = true := decide_eq_true (by omega)
            have q3 : decide (i < s.size) = true := decide_eq_true hlt
            have q4 : (i < s.size) = True := eq_true hlt
            have hx : ∀ h : i < s.size, ((s[i].toNat : Nat) : Int) = bt s (i : Nat) := fun h => bt_at s (i : Int) (by simpa using h)
            clear hf h3 hi hs hlt
            go_wp2_with (first | (go_at_call 102; with_reducible refine (is_inner0 s g i i HS.out HW0.out _ _ ?lx A1.out).mono ?_; (case lx => exact (by repeat (first | (with_reducible first | exact HX.out | apply Lx.drewN | apply Lx.drew)))); rintro e wi ⟨rfl, ⟨ni, rfl⟩⟩))
            have HX4 : Aside0 (Lx (wr.drewN ni).drew g s i) := Aside0.mk (Lx.drew (by repeat (first | (with_reducible first | exact HX.out | apply Lx.drewN | apply Lx.drew))))
            have HK4 : Aside0 (Lk g w (wr.drewN ni).drew) := Aside0.mk (Lk.drew (by repeat (first | (with_reducible first | exact HK.out | apply Lk.drewN | apply Lk.drew | apply Lk.set))))
            have HD4 : Aside0 (Lib.IsBuilder 81 5 w.heap.size w.heap.size (Lib.byteCells acc) (wr.drewN ni).drew) := Aside0.mk (isB_drew (by repeat (first | (with_reducible first | exact HD.out | apply isB_drewN | apply isB_drew))))
            refine start_ (n := 10) (S := (fun w' => w'.cell? ⟨g, 0, none⟩ = some (.string s) ∧ w'.cell? ⟨g, 1, none⟩ = some (.int .i64 (i : Int)))) (ds := []) #[false, false, false, false, false, false, false, false, false, false] (by kernel_rfl) rfl rfl ⟨HX4.out.s, HX4.out.i⟩ (fun hHeld => ?_)
            refine with_tabW lexer_ident.tab5 lexer_ident.bits5 (fun HT_ HW_ => ?_)
            generalize (wr.drewN ni).drew = w4 at HX4 HK4 HD4 hHeld ⊢
            refine pure_ (i := 0) (N := (some 12)) (v := ?_) (a' := ?_) #[true, false, false, false, false, false, false, false, false, false] rfl rfl (any_of HT_.out (by kernel_rfl)) (fun _ _ _ h => h) (Or.inl ⟨by rfl, ?_⟩) ?_ ?_
            rotate_left
            ·intro w'
             go_simp
             with_reducible rfl
            rotate_left
            ·simp only [Act.put, List.setIfInBounds_toArray, List.set_cons_zero, List.set_cons_succ, i64_w, i32_w]
             rfl
            refine pure_ (i := 1) (N := (some 13)) (v := ?_) (a' := ?_) #[true, true, false, false, false, false, false, false, false, false] rfl rfl (any_of HT_.out (by kernel_rfl)) (fun _ _ _ h => h) (Or.inl ⟨by rfl, ?_⟩) ?_ ?_
            rotate_left
            ·intro w'
             go_simp
             with_reducible rfl
            rotate_left
            ·simp only [Act.put, List.setIfInBounds_toArray, List.set_cons_zero, List.set_cons_succ, i64_w, i32_w]
             rfl
            refine pure_ (i := 2) (N := (some 14)) (v := ?_) (a' := ?_) #[true, true, true, false, false, false, false, false, false, false] rfl rfl (any_of HT_.out (by kernel_rfl)) (fun _ _ _ h => h) (Or.inl ⟨by rfl, ?_⟩) ?_ ?_
            rotate_left
            ·intro w'
             go_simp
             with_reducible rfl
            rotate_left
            ·simp only [Act.put, List.setIfInBounds_toArray, List.set_cons_zero, List.set_cons_succ, i64_w, i32_w]
             rfl
            refine take_ (i := 3) (N := (some 15)) (v := ?_) (a' := ?_) #[true, true, true, true, false, false, false, false, false, false] rfl rfl (take_ofW HT_.out HW_.out (by kernel_rfl)) (fun _ _ _ h => h) (Or.inl ⟨by rfl, ?_⟩) hHeld ?_ ?_
            rotate_left
            ·rintro w' ⟨s0, s1⟩
             go_simp
             with_reducible rfl
            rotate_left
            ·simp only [Act.put, List.setIfInBounds_toArray, List.set_cons_zero, List.set_cons_succ, i64_w, i32_w]
             rfl
            refine pure_ (i := 4) (N := (some 16)) (v := ?_) (a' := ?_) #[true, true, true, true, true, false, false, false, false, false] rfl rfl (any_of HT_.out (by kernel_rfl)) (fun _ _ _ h => h) (Or.inl ⟨by rfl, ?_⟩) ?_ ?_
            rotate_left
            ·intro w'
             go_simp
             with_reducible rfl
            rotate_left
            ·simp only [Act.put, List.setIfInBounds_toArray, List.set_cons_zero, List.set_cons_succ, i64_w, i32_w]
             rfl
            refine pure_ (i := 5) (N := (some 17)) (v := ?_) (a' := ?_) #[true, true, true, true, true, true, false, false, false, false] rfl rfl (any_of HT_.out (by kernel_rfl)) (fun _ _ _ h => h) (Or.inl ⟨by rfl, ?_⟩) ?_ ?_
            rotate_left
            ·intro w'
             go_simp
             with_reducible rfl
            rotate_left
            ·simp only [Act.put, List.setIfInBounds_toArray, List.set_cons_zero, List.set_cons_succ, i64_w, i32_w]
             rfl
            refine pure_ (i := 6) (N := (some 18)) (v := ?_) (a' := ?_) #[true, true, true, true, true, true, true, false, false, false] rfl rfl (any_of HT_.out (by kernel_rfl)) (fun _ _ _ h => h) (Or.inl ⟨by rfl, ?_⟩) ?_ ?_
            rotate_left
            ·intro w'
             go_simp
             with_reducible rfl
            rotate_left
            ·simp only [Act.put, List.setIfInBounds_toArray, List.set_cons_zero, List.set_cons_succ, i64_w, i32_w]
             rfl
            refine take_ (i := 7) (N := (some 19)) (v := ?_) (a' := ?_) #[true, true, true, true, true, true, true, true, false, false] rfl rfl (take_ofW HT_.out HW_.out (by kernel_rfl)) (fun _ _ _ h => h) (Or.inl ⟨by rfl, ?_⟩) hHeld ?_ ?_
            rotate_left
            ·rintro w' ⟨s0, s1⟩
             go_simp
             with_reducible rfl
            rotate_left
            ·simp only [Act.put, List.setIfInBounds_toArray, List.set_cons_zero, List.set_cons_succ, i64_w, i32_w]
             rfl
            refine pure_ (i := 8) (N := (some 20)) (v := ?_) (a' := ?_) #[true, true, true, true, true, true, true, true, true, false] rfl rfl (any_of HT_.out (by kernel_rfl)) (fun _ _ _ h => h) (Or.inl ⟨by rfl, ?_⟩) ?_ ?_
            rotate_left
            ·intro w'
             go_simp
             with_reducible rfl
            rotate_left
            ·simp only [Act.put, List.setIfInBounds_toArray, List.set_cons_zero, List.set_cons_succ, i64_w, i32_w]
             rfl
            refine one_ (i := 9) (N := (some 21)) #[true, true, true, true, true, true, true, true, true, true] rfl rfl (one_of HT_.out (by kernel_rfl)) (by decide) (fun K hK => ?_)
            refine goes_ Tryz.func128 (by kernel_rfl) rfl #[.pointer (some ⟨w.heap.size, 0, none⟩), .int .u8 (bt s (i : Nat))] (by rfl) rfl rfl goa_ ?_
            refine (writeByte_calls w.heap.size w.heap.size (Lib.byteCells acc) (bt s (i : Nat)) _ HD4.out HLEN.out (Nat.le_of_lt HD4.out.lt0)).mono ?_
            rintro e w5 ⟨rfl, hd5, hb5⟩
            refine ⟨_, rfl, ?_⟩
            have HX5 := Aside0.mk (HX4.out.lower hb5 HG.out)
            have HK5 := Aside0.mk (HK4.out.lower hb5 (Nat.le_refl _))
            have HD5 := Aside0.mk (built1 (c := byteAt s i) (byteAt_val s i).symm hd5)
            clear hd5 hb5
            refine hK.out _ _ ⟨HX5.out.s, HX5.out.i⟩ (fun hHeld => ?_)
            clear hK K
            refine norm_ (a' := ?_) ?_ ?_
            rotate_left
            ·show Act.put _ (some 21) _ = _
             simp only [Act.put, List.setIfInBounds_toArray, List.set_cons_zero, List.set_cons_succ, i64_w, i32_w]
             rfl
            refine done_ (done_of HT_.out (by kernel_rfl)) ?_
            clear HX HK HD HX4 HK4 HD4
            have HX := HX5
            have HK := HK5
            have HD := HD5
            clear HX5 HK5 HD5
            have hc0 := HX.out.s
            have hc1 := HX.out.i
            have hz1 := HX.out.fz
            go_wp2
            go_roundg k2
            case measure => omega
            case rel => exact ⟨i + 1, acc ++ [byteAt s i], HI2, A4, ⟨Lx.setv (by repeat (first | (with_reducible first | exact HX.out | apply Lx.drewN | apply Lx.drew))) (by omega)⟩, ⟨(by repeat (first | (with_reducible first | exact HK.out | apply Lk.drewN | apply Lk.drew | apply Lk.set)))⟩, ⟨isB_set (by repeat (first | (with_reducible first | exact HD.out | apply isB_drewN | apply isB_drew))) HG.out⟩⟩
          · rw [if_neg h3] at hf
            cases hf
        · rw [if_neg hlt] at hf
          cases hf
end Go.Proofs.YtofdhdafabmhmaaGreatDoor.Giv
end
section
namespace Go.Proofs.YtofdhdafabmhmaaGreatDoor.Giv
open Go.RowKit Go.Proofs.YtofdhdafabmhmaaGreatDoorW.PrintWords Go.Proofs.YtofdhdafabmhmaaGreatDoorW.PrintLast Go.Proofs.YtofdhdafabmhmaaGreatDoorW.PrintMore Go.Proofs.YtofdhdafabmhmaaGreatDoor.PLt
open Go.Proofs.YtofdhdafabmhmaaGreatDoor.Opn Go.BigFrame
set_option linter.unusedVariables false
set_option linter.unusedSimpArgs false
theorem isB_put {T e : TypeId} {B b g o : Nat} {v : Value} {l : List Value} {w : World} (hg : g < B) (h : Lib.IsBuilder T e B b l w) : Lib.IsBuilder T e B b l (w.setCell ⟨g, o, none⟩ v) := isB_set h hg
/-- What a quoted text means, and where it ends (an escape that is none, a line's end, a byte 0: none). -/
def quotF : Nat → ByteArray → Nat → List UInt8 → Int → Option (List UInt8 × Nat)
  | 0, _, _, _, _ => none
  | k + 1, s, i, acc, e => if i < s.size then (if bt s (i : Nat) = e then some (acc, i + 1) else ((token_feed.f (bt s (i : Nat))).bind fun f => if f = true then none else if bt s (i : Nat) = 0 then none else if bt s (i : Nat) = 92 then
      ((escF k s i).bind fun b => if b = true then ((token_Hex.f k s (i : Int)).bind fun t => if 0 ≤ t.2 then (if i + t.2.toNat ≤ s.size then (if acc.length + t.1.size ≤ 10000000 then quotF k s (i + t.2.toNat) (acc ++ t.1.data.toList) e else none) else none) else none) else none)
      else if acc.length ≤ 10000000 then quotF k s (i + 1) (acc ++ [byteAt s i]) e else none)) else none
theorem quotF.mono : ∀ k s i acc e, LeO (quotF k s i acc e) (quotF (k + 1) s i acc e)
  | 0, s, i, acc, e => LeO.none _
  | k + 1, s, i, acc, e => by
    rw [quotF, quotF]
    repeat' first
      | exact quotF.mono k _ _ _ _
      | (with_reducible exact escF.mono _ _ _)
      | (with_reducible exact token_Hex.mono _ _ _)
      | (with_reducible exact LeO.refl _)
      | (with_reducible exact LeO.none _)
      | (with_reducible refine LeO.ite ?_ ?_)
      | (with_reducible refine LeO.bind ?_ (fun _ => ?_))
def lexer_quoted.T13 : Bool × List (List Nat × List Nat) := (true, [([], []), ([0], [0]), ([1], [1]), ([2], [2]), ([], []), ([4], [4]), ([5], [5]), ([6], [6]), ([3, 7], [3, 7]), ([8], [8]), ([9], [9]), ([9], [9]), ([10, 8, 0, 1, 2, 3, 4, 5, 6, 7, 8, 9, 10], [10]), ([11, 12, 0, 1, 2, 3, 4, 5, 6, 7, 8, 9, 10, 11, 12], [11])])
def lexer_quoted.B13 : List Nat := [0, 1, 3, 7, 0, 16, 48, 112, 255, 511, 1023, 1023, 2047, 8191]
theorem lexer_quoted.tab13 : rtab .any (opsOf Tryz.f107 13) = lexer_quoted.T13 := by kernel_rfl
theorem lexer_quoted.bits13 : waitsOk lexer_quoted.T13.2 lexer_quoted.B13 = true := by kernel_rfl
set_option maxHeartbeats 8000000 in
set_option maxRecDepth 100000 in
theorem quoted_calls (k : Nat) (s : ByteArray) (g i j : Nat) (l : List UInt8) (hs : s.size ≤ 140737488351232) (hi : i < s.size) (w : World) (h : Lx w g s i) (hf : quotF k s (i + 1) [] (bt s (i : Nat)) = some (l, j)) :
    Calls Tryz.prog 107 #[.pointer (some ⟨g, 0, none⟩)] w fun e w' => e = .returned (.string ⟨l.toArray⟩) ∧ Lx w' g s j ∧ Lk g w w' := by
  have hu := Tryz.underlying103
  have HS := Aside0.mk hs
  have HF := Aside0.mk hf
  have H1 := Aside0.mk h
  have HI := Aside0.mk (show i + 1 ≤ s.size by omega)
  have hg := (Array.getElem?_eq_some_iff.1 h).1
  have HG := Aside0.mk hg
  have hlt := hi
  have hc0 := h.s
  have hc1 := h.i
  have hw2 : wrap64 ((i : Int) + 1) = ((i + 1 : Nat) : Int) := by unfold wrap64; omega
  have q0 : (0 ≤ (i : Int)) = True := eq_true (by omega)
  have q1 : ((i : Int) < (s.size : Int)) = True := eq_true (by omega)
  have q2 : decide ((i : Int) < (s.size : Int)) = true := decide_eq_true (by omega)
  have q3 : decide (i < s.size) = true := decide_eq_true hlt
  have q4 : (i < s.size) = True := eq_true hlt
  have hx : ∀ h : i < s.size, ((s[i].toNat : Nat) : Int) = bt s (i : Nat) := fun h => bt_at s (i : Int) (by simpa using h)
  clear hf h hs hi hg hlt
  go_enter Tryz.func107, Tryz.ntmps107
  go_wp2
  refine wp_region_quiet_lit (by kernel_rfl) (by kernel_rfl) ?_
  repeat (go_big_quiet_step (fail))
  refine wpQuiet_nil ?_
  intro _ hw'
  obtain ⟨nq, hw''⟩ := hw'
  subst hw''
  go_wp2_with (first | ((with_reducible refine gate_dst (N := 5) rfl ?_); (try (refine gate_guard (by rfl) ?_; dsimp only)); refine box_event ?hg (N := 5) ?hd (cs := #[.pointer none, .slice none 0 0]) (t := 81) ?hr ?_; (case hd => rfl); (case hg => rfl); (case hr => first | (go_simp; done) | (go_simp; rfl)); intro b5 hg w5 hbox hb; have hg2 : b5 = w.heap.size := hg; subst hg2; have HFR : Aside0 (Lib.IsBuilder 81 5 w.heap.size w.heap.size [] w5) := ⟨Or.inl ⟨Nat.le_refl _, .slice none 0 0, hbox, World.ownsRow_nil _ _ _ _, by simp [Value.ownBlock]⟩⟩; have HXA : Aside0 (Lx w5 g s i) := ⟨Lx.below (W := w.drewN nq) H1.out hb⟩; have HKA : Aside0 (Lk g w w5) := ⟨Lk.call ((Lk.refl g w).drewN nq) hb⟩; clear hg hbox hb hc0 hc1 H1; have hc0 := HXA.out.s; have hc1 := HXA.out.i; have hz1 := HXA.out.fz))
  clear hx
  generalize bt s (i : Nat) = en at HF ⊢
  go_loopg [] k (fun kq wr => ∃ (i2 : Nat) (acc : List UInt8), Aside0 (i2 ≤ s.size) ∧ Aside0 (quotF kq s i2 acc en = some (l, j)) ∧ Aside0 (Lx wr g s i2) ∧ Aside0 (Lk g w wr) ∧ Aside0 (Lib.IsBuilder 81 5 w.heap.size w.heap.size (Lib.byteCells acc) wr))
  case atStart => exact ⟨i + 1, [], HI, HF, ⟨Lx.setv HXA.out (by omega)⟩, ⟨Lk.set HKA.out _ _⟩, ⟨isB_set HFR.out HG.out⟩⟩
  case round =>
    clear HF HI HFR HXA HKA hc0 hc1 hz1 q0 q1 q2 q3 q4 hw2
    obtain ⟨i, acc, HI, HF, HX, HK, HD⟩ := hrel
    cases gk with
    | zero => exact absurd HF.out (by simp [quotF])
    | succ k2 =>
      have hf := HF.out
      have hi := HI.out
      have hs := HS.out
      have HJ := Aside0.mk (show i ≤ 140737488351300 by omega)
      have HW0 := Aside0.mk (show IntKind.i64.wrap (i : Int) = (i : Int) from wrapE i 0 (by omega))
      have hc0 := HX.out.s
      have hc1 := HX.out.i
      have hz1 := HX.out.fz
      clear HF
      rw [quotF] at hf
      by_cases hlt : i < s.size
      · rw [if_pos hlt] at hf
        have hw2 : wrap64 ((i : Int) + 1) = ((i + 1 : Nat) : Int) := by unfold wrap64; omega
        have HI2 := Aside0.mk (show i + 1 ≤ s.size by omega)
        have HWN := Aside0.mk (show (i : Int) + 1 = ((i + 1 : Nat) : Int) by omega)
        have q0 : (0 ≤ (i : Int)) = True := eq_true (by omega)
        have q1 : ((i : Int) < (s.size : Int)) = True := eq_true (by omega)
        have q2 : decide ((i : Int) < (s.size : Int)) = true := decide_eq_true (by omega)
        have q3 : decide (i < s.size) = true := decide_eq_true hlt
        have q4 : (i < s.size) = True := eq_true hlt
        have hx : ∀ h : i < s.size, ((s[i].toNat : Nat) : Int) = bt s (i : Nat) := fun h => bt_at s (i : Int) (by simpa using h)
        have q7 : decide ((i : Int) ≥ (s.size : Int)) = false := decide_eq_false (by omega)
        have q8 : decide ((s.size : Int) ≤ (i : Int)) = false := decide_eq_false (by omega)
        have q9 : decide (s.size ≤ i) = false := decide_eq_false (by omega)
        by_cases hen : bt s (i : Nat) = en
        · rw [if_pos hen] at hf
          obtain ⟨rfl, rfl⟩ := Prod.mk.inj (Option.some.inj hf)
          have p1 : (bt s (i : Nat) != en) = false := bne_eq_false_iff_eq.mpr hen
          have p2 : (bt s (i : Nat) == en) = true := beq_iff_eq.mpr hen
          clear hf hi hs hlt hen
          go_wp2
          refine wp_region_quiet_lit (by kernel_rfl) (by kernel_rfl) ?_
          repeat (go_big_quiet_step (fail))
          refine wpQuiet_nil ?_
          intro _ hw'
          obtain ⟨nq, hw''⟩ := hw'
          subst hw''
          go_wp2
          refine wp_region_quiet_lit (by kernel_rfl) (by kernel_rfl) ?_
          repeat (go_big_quiet_step (fail))
          refine wpQuiet_nil ?_
          intro _ hw'
          obtain ⟨nq, hw''⟩ := hw'
          subst hw''
          go_wp2_with (first | (go_at_call 60; refine (Tryz.Builder_String_any w.heap.size w.heap.size acc _ ?bd ?lt).mono ?_; (case bd => exact (by repeat (first | (with_reducible first | exact HD.out | apply isB_drewN | apply isB_drew | apply isB_put HG.out)))); (case lt => first | exact Nat.le_of_lt HD.out.lt0 | (refine Nat.le_of_lt ?_; have h_ := HD.out.lt0; simpa [World.setCell] using h_)); rintro e w7 ⟨rfl, hb7⟩; have HX7 := Aside0.mk (Lx.lower (i := i + 1) (Lx.setv (by repeat (first | (with_reducible first | exact HX.out | apply Lx.drewN | apply Lx.drew))) (by first | with_reducible rfl | with_reducible exact hw2 | omega)) hb7 HG.out); have HK7 := Aside0.mk (Lk.lower (by repeat (first | (with_reducible first | exact HK.out | apply Lk.drewN | apply Lk.drew | apply Lk.set))) hb7 (Nat.le_refl _)); clear hb7))
          go_ret
          exact ⟨rfl, HX7.out, HK7.out⟩
        · rw [if_neg hen] at hf
          have p1 : (bt s (i : Nat) != en) = true := bne_iff_ne.mpr hen
          have p2 : (bt s (i : Nat) == en) = false := beq_eq_false_iff_ne.mpr hen
          obtain ⟨f, hff, hf⟩ := Option.bind_eq_some_iff.mp hf
          have A1 := Aside0.mk hff
          clear hff
          cases f
          · rw [if_neg (by decide)] at hf
            by_cases h0 : bt s (i : Nat) = 0
            · rw [if_pos h0] at hf
              cases hf
            · rw [if_neg h0] at hf
              have p3 : (bt s (i : Nat) == 0) = false := beq_eq_false_iff_ne.mpr h0
              by_cases h9 : bt s (i : Nat) = 92
              · rw [if_pos h9] at hf
                have p4 : (bt s (i : Nat) != 92) = false := bne_eq_false_iff_eq.mpr h9
                obtain ⟨e, he, hf⟩ := Option.bind_eq_some_iff.mp hf
                have A2 := Aside0.mk he
                clear he
                cases e
                · rw [if_neg (by decide)] at hf
                  cases hf
                · rw [if_pos rfl] at hf
                  obtain ⟨⟨x, n⟩, hxx, hf⟩ := Option.bind_eq_some_iff.mp hf
                  have A3 := Aside0.mk hxx
                  clear hxx
                  try dsimp only at hf
                  by_cases h1 : 0 ≤ n
                  · rw [if_pos h1] at hf
                    by_cases h2 : i + n.toNat ≤ s.size
                    · rw [if_pos h2] at hf
                      by_cases h3 : acc.length + x.size ≤ 10000000
                      · rw [if_pos h3] at hf
                        have A4 := Aside0.mk hf
                        have HI3 := Aside0.mk h2
                        have HLEN := Aside0.mk (show (Lib.byteCells acc).length + x.size ≤ 140737488355328 by unfold Lib.byteCells; rw [List.length_map]; omega)
                        have hwn : wrap64 ((i : Int) + n) = ((i + n.toNat : Nat) : Int) := by unfold wrap64; omega
                        have HWN2 := Aside0.mk hwn
                        clear hf h1 h2 h3 hwn hi hs hlt hen h0 h9
                        go_wp2
                        refine wp_region_quiet_lit (by kernel_rfl) (by kernel_rfl) ?_
                        repeat (go_big_quiet_step (fail))
                        refine wpQuiet_nil ?_
                        intro _ hw'
                        obtain ⟨nq, hw''⟩ := hw'
                        subst hw''
                        go_wp2
                        refine wp_region_quiet_lit (by kernel_rfl) (by kernel_rfl) ?_
                        repeat (go_big_quiet_step (fail))
                        refine wpQuiet_nil ?_
                        intro _ hw'
                        obtain ⟨nq, hw''⟩ := hw'
                        subst hw''
                        go_wp2_with (first | (go_at_call 120; with_reducible refine (token_feed.calls _ _ _ A1.out).mono ?_; rintro e wf ⟨rfl, ⟨nf, rfl⟩⟩) | (go_at_call 125; with_reducible refine (escape_0 k2 s g i i HS.out HJ.out HW0.out _ _ ?lx A2.out).mono ?_; (case lx => exact (by repeat (first | (with_reducible first | exact HX.out | apply Lx.drewN | apply Lx.drew)))); rintro e wi ⟨rfl, hb⟩; have HX2 := Aside0.mk (Lx.below (by repeat (first | (with_reducible first | exact HX.out | apply Lx.drewN | apply Lx.drew))) hb); have HK2 := Aside0.mk (Lk.call (by repeat (first | (with_reducible first | exact HK.out | apply Lk.drewN | apply Lk.drew | apply Lk.set))) hb); have HD2 := Aside0.mk (isB_call (by repeat (first | (with_reducible first | exact HD.out | apply isB_drewN | apply isB_drew))) hb); clear hb; clear HX HK HD; have HX := HX2; have HK := HK2; have HD := HD2; clear HX2 HK2 HD2; have hc0 := HX.out.s; have hc1 := HX.out.i; have hz1 := HX.out.fz))
                        have HX4 : Aside0 (Lx (wi).drew g s i) := Aside0.mk (Lx.drew (by repeat (first | (with_reducible first | exact HX.out | apply Lx.drewN | apply Lx.drew))))
                        have HK4 : Aside0 (Lk g w (wi).drew) := Aside0.mk (Lk.drew (by repeat (first | (with_reducible first | exact HK.out | apply Lk.drewN | apply Lk.drew | apply Lk.set))))
                        have HD4 : Aside0 (Lib.IsBuilder 81 5 w.heap.size w.heap.size (Lib.byteCells acc) (wi).drew) := Aside0.mk (isB_drew (by repeat (first | (with_reducible first | exact HD.out | apply isB_drewN | apply isB_drew))))
                        refine start_ (n := 14) (S := (fun w' => w'.cell? ⟨g, 0, none⟩ = some (.string s) ∧ w'.cell? ⟨g, 1, none⟩ = some (.int .i64 (i : Int)))) (ds := []) #[false, false, false, false, false, false, false, false, false, false, false, false, false, false] (by kernel_rfl) rfl rfl ⟨HX4.out.s, HX4.out.i⟩ (fun hHeld => ?_)
                        refine with_tabW lexer_quoted.tab13 lexer_quoted.bits13 (fun HT_ HW_ => ?_)
                        generalize (wi).drew = w4 at HX4 HK4 HD4 hHeld ⊢
                        refine pure_ (i := 0) (N := (some 90)) (v := ?_) (a' := ?_) #[true, false, false, false, false, false, false, false, false, false, false, false, false, false] rfl rfl (any_of HT_.out (by kernel_rfl)) (fun _ _ _ h => h) (Or.inl ⟨by rfl, ?_⟩) ?_ ?_
                        rotate_left
                        ·intro w'
                         go_simp
                         with_reducible rfl
                        rotate_left
                        ·simp only [Act.put, List.setIfInBounds_toArray, List.set_cons_zero, List.set_cons_succ, i64_w, i32_w]
                         rfl
                        refine pure_ (i := 1) (N := (some 91)) (v := ?_) (a' := ?_) #[true, true, false, false, false, false, false, false, false, false, false, false, false, false] rfl rfl (any_of HT_.out (by kernel_rfl)) (fun _ _ _ h => h) (Or.inl ⟨by rfl, ?_⟩) ?_ ?_
                        rotate_left
                        ·intro w'
                         go_simp
                         with_reducible rfl
                        rotate_left
                        ·simp only [Act.put, List.setIfInBounds_toArray, List.set_cons_zero, List.set_cons_succ, i64_w, i32_w]
                         rfl
                        refine pure_ (i := 2) (N := (some 92)) (v := ?_) (a' := ?_) #[true, true, true, false, false, false, false, false, false, false, false, false, false, false] rfl rfl (any_of HT_.out (by kernel_rfl)) (fun _ _ _ h => h) (Or.inl ⟨by rfl, ?_⟩) ?_ ?_
                        rotate_left
                        ·intro w'
                         go_simp
                         with_reducible rfl
                        rotate_left
                        ·simp only [Act.put, List.setIfInBounds_toArray, List.set_cons_zero, List.set_cons_succ, i64_w, i32_w]
                         rfl
                        refine take_ (i := 3) (N := (some 93)) (v := ?_) (a' := ?_) #[true, true, true, true, false, false, false, false, false, false, false, false, false, false] rfl rfl (take_ofW HT_.out HW_.out (by kernel_rfl)) (fun _ _ _ h => h) (Or.inl ⟨by rfl, ?_⟩) hHeld ?_ ?_
                        rotate_left
                        ·rintro w' ⟨s0, s1⟩
                         go_simp
                         with_reducible rfl
                        rotate_left
                        ·simp only [Act.put, List.setIfInBounds_toArray, List.set_cons_zero, List.set_cons_succ, i64_w, i32_w]
                         rfl
                        refine pure_ (i := 4) (N := (some 94)) (v := ?_) (a' := ?_) #[true, true, true, true, true, false, false, false, false, false, false, false, false, false] rfl rfl (any_of HT_.out (by kernel_rfl)) (fun _ _ _ h => h) (Or.inl ⟨by rfl, ?_⟩) ?_ ?_
                        rotate_left
                        ·intro w'
                         go_simp
                         with_reducible rfl
                        rotate_left
                        ·simp only [Act.put, List.setIfInBounds_toArray, List.set_cons_zero, List.set_cons_succ, i64_w, i32_w]
                         rfl
                        refine pure_ (i := 5) (N := (some 95)) (v := ?_) (a' := ?_) #[true, true, true, true, true, true, false, false, false, false, false, false, false, false] rfl rfl (any_of HT_.out (by kernel_rfl)) (fun _ _ _ h => h) (Or.inl ⟨by rfl, ?_⟩) ?_ ?_
                        rotate_left
                        ·intro w'
                         go_simp
                         with_reducible rfl
                        rotate_left
                        ·simp only [Act.put, List.setIfInBounds_toArray, List.set_cons_zero, List.set_cons_succ, i64_w, i32_w]
                         rfl
                        refine pure_ (i := 6) (N := (some 96)) (v := ?_) (a' := ?_) #[true, true, true, true, true, true, true, false, false, false, false, false, false, false] rfl rfl (any_of HT_.out (by kernel_rfl)) (fun _ _ _ h => h) (Or.inl ⟨by rfl, ?_⟩) ?_ ?_
                        rotate_left
                        ·intro w'
                         go_simp
                         with_reducible rfl
                        rotate_left
                        ·simp only [Act.put, List.setIfInBounds_toArray, List.set_cons_zero, List.set_cons_succ, i64_w, i32_w]
                         rfl
                        refine take_ (i := 7) (N := (some 97)) (v := ?_) (a' := ?_) #[true, true, true, true, true, true, true, true, false, false, false, false, false, false] rfl rfl (take_ofW HT_.out HW_.out (by kernel_rfl)) (fun _ _ _ h => h) (Or.inl ⟨by rfl, ?_⟩) hHeld ?_ ?_
                        rotate_left
                        ·rintro w' ⟨s0, s1⟩
                         go_simp
                         with_reducible rfl
                        rotate_left
                        ·simp only [Act.put, List.setIfInBounds_toArray, List.set_cons_zero, List.set_cons_succ, i64_w, i32_w]
                         rfl
                        refine one_ (i := 8) (N := (some 98)) #[true, true, true, true, true, true, true, true, true, false, false, false, false, false] rfl rfl (one_of HT_.out (by kernel_rfl)) (by decide) (fun K hK => ?_)
                        refine goes_ Tryz.func129 (by kernel_rfl) rfl #[.string s, .int .i64 (i : Int)] (by rfl) rfl rfl goa_ ?_
                        with_reducible refine (token_Hex.calls k2 s (i : Int) x n _ A3.out).mono ?_
                        rintro e w5 ⟨rfl, hb⟩
                        refine ⟨_, rfl, ?_⟩
                        have HX5 := Aside0.mk (HX4.out.below hb)
                        have HK5 := Aside0.mk (HK4.out.call hb)
                        have HD5 := Aside0.mk (isB_call HD4.out hb)
                        clear hb
                        refine hK.out _ _ ⟨HX5.out.s, HX5.out.i⟩ (fun hHeld => ?_)
                        clear hK K
                        refine norm_ (a' := ?_) ?_ ?_
                        rotate_left
                        ·show Act.put _ (some 98) _ = _
                         simp only [Act.put, List.setIfInBounds_toArray, List.set_cons_zero, List.set_cons_succ, i64_w, i32_w]
                         rfl
                        refine pure_ (i := 9) (N := (some 89)) (v := ?_) (a' := ?_) #[true, true, true, true, true, true, true, true, true, true, false, false, false, false] rfl rfl (any_of HT_.out (by kernel_rfl)) (fun _ _ _ h => h) (Or.inl ⟨by rfl, ?_⟩) ?_ ?_
                        rotate_left
                        ·intro w'
                         go_simp
                         with_reducible rfl
                        rotate_left
                        ·simp only [Act.put, List.setIfInBounds_toArray, List.set_cons_zero, List.set_cons_succ, i64_w, i32_w]
                         rfl
                        refine pure_ (i := 10) (N := (some 99)) (v := ?_) (a' := ?_) #[true, true, true, true, true, true, true, true, true, true, true, false, false, false] rfl rfl (any_of HT_.out (by kernel_rfl)) (fun _ _ _ h => h) (Or.inl ⟨by rfl, ?_⟩) ?_ ?_
                        rotate_left
                        ·intro w'
                         go_simp
                         with_reducible rfl
                        rotate_left
                        ·simp only [Act.put, List.setIfInBounds_toArray, List.set_cons_zero, List.set_cons_succ, i64_w, i32_w]
                         rfl
                        refine pure_ (i := 11) (N := (some 100)) (v := ?_) (a' := ?_) #[true, true, true, true, true, true, true, true, true, true, true, true, false, false] rfl rfl (any_of HT_.out (by kernel_rfl)) (fun _ _ _ h => h) (Or.inl ⟨by rfl, ?_⟩) ?_ ?_
                        rotate_left
                        ·intro w'
                         go_simp
                         with_reducible rfl
                        rotate_left
                        ·simp only [Act.put, List.setIfInBounds_toArray, List.set_cons_zero, List.set_cons_succ, i64_w, i32_w]
                         rfl
                        refine pure_ (i := 12) (N := (some 7)) (v := ?_) (a' := ?_) #[true, true, true, true, true, true, true, true, true, true, true, true, true, false] rfl rfl (any_of HT_.out (by kernel_rfl)) (fun _ _ _ h => h) (Or.inl ⟨by rfl, ?_⟩) ?_ ?_
                        rotate_left
                        ·intro w'
                         go_simp
                         with_reducible rfl
                        rotate_left
                        ·simp only [Act.put, List.setIfInBounds_toArray, List.set_cons_zero, List.set_cons_succ, i64_w, i32_w]
                         rfl
                        refine pure_ (i := 13) (N := (some 8)) (v := ?_) (a' := ?_) #[true, true, true, true, true, true, true, true, true, true, true, true, true, true] rfl rfl (any_of HT_.out (by kernel_rfl)) (fun _ _ _ h => h) (Or.inl ⟨by rfl, ?_⟩) ?_ ?_
                        rotate_left
                        ·intro w'
                         go_simp
                         with_reducible rfl
                        rotate_left
                        ·simp only [Act.put, List.setIfInBounds_toArray, List.set_cons_zero, List.set_cons_succ, i64_w, i32_w]
                         rfl
                        refine done_ (done_of HT_.out (by kernel_rfl)) ?_
                        clear HX HK HD HX4 HK4 HD4
                        have HX := HX5
                        have HK := HK5
                        have HD := HD5
                        clear HX5 HK5 HD5
                        have hc0 := HX.out.s
                        have hc1 := HX.out.i
                        have hz1 := HX.out.fz
                        go_wp2_with (first | (go_at_call 59; refine (writeString_calls w.heap.size w.heap.size (Lib.byteCells acc) x _ (by repeat (first | (with_reducible first | exact HD.out | apply isB_drewN | apply isB_drew))) HLEN.out (Nat.le_of_lt HD.out.lt0)).mono ?_; rintro e w7 ⟨rfl, hd7, hb7⟩; have HX2 := Aside0.mk (Lx.lower (by repeat (first | (with_reducible first | exact HX.out | apply Lx.drewN | apply Lx.drew))) hb7 HG.out); have HK2 := Aside0.mk (Lk.lower (by repeat (first | (with_reducible first | exact HK.out | apply Lk.drewN | apply Lk.drew | apply Lk.set))) hb7 (Nat.le_refl _)); have HD2 := Aside0.mk (builtS hd7); clear hd7 hb7; clear HX HK HD; have HX := HX2; have HK := HK2; have HD := HD2; clear HX2 HK2 HD2; have hc0 := HX.out.s; have hc1 := HX.out.i; have hz1 := HX.out.fz))
                        have hc0 := HX.out.s
                        have hc1 := HX.out.i
                        have hz1 := HX.out.fz
                        go_wp2
                        go_roundg k2
                        case measure => omega
                        case rel => exact ⟨i + n.toNat, acc ++ x.data.toList, HI3, A4, ⟨Lx.setv (by repeat (first | (with_reducible first | exact HX.out | apply Lx.drewN | apply Lx.drew))) HWN2.out⟩, ⟨(by repeat (first | (with_reducible first | exact HK.out | apply Lk.drewN | apply Lk.drew | apply Lk.set)))⟩, ⟨isB_set (by repeat (first | (with_reducible first | exact HD.out | apply isB_drewN | apply isB_drew))) HG.out⟩⟩
                      · rw [if_neg h3] at hf
                        cases hf
                    · rw [if_neg h2] at hf
                      cases hf
                  · rw [if_neg h1] at hf
                    cases hf
              · rw [if_neg h9] at hf
                have p4 : (bt s (i : Nat) != 92) = true := bne_iff_ne.mpr h9
                by_cases h3 : acc.length ≤ 10000000
                · rw [if_pos h3] at hf
                  have A4 := Aside0.mk hf
                  have HLEN := Aside0.mk (show (Lib.byteCells acc).length + 1 ≤ 140737488355328 by unfold Lib.byteCells; rw [List.length_map]; omega)
                  clear hf h3 hi hs hlt hen h0 h9
                  go_wp2
                  refine wp_region_quiet_lit (by kernel_rfl) (by kernel_rfl) ?_
                  repeat (go_big_quiet_step (fail))
                  refine wpQuiet_nil ?_
                  intro _ hw'
                  obtain ⟨nq, hw''⟩ := hw'
                  subst hw''
                  go_wp2
                  refine wp_region_quiet_lit (by kernel_rfl) (by kernel_rfl) ?_
                  repeat (go_big_quiet_step (fail))
                  refine wpQuiet_nil ?_
                  intro _ hw'
                  obtain ⟨nq, hw''⟩ := hw'
                  subst hw''
                  go_wp2_with (first | (go_at_call 120; with_reducible refine (token_feed.calls _ _ _ A1.out).mono ?_; rintro e wf ⟨rfl, ⟨nf, rfl⟩⟩) | (go_at_call 128; refine (writeByte_calls w.heap.size w.heap.size (Lib.byteCells acc) (bt s (i : Nat)) _ ?bd HLEN.out ?lt).mono ?_; (case bd => exact (by repeat (first | (with_reducible first | exact HD.out | apply isB_drewN | apply isB_drew)))); (case lt => exact Nat.le_of_lt HD.out.lt0); rintro e w5 ⟨rfl, hd5, hb5⟩; have HX2 := Aside0.mk (Lx.lower (by repeat (first | (with_reducible first | exact HX.out | apply Lx.drewN | apply Lx.drew))) hb5 HG.out); have HK2 := Aside0.mk (Lk.lower (by repeat (first | (with_reducible first | exact HK.out | apply Lk.drewN | apply Lk.drew | apply Lk.set))) hb5 (Nat.le_refl _)); have HD2 := Aside0.mk (built1 (c := byteAt s i) (byteAt_val s i).symm hd5); clear hd5 hb5; clear HX HK HD; have HX := HX2; have HK := HK2; have HD := HD2; clear HX2 HK2 HD2; have hc0 := HX.out.s; have hc1 := HX.out.i; have hz1 := HX.out.fz))
                  have hc0 := HX.out.s
                  have hc1 := HX.out.i
                  have hz1 := HX.out.fz
                  go_wp2
                  go_roundg k2
                  case measure => omega
                  case rel => exact ⟨i + 1, acc ++ [byteAt s i], HI2, A4, ⟨Lx.setv (by repeat (first | (with_reducible first | exact HX.out | apply Lx.drewN | apply Lx.drew))) (by omega)⟩, ⟨(by repeat (first | (with_reducible first | exact HK.out | apply Lk.drewN | apply Lk.drew | apply Lk.set)))⟩, ⟨isB_set (by repeat (first | (with_reducible first | exact HD.out | apply isB_drewN | apply isB_drew))) HG.out⟩⟩
                · rw [if_neg h3] at hf
                  cases hf
          · rw [if_pos rfl] at hf
            cases hf
      · rw [if_neg hlt] at hf
        cases hf
end Go.Proofs.YtofdhdafabmhmaaGreatDoor.Giv
end
section
namespace Go.Proofs.YtofdhdafabmhmaaGreatDoor.Giv
open Go.RowKit Go.Proofs.YtofdhdafabmhmaaGreatDoorW.PrintWords Go.Proofs.YtofdhdafabmhmaaGreatDoorW.PrintLast Go.Proofs.YtofdhdafabmhmaaGreatDoorW.PrintMore Go.Proofs.YtofdhdafabmhmaaGreatDoor.PLt
open Go.Proofs.YtofdhdafabmhmaaGreatDoor.Opn Go.BigFrame
set_option linter.unusedVariables false
set_option linter.unusedSimpArgs false
/-- A word's block. -/
def Tk (W : World) (b : Nat) (k a : Int) (t n : ByteArray) : Prop := W.heap[b]? = some (.cells #[.int .i64 k, .int .i64 a, .string t, .string n] 62 (0, 0))
section
variable {W W' : World} {b g B : Nat} {k a : Int} {t n : ByteArray}
theorem Tk.c0 (h : Tk W b k a t n) : W.cell? ⟨b, 0, none⟩ = some (.int .i64 k) := (blk_cell h 0).trans rfl
theorem Tk.c1 (h : Tk W b k a t n) : W.cell? ⟨b, 1, none⟩ = some (.int .i64 a) := (blk_cell h 1).trans rfl
theorem Tk.c2 (h : Tk W b k a t n) : W.cell? ⟨b, 2, none⟩ = some (.string t) := (blk_cell h 2).trans rfl
theorem Tk.c3 (h : Tk W b k a t n) : W.cell? ⟨b, 3, none⟩ = some (.string n) := (blk_cell h 3).trans rfl
theorem Tk.fz (h : Tk W b k a t n) (i : Nat) : W.frozen? ⟨b, i, none⟩ = false := blk_frozen h i
theorem Tk.lt (h : Tk W b k a t n) : b < W.heap.size := (Array.getElem?_eq_some_iff.1 h).1
theorem Tk.drewN (h : Tk W b k a t n) (m : Nat) : Tk (W.drewN m) b k a t n := h
theorem Tk.drew (h : Tk W b k a t n) : Tk W.drew b k a t n := h
theorem Tk.call (h : Tk W b k a t n) (hb : Below W.heap.size W W') : Tk W' b k a t n := blk_below h hb
theorem Tk.lk (h : Tk W b k a t n) (hk : Lk g W W') (hg : b ≠ g) : Tk W' b k a t n := hk.at h hg
theorem Tk.far (h : Tk W b k a t n) (hg : b ≠ g) (o : Nat) (v : Value) : Tk (W.setCell ⟨g, o, none⟩ v) b k a t n := blk_far h (show b ≠ g from hg) _
theorem Tk.set0 (h : Tk W b k a t n) (v : Int) : Tk (W.setCell ⟨b, 0, none⟩ (.int .i64 v)) b v a t n := blk_put h 0 _ rfl
theorem Tk.set1 (h : Tk W b k a t n) (v : Int) : Tk (W.setCell ⟨b, 1, none⟩ (.int .i64 v)) b k v t n := blk_put h 1 _ rfl
theorem Tk.set2 (h : Tk W b k a t n) (v : ByteArray) : Tk (W.setCell ⟨b, 2, none⟩ (.string v)) b k a v n := blk_put h 2 _ rfl
theorem Tk.set3 (h : Tk W b k a t n) (v : ByteArray) : Tk (W.setCell ⟨b, 3, none⟩ (.string v)) b k a t v := blk_put h 3 _ rfl
theorem Lx.far {s : ByteArray} {i : Nat} (h : Lx W g s i) (hb : g ≠ b) (o : Nat) (v : Value) : Lx (W.setCell ⟨b, o, none⟩ v) g s i := blk_far h (show g ≠ b from hb) _
theorem tk_far (hg : b ≠ g) {o : Nat} {v : Value} (h : Tk W b k a t n) : Tk (W.setCell ⟨g, o, none⟩ v) b k a t n := h.far hg o v
theorem lx_far {s : ByteArray} {i : Nat} (hb : g ≠ b) {o : Nat} {v : Value} (h : Lx W g s i) : Lx (W.setCell ⟨b, o, none⟩ v) g s i := h.far hb o v
theorem Lk.setN {w : World} (h : Lk g w W) (hb : w.heap.size ≤ b) (o : Nat) (v : Value) : Lk g w (W.setCell ⟨b, o, none⟩ v) :=
  ⟨h.os, h.tape, h.output, by simpa [World.setCell] using h.size, fun j hj hg => (Below.heap_setCell W _ v j (show j ≠ b by omega)).trans (h.heap j hj hg)⟩
theorem lk_setN {w : World} (hb : w.heap.size ≤ b) {o : Nat} {v : Value} (h : Lk g w W) : Lk g w (W.setCell ⟨b, o, none⟩ v) := h.setN hb o v
end
/-- The next word: its kind, its meaning, its number, and where it ends (a string, what is wrong: none). -/
def wordF (k : Nat) (s : ByteArray) (i : Nat) : Option (Int × ByteArray × ByteArray × Nat) := if i < s.size then ((number_Scan.f (s.extract i s.size)).bind fun n =>
    if n > 0 then (if i + n.toNat ≤ s.size then ((isF token_lexer_word_1.f s (i + n.toNat)).bind fun p => if p = true then some (4, ⟨#[]⟩, s.extract i (i + n.toNat), i + n.toNat + 1)
      else ((begF k s (i + n.toNat)).bind fun b => if b = true then ((identF k s (i + n.toNat) []).bind fun t => if t.1.length ≤ 64 ∧ t.2 ≤ s.size then some (5, ⟨t.1.toArray⟩, s.extract i (i + n.toNat), t.2) else none) else some (3, ⟨#[]⟩, s.extract i (i + n.toNat), i + n.toNat))) else none)
    else ((begF k s i).bind fun b => if b = true then ((identF k s i []).bind fun t => if t.1.length ≤ 64 ∧ t.2 ≤ s.size then ((isF token_lexer_word_2.f s t.2).bind fun p => if p = true then some (2, ⟨t.1.toArray⟩, ⟨#[]⟩, t.2 + 1) else some (1, ⟨t.1.toArray⟩, ⟨#[]⟩, t.2)) else none)
      else (if bt s (i : Nat) = 34 ∨ bt s (i : Nat) = 39 then ((quotF k s (i + 1) [] (bt s (i : Nat))).bind fun t => if t.1.length ≤ 8192 ∧ t.2 ≤ s.size then some (6, ⟨t.1.toArray⟩, ⟨#[]⟩, t.2) else none) else ((strings_IndexByte.f (⟨#[44, 47, 58, 59, 123, 125, 91, 93, 40, 41]⟩ : ByteArray) (bt s (i : Nat))).bind fun q => if q ≥ 0 then some (7, s.extract i (i + 1), ⟨#[]⟩, i + 1) else none)))) else none
theorem wordF.mono : ∀ s i k, LeO (wordF k s i) (wordF (k + 1) s i) := by
  intro s i k
  unfold wordF
  repeat' first
      | (with_reducible exact begF.mono _ _ _)
      | (with_reducible exact identF.mono _ _ _ _)
      | (with_reducible exact quotF.mono _ _ _ _ _)
      | (with_reducible exact LeO.refl _)
      | (with_reducible exact LeO.none _)
      | (with_reducible refine LeO.ite ?_ ?_)
      | (with_reducible refine LeO.bind ?_ (fun _ => ?_))
def lexer_word.T4 : Bool × List (List Nat × List Nat) := (true, [([], []), ([0], [0]), ([1], [1]), ([2], [2]), ([], []), ([4], [4]), ([5], [5]), ([6], [6]), ([3, 7], [3, 7]), ([8], [8]), ([9, 9, 0, 1, 2, 3, 4, 5, 6, 7, 8, 9], [9])])
def lexer_word.B4 : List Nat := [0, 1, 3, 7, 0, 16, 48, 112, 255, 511, 1023]
theorem lexer_word.tab4 : rtab .any (opsOf Tryz.f85 4) = lexer_word.T4 := by kernel_rfl
theorem lexer_word.bits4 : waitsOk lexer_word.T4.2 lexer_word.B4 = true := by kernel_rfl
set_option maxHeartbeats 16000000 in
set_option maxRecDepth 100000 in
theorem word_calls (k : Nat) (s : ByteArray) (g i j : Nat) (kd : Int) (tx nm : ByteArray) (hs : s.size ≤ 140737488351232) (w : World) (h : Lx w g s i) (hf : wordF k s i = some (kd, tx, nm, j)) :
    Calls Tryz.prog 85 #[.pointer (some ⟨g, 0, none⟩)] w fun e w' => e = .returned (.agg #[.int .i64 kd, .int .i64 (i : Int), .string tx, .string nm]) ∧ Lx w' g s j ∧ Lk g w w' := by
  have hu := Tryz.underlying103
  have hut := Tryz.underlying9
  have huT := Tryz.underlying62
  have HS := Aside0.mk hs
  have HX := Aside0.mk h
  have HG := Aside0.mk (Array.getElem?_eq_some_iff.1 h).1
  clear h
  unfold wordF at hf
  by_cases hlt : i < s.size
  · rw [if_pos hlt] at hf
    obtain ⟨n, hn, hf⟩ := Option.bind_eq_some_iff.mp hf
    have A1 := Aside0.mk hn
    clear hn
    have q5 : ((i : Int) ≤ (s.size : Int)) = True := eq_true (by omega)
    have q0 : (0 ≤ (i : Int)) = True := eq_true (by omega)
    have q1 : ((i : Int) < (s.size : Int)) = True := eq_true (by omega)
    have q2 : decide ((i : Int) < (s.size : Int)) = true := decide_eq_true (by omega)
    have q3 : decide (i < s.size) = true := decide_eq_true hlt
    have q4 : (i < s.size) = True := eq_true hlt
    have hx : ∀ h : i < s.size, ((s[i].toNat : Nat) : Int) = bt s (i : Nat) := fun h => bt_at s (i : Int) (by simpa using h)
    have HLT := Aside0.mk hlt
    have HWI := Aside0.mk (show IntKind.i64.wrap (i : Int) = (i : Int) from wrapE i 0 (by omega))
    have HII := Aside0.mk (show i ≤ s.size by omega)
    by_cases h1 : n > 0
    · rw [if_pos h1] at hf
      have p1 : decide (n > 0) = true := decide_eq_true h1
      have p2 : decide (0 < n) = true := decide_eq_true h1
      by_cases h2 : i + n.toNat ≤ s.size
      · rw [if_pos h2] at hf
        obtain ⟨m, hm⟩ : ∃ m, i + n.toNat = m := ⟨_, rfl⟩
        have hwn : IntKind.i64.wrap ((i : Int) + n) = (m : Int) := by rw [i64_w]; unfold wrap64; omega
        have hwn2 : wrap64 ((i : Int) + n) = (m : Int) := by unfold wrap64; omega
        have q6 : ((i : Int) ≤ (m : Int)) = True := eq_true (by omega)
        have q7 : ((m : Int) ≤ (s.size : Int)) = True := eq_true (by omega)
        have q8 : (i ≤ m) = True := eq_true (by omega)
        have q9 : (m ≤ s.size) = True := eq_true (by omega)
        have HM := Aside0.mk (show m ≤ s.size by omega)
        rw [hm] at hf
        clear hlt hs h1 h2 hm
        go_enter Tryz.func85, Tryz.ntmps85
        go_wp2_with (first | ((with_reducible refine gate_dst (N := 2) rfl ?_); (try (refine gate_guard (by rfl) ?_; dsimp only)); refine box_event ?hg (N := 2) ?hd (cs := #[.int .i64 0, .int .i64 0, .string (⟨#[]⟩ : ByteArray), .string (⟨#[]⟩ : ByteArray)]) (t := 62) ?hr ?_; (case hd => rfl); (case hg => rfl); (case hr => first | (go_simp; done) | (go_simp; rfl)); intro b2 hg w2 hbox hb; have HG2 := Aside0.mk hg; have K2 := Aside0.mk (show Tk w2 b2 0 0 ⟨#[]⟩ ⟨#[]⟩ from hbox); have HX2 := Aside0.mk (Lx.below HX.out hb); have HK2 := Aside0.mk (Lk.of_below (g := g) hb); clear hg hbox hb HX; have HX := HX2; have HK := HK2; clear HX2 HK2; have hc0 := HX.out.s; have hc1 := HX.out.i; have hz1 := HX.out.fz) | ((with_reducible refine gate_dst (N := 3) rfl ?_); (try (refine gate_guard (by rfl) ?_; dsimp only)); refine box_event ?hg (N := 3) ?hd (cs := #[.int .i64 0, .int .i64 0, .string (⟨#[]⟩ : ByteArray), .string (⟨#[]⟩ : ByteArray)]) (t := 62) ?hr ?_; (case hd => rfl); (case hg => rfl); (case hr => first | (go_simp; done) | (go_simp; rfl)); intro b3 hg w3 hbox hb; have HG3 := Aside0.mk hg; have K2L := Aside0.mk (Tk.lt K2.out); have K3 := Aside0.mk (show Tk w3 b3 0 0 ⟨#[]⟩ ⟨#[]⟩ from hbox); have HX2 := Aside0.mk (Lx.below HX.out hb); have HK2 := Aside0.mk (Lk.call HK.out hb); have K22 := Aside0.mk (Tk.call K2.out hb); clear hg hbox hb HX HK K2; have HX := HX2; have HK := HK2; have K2 := K22; clear HX2 HK2 K22; have ht0 := K3.out.c0; have ht1 := K3.out.c1; have ht2 := K3.out.c2; have ht3 := K3.out.c3; have hf0 := K3.out.fz 0; have hf1 := K3.out.fz 1; have hf2 := K3.out.fz 2; have hf3 := K3.out.fz 3))
        have HS2 := Aside0.mk (show w.heap.size ≤ b2 by rw [HG2.out]; exact Nat.le_refl _)
        have HS3 := Aside0.mk (show b2 < b3 by rw [HG3.out]; exact K2L.out)
        have N1 := Aside0.mk (show g ≠ b2 by have := HS2.out; have := HG.out; omega)
        have N2 := Aside0.mk (show g ≠ b3 by have := HS2.out; have := HS3.out; have := HG.out; omega)
        have N3 := Aside0.mk (show b2 ≠ b3 by have := HS3.out; omega)
        have HB3 := Aside0.mk (show w.heap.size ≤ b3 by have := HS2.out; have := HS3.out; omega)
        have HX4 : Aside0 (Lx ((((w3.setCell ⟨b3, 0, none⟩ (.int .i64 0)).setCell ⟨b3, 1, none⟩ (.int .i64 (i : Int))).setCell ⟨b3, 2, none⟩ (.string (⟨#[]⟩ : ByteArray))).setCell ⟨b3, 3, none⟩ (.string (⟨#[]⟩ : ByteArray))) g s i) := ⟨Lx.far (Lx.far (Lx.far (Lx.far HX.out N2.out _ _) N2.out _ _) N2.out _ _) N2.out _ _⟩
        have HK4 : Aside0 (Lk g w ((((w3.setCell ⟨b3, 0, none⟩ (.int .i64 0)).setCell ⟨b3, 1, none⟩ (.int .i64 (i : Int))).setCell ⟨b3, 2, none⟩ (.string (⟨#[]⟩ : ByteArray))).setCell ⟨b3, 3, none⟩ (.string (⟨#[]⟩ : ByteArray)))) := ⟨Lk.setN (Lk.setN (Lk.setN (Lk.setN HK.out HB3.out _ _) HB3.out _ _) HB3.out _ _) HB3.out _ _⟩
        have K24 : Aside0 (Tk ((((w3.setCell ⟨b3, 0, none⟩ (.int .i64 0)).setCell ⟨b3, 1, none⟩ (.int .i64 (i : Int))).setCell ⟨b3, 2, none⟩ (.string (⟨#[]⟩ : ByteArray))).setCell ⟨b3, 3, none⟩ (.string (⟨#[]⟩ : ByteArray))) b2 0 0 ⟨#[]⟩ ⟨#[]⟩) := ⟨Tk.far (Tk.far (Tk.far (Tk.far K2.out N3.out _ _) N3.out _ _) N3.out _ _) N3.out _ _⟩
        have K34 : Aside0 (Tk ((((w3.setCell ⟨b3, 0, none⟩ (.int .i64 0)).setCell ⟨b3, 1, none⟩ (.int .i64 (i : Int))).setCell ⟨b3, 2, none⟩ (.string (⟨#[]⟩ : ByteArray))).setCell ⟨b3, 3, none⟩ (.string (⟨#[]⟩ : ByteArray))) b3 0 (i : Int) ⟨#[]⟩ ⟨#[]⟩) := ⟨Tk.set3 (Tk.set2 (Tk.set1 (Tk.set0 K3.out _) _) _) _⟩
        clear HX HK K2 K3 hc0 hc1 hz1 ht0 ht1 ht2 ht3 hf0 hf1 hf2 hf3
        generalize ((((w3.setCell ⟨b3, 0, none⟩ (.int .i64 0)).setCell ⟨b3, 1, none⟩ (.int .i64 (i : Int))).setCell ⟨b3, 2, none⟩ (.string (⟨#[]⟩ : ByteArray))).setCell ⟨b3, 3, none⟩ (.string (⟨#[]⟩ : ByteArray))) = w4 at HX4 HK4 K24 K34 ⊢
        have hc0 := HX4.out.s
        have hc1 := HX4.out.i
        go_wp2
        refine wp_region_quiet_lit (by kernel_rfl) (by kernel_rfl) ?_
        repeat (go_big_quiet_step (fail))
        refine wpQuiet_nil ?_
        intro _ hw'
        obtain ⟨nq, hw''⟩ := hw'
        subst hw''
        go_wp2
        have HX5 : Aside0 (Lx (w4.drewN nq).drew g s i) := ⟨HX4.out⟩
        have HK5 : Aside0 (Lk g w (w4.drewN nq).drew) := ⟨(HK4.out.drewN nq).drew⟩
        have K25 : Aside0 (Tk (w4.drewN nq).drew b2 0 0 ⟨#[]⟩ ⟨#[]⟩) := ⟨K24.out⟩
        have K35 : Aside0 (Tk (w4.drewN nq).drew b3 0 (i : Int) ⟨#[]⟩ ⟨#[]⟩) := ⟨K34.out⟩
        clear HX4 HK4 K24 K34 hc0 hc1
        refine start_ (n := 11) (S := (fun w' => w'.cell? ⟨g, 0, none⟩ = some (.string s) ∧ w'.cell? ⟨g, 1, none⟩ = some (.int .i64 (i : Int)))) (ds := []) #[false, false, false, false, false, false, false, false, false, false, false] (by kernel_rfl) rfl rfl ⟨HX5.out.s, HX5.out.i⟩ (fun hHeld => ?_)
        refine with_tabW lexer_word.tab4 lexer_word.bits4 (fun HT_ HW_ => ?_)
        generalize (w4.drewN nq).drew = w5 at HX5 HK5 K25 K35 hHeld ⊢
        refine pure_ (i := 0) (N := (some 21)) (v := ?_) (a' := ?_) #[true, false, false, false, false, false, false, false, false, false, false] rfl rfl (any_of HT_.out (by kernel_rfl)) (fun _ _ _ h => h) (Or.inl ⟨by rfl, ?_⟩) ?_ ?_
        rotate_left
        ·intro w'
         go_simp
         with_reducible rfl
        rotate_left
        ·simp only [Act.put, List.setIfInBounds_toArray, List.set_cons_zero, List.set_cons_succ, i64_w, i32_w]
         rfl
        refine pure_ (i := 1) (N := (some 22)) (v := ?_) (a' := ?_) #[true, true, false, false, false, false, false, false, false, false, false] rfl rfl (any_of HT_.out (by kernel_rfl)) (fun _ _ _ h => h) (Or.inl ⟨by rfl, ?_⟩) ?_ ?_
        rotate_left
        ·intro w'
         go_simp
         with_reducible rfl
        rotate_left
        ·simp only [Act.put, List.setIfInBounds_toArray, List.set_cons_zero, List.set_cons_succ, i64_w, i32_w]
         rfl
        refine pure_ (i := 2) (N := (some 23)) (v := ?_) (a' := ?_) #[true, true, true, false, false, false, false, false, false, false, false] rfl rfl (any_of HT_.out (by kernel_rfl)) (fun _ _ _ h => h) (Or.inl ⟨by rfl, ?_⟩) ?_ ?_
        rotate_left
        ·intro w'
         go_simp
         with_reducible rfl
        rotate_left
        ·simp only [Act.put, List.setIfInBounds_toArray, List.set_cons_zero, List.set_cons_succ, i64_w, i32_w]
         rfl
        refine take_ (i := 3) (N := (some 24)) (v := ?_) (a' := ?_) #[true, true, true, true, false, false, false, false, false, false, false] rfl rfl (take_ofW HT_.out HW_.out (by kernel_rfl)) (fun _ _ _ h => h) (Or.inl ⟨by rfl, ?_⟩) hHeld ?_ ?_
        rotate_left
        ·rintro w' ⟨s0, s1⟩
         go_simp
         with_reducible rfl
        rotate_left
        ·simp only [Act.put, List.setIfInBounds_toArray, List.set_cons_zero, List.set_cons_succ, i64_w, i32_w]
         rfl
        refine pure_ (i := 4) (N := (some 25)) (v := ?_) (a' := ?_) #[true, true, true, true, true, false, false, false, false, false, false] rfl rfl (any_of HT_.out (by kernel_rfl)) (fun _ _ _ h => h) (Or.inl ⟨by rfl, ?_⟩) ?_ ?_
        rotate_left
        ·intro w'
         go_simp
         with_reducible rfl
        rotate_left
        ·simp only [Act.put, List.setIfInBounds_toArray, List.set_cons_zero, List.set_cons_succ, i64_w, i32_w]
         rfl
        refine pure_ (i := 5) (N := (some 26)) (v := ?_) (a' := ?_) #[true, true, true, true, true, true, false, false, false, false, false] rfl rfl (any_of HT_.out (by kernel_rfl)) (fun _ _ _ h => h) (Or.inl ⟨by rfl, ?_⟩) ?_ ?_
        rotate_left
        ·intro w'
         go_simp
         with_reducible rfl
        rotate_left
        ·simp only [Act.put, List.setIfInBounds_toArray, List.set_cons_zero, List.set_cons_succ, i64_w, i32_w]
         rfl
        refine pure_ (i := 6) (N := (some 27)) (v := ?_) (a' := ?_) #[true, true, true, true, true, true, true, false, false, false, false] rfl rfl (any_of HT_.out (by kernel_rfl)) (fun _ _ _ h => h) (Or.inl ⟨by rfl, ?_⟩) ?_ ?_
        rotate_left
        ·intro w'
         go_simp
         with_reducible rfl
        rotate_left
        ·simp only [Act.put, List.setIfInBounds_toArray, List.set_cons_zero, List.set_cons_succ, i64_w, i32_w]
         rfl
        refine take_ (i := 7) (N := (some 28)) (v := ?_) (a' := ?_) #[true, true, true, true, true, true, true, true, false, false, false] rfl rfl (take_ofW HT_.out HW_.out (by kernel_rfl)) (fun _ _ _ h => h) (Or.inl ⟨by rfl, ?_⟩) hHeld ?_ ?_
        rotate_left
        ·rintro w' ⟨s0, s1⟩
         go_simp
         with_reducible rfl
        rotate_left
        ·simp only [Act.put, List.setIfInBounds_toArray, List.set_cons_zero, List.set_cons_succ, i64_w, i32_w]
         rfl
        refine pure_ (i := 8) (N := (some 29)) (v := ?_) (a' := ?_) #[true, true, true, true, true, true, true, true, true, false, false] rfl rfl (any_of HT_.out (by kernel_rfl)) (fun _ _ _ h => h) (Or.inl ⟨by rfl, ?_⟩) ?_ ?_
        rotate_left
        ·intro w'
         go_simp
         with_reducible rfl
        rotate_left
        ·simp only [Act.put, List.setIfInBounds_toArray, List.set_cons_zero, List.set_cons_succ, i64_w, i32_w]
         rfl
        refine one_ (i := 9) (N := (some 30)) #[true, true, true, true, true, true, true, true, true, true, false] rfl rfl (one_of HT_.out (by kernel_rfl)) (by decide) (fun K hK => ?_)
        refine goes_ Tryz.func101 (by kernel_rfl) rfl #[.string (s.extract i s.size)] (by rfl) rfl rfl goa_ ?_
        refine (number_Scan.calls _ n _ A1.out).mono ?_
        rintro e w6 ⟨rfl, hb⟩
        refine ⟨_, rfl, ?_⟩
        have HX := Aside0.mk (HX5.out.below hb)
        have HK := Aside0.mk (HK5.out.call hb)
        have K2 := Aside0.mk (K25.out.call hb)
        have K3 := Aside0.mk (K35.out.call hb)
        clear hb HX5 HK5 K25 K35
        refine hK.out _ _ ⟨HX.out.s, HX.out.i⟩ (fun hHeld => ?_)
        clear hK K
        refine norm_ (a' := ?_) ?_ ?_
        rotate_left
        ·show Act.put _ (some 30) _ = _
         simp only [Act.put, List.setIfInBounds_toArray, List.set_cons_zero, List.set_cons_succ, i64_w, i32_w]
         rfl
        refine pure_ (i := 10) (N := (some 6)) (v := ?_) (a' := ?_) #[true, true, true, true, true, true, true, true, true, true, true] rfl rfl (any_of HT_.out (by kernel_rfl)) (fun _ _ _ h => h) (Or.inl ⟨by rfl, ?_⟩) ?_ ?_
        rotate_left
        ·intro w'
         go_simp
         with_reducible rfl
        rotate_left
        ·simp only [Act.put, List.setIfInBounds_toArray, List.set_cons_zero, List.set_cons_succ, i64_w, i32_w]
         rfl
        refine done_ (done_of HT_.out (by kernel_rfl)) ?_
        clear hHeld HT_ HW_
        have hc0 := HX.out.s
        have hc1 := HX.out.i
        have hz1 := HX.out.fz
        have ht0 := K3.out.c0
        have ht1 := K3.out.c1
        have ht2 := K3.out.c2
        have ht3 := K3.out.c3
        have hf0 := K3.out.fz 0
        have hf1 := K3.out.fz 1
        have hf2 := K3.out.fz 2
        have hf3 := K3.out.fz 3
        have hne := N2.out
        have hne2 := N2.out.symm
        have hne3 := N1.out
        have hne4 := N1.out.symm
        have hne5 := N3.out
        have hne6 := N3.out.symm
        go_wp2
        go_region
        have HXn : Aside0 (Lx (((w6.setCell ⟨b3, 0, none⟩ (.int .i64 3)).setCell ⟨b3, 3, none⟩ (.string (s.extract i m))).drew) g s i) := ⟨(Lx.far (Lx.far HX.out N2.out _ _) N2.out _ _).drew⟩
        have HKn : Aside0 (Lk g w (((w6.setCell ⟨b3, 0, none⟩ (.int .i64 3)).setCell ⟨b3, 3, none⟩ (.string (s.extract i m))).drew)) := ⟨(Lk.setN (Lk.setN HK.out HB3.out _ _) HB3.out _ _).drew⟩
        have K2n : Aside0 (Tk (((w6.setCell ⟨b3, 0, none⟩ (.int .i64 3)).setCell ⟨b3, 3, none⟩ (.string (s.extract i m))).drew) b2 0 0 ⟨#[]⟩ ⟨#[]⟩) := ⟨(Tk.far (Tk.far K2.out N3.out _ _) N3.out _ _).drew⟩
        have K3n : Aside0 (Tk (((w6.setCell ⟨b3, 0, none⟩ (.int .i64 3)).setCell ⟨b3, 3, none⟩ (.string (s.extract i m))).drew) b3 3 (i : Int) ⟨#[]⟩ (s.extract i m)) := ⟨(Tk.set3 (Tk.set0 K3.out _) _).drew⟩
        clear HX HK K2 K3 hc0 hc1 hz1 ht0 ht1 ht2 ht3 hf0 hf1 hf2 hf3
        have HX := HXn
        have HK := HKn
        have K2 := K2n
        have K3 := K3n
        clear HXn HKn K2n K3n
        generalize (((w6.setCell ⟨b3, 0, none⟩ (.int .i64 3)).setCell ⟨b3, 3, none⟩ (.string (s.extract i m))).drew) = w7 at HX HK K2 K3 ⊢
        have hc0 := HX.out.s
        have hc1 := HX.out.i
        have hz1 := HX.out.fz
        have ht0 := K3.out.c0
        have ht1 := K3.out.c1
        have ht2 := K3.out.c2
        have ht3 := K3.out.c3
        have hf0 := K3.out.fz 0
        have hf1 := K3.out.fz 1
        have hf2 := K3.out.fz 2
        have hf3 := K3.out.fz 3
        have hr0 := K2.out.c0
        have hr1 := K2.out.c1
        have hr2 := K2.out.c2
        have hr3 := K2.out.c3
        have hs0 := K2.out.fz 0
        have hs1 := K2.out.fz 1
        have hs2 := K2.out.fz 2
        have hs3 := K2.out.fz 3
        have HWM := Aside0.mk (show IntKind.i64.wrap (m : Int) = (m : Int) from wrapE m 0 (by have := HM.out; have := HS.out; omega))
        obtain ⟨p, hp, hf⟩ := Option.bind_eq_some_iff.mp hf
        have A2 := Aside0.mk hp
        clear hp
        cases p
        · rw [if_neg (by decide)] at hf
          obtain ⟨b, hb, hf⟩ := Option.bind_eq_some_iff.mp hf
          have A3 := Aside0.mk hb
          clear hb
          cases b
          · rw [if_neg (by decide)] at hf
            obtain ⟨rfl, rfl, rfl, rfl⟩ : (3 : Int) = kd ∧ (⟨#[]⟩ : ByteArray) = tx ∧ s.extract i m = nm ∧ m = j := by
              have h := Option.some.inj hf
              simp only [Prod.mk.injEq] at h
              exact h
            clear hf
            go_wp2_with (first | (go_at_call 102; with_reducible refine (is_pct0 s g m m HS.out HWM.out _ _ ?lx A2.out).mono ?_; (case lx => exact (by repeat (first | (with_reducible first | exact HX.out | apply Lx.drewN | apply Lx.set)))); rintro e wi ⟨rfl, ⟨ni, rfl⟩⟩) | (go_at_call 104; with_reducible refine (begins_calls k s g m HS.out HM.out _ _ ?lx A3.out).mono ?_; (case lx => exact (by repeat (first | (with_reducible first | exact HX.out | apply Lx.drewN | apply Lx.drew | apply Lx.set | apply lx_far N2.out)))); rintro e wb ⟨rfl, hb⟩; have HXn := Aside0.mk (Lx.below (by repeat (first | (with_reducible first | exact HX.out | apply Lx.drewN | apply Lx.drew | apply Lx.set | apply lx_far N2.out))) hb); have HKn := Aside0.mk (Lk.call (by repeat (first | (with_reducible first | exact HK.out | apply Lk.drewN | apply Lk.drew | apply Lk.set | apply lk_setN HB3.out))) hb); have K2n := Aside0.mk (Tk.call (by repeat (first | (with_reducible first | exact K2.out | apply Tk.drewN | apply Tk.drew | apply tk_far N1.out.symm | apply tk_far N3.out))) hb); have K3n := Aside0.mk (Tk.call (by repeat (first | (with_reducible first | exact K3.out | apply Tk.drewN | apply Tk.drew | apply tk_far N2.out.symm))) hb); clear hb; clear HX HK K2 K3; have HX := HXn; have HK := HKn; have K2 := K2n; have K3 := K3n; clear HXn HKn K2n K3n; have hc0 := HX.out.s; have hc1 := HX.out.i; have hz1 := HX.out.fz; have ht0 := K3.out.c0; have ht1 := K3.out.c1; have ht2 := K3.out.c2; have ht3 := K3.out.c3; have hf0 := K3.out.fz 0; have hf1 := K3.out.fz 1; have hf2 := K3.out.fz 2; have hf3 := K3.out.fz 3; have hr0 := K2.out.c0; have hr1 := K2.out.c1; have hr2 := K2.out.c2; have hr3 := K2.out.c3; have hs0 := K2.out.fz 0; have hs1 := K2.out.fz 1; have hs2 := K2.out.fz 2; have hs3 := K2.out.fz 3))
            refine bodyPost_ret (results_cell_row rfl _ _ b2 62 #[.int .i64 3, .int .i64 (i : Int), .string (⟨#[]⟩ : ByteArray), .string (s.extract i m)] (0, 0) _ rfl (show _ from Tk.set3 (Tk.set2 (Tk.set1 (Tk.set0 (by repeat (first | (with_reducible first | exact K2.out | apply Tk.drewN | apply Tk.drew | apply tk_far N1.out.symm | apply tk_far N3.out))) _) _) _) _) huT rfl (by kernel_rfl)) rfl ?_
            exact ⟨rfl, Lx.far (Lx.far (Lx.far (Lx.far (by repeat (first | (with_reducible first | exact HX.out | apply Lx.drewN | apply Lx.drew | apply Lx.set | apply lx_far N2.out))) N1.out _ _) N1.out _ _) N1.out _ _) N1.out _ _, Lk.setN (Lk.setN (Lk.setN (Lk.setN (by repeat (first | (with_reducible first | exact HK.out | apply Lk.drewN | apply Lk.drew | apply Lk.set | apply lk_setN HB3.out))) HS2.out _ _) HS2.out _ _) HS2.out _ _) HS2.out _ _⟩
          · rw [if_pos rfl] at hf
            obtain ⟨⟨l, e⟩, ht, hf⟩ := Option.bind_eq_some_iff.mp hf
            have A4 := Aside0.mk ht
            clear ht
            try dsimp only at hf
            by_cases h3 : l.length ≤ 64 ∧ e ≤ s.size
            · rw [if_pos h3] at hf
              obtain ⟨x, hx⟩ : ∃ x : ByteArray, (⟨l.toArray⟩ : ByteArray) = x := ⟨_, rfl⟩
              have HTX := Aside0.mk hx
              have hxs : x.size ≤ 64 := by
                rw [← hx]
                show l.toArray.size ≤ 64
                rw [List.size_toArray]
                exact h3.1
              have p8 : decide ((x.size : Int) > 64) = false := decide_eq_false (by omega)
              have p9 : decide (64 < (x.size : Int)) = false := decide_eq_false (by omega)
              rw [hx] at hf
              clear h3 hxs hx
              obtain ⟨rfl, rfl, rfl, rfl⟩ : (5 : Int) = kd ∧ x = tx ∧ s.extract i m = nm ∧ e = j := by
                have h := Option.some.inj hf
                simp only [Prod.mk.injEq] at h
                exact h
              clear hf
              go_wp2_with (first | (go_at_call 102; with_reducible refine (is_pct0 s g m m HS.out HWM.out _ _ ?lx A2.out).mono ?_; (case lx => exact (by repeat (first | (with_reducible first | exact HX.out | apply Lx.drewN | apply Lx.set)))); rintro e wi ⟨rfl, ⟨ni, rfl⟩⟩) | (go_at_call 104; with_reducible refine (begins_calls k s g m HS.out HM.out _ _ ?lx A3.out).mono ?_; (case lx => exact (by repeat (first | (with_reducible first | exact HX.out | apply Lx.drewN | apply Lx.drew | apply Lx.set | apply lx_far N2.out)))); rintro e wb ⟨rfl, hb⟩; have HXn := Aside0.mk (Lx.below (by repeat (first | (with_reducible first | exact HX.out | apply Lx.drewN | apply Lx.drew | apply Lx.set | apply lx_far N2.out))) hb); have HKn := Aside0.mk (Lk.call (by repeat (first | (with_reducible first | exact HK.out | apply Lk.drewN | apply Lk.drew | apply Lk.set | apply lk_setN HB3.out))) hb); have K2n := Aside0.mk (Tk.call (by repeat (first | (with_reducible first | exact K2.out | apply Tk.drewN | apply Tk.drew | apply tk_far N1.out.symm | apply tk_far N3.out))) hb); have K3n := Aside0.mk (Tk.call (by repeat (first | (with_reducible first | exact K3.out | apply Tk.drewN | apply Tk.drew | apply tk_far N2.out.symm))) hb); clear hb; clear HX HK K2 K3; have HX := HXn; have HK := HKn; have K2 := K2n; have K3 := K3n; clear HXn HKn K2n K3n; have hc0 := HX.out.s; have hc1 := HX.out.i; have hz1 := HX.out.fz; have ht0 := K3.out.c0; have ht1 := K3.out.c1; have ht2 := K3.out.c2; have ht3 := K3.out.c3; have hf0 := K3.out.fz 0; have hf1 := K3.out.fz 1; have hf2 := K3.out.fz 2; have hf3 := K3.out.fz 3; have hr0 := K2.out.c0; have hr1 := K2.out.c1; have hr2 := K2.out.c2; have hr3 := K2.out.c3; have hs0 := K2.out.fz 0; have hs1 := K2.out.fz 1; have hs2 := K2.out.fz 2; have hs3 := K2.out.fz 3) | (go_at_call 105; with_reducible refine (ident_calls k s g m _ _ HS.out HM.out _ ?lx A4.out).mono ?_; (case lx => exact (by repeat (first | (with_reducible first | exact HX.out | apply Lx.drewN | apply Lx.drew | apply Lx.set | apply lx_far N2.out)))); rintro e wd ⟨rfl, hx, hk⟩; rw [HTX.out]; have HXn := Aside0.mk hx; have HKn := Aside0.mk (Lk.trans (by repeat (first | (with_reducible first | exact HK.out | apply Lk.drewN | apply Lk.drew | apply Lk.set | apply lk_setN HB3.out))) hk); have K2n := Aside0.mk (Tk.lk (by repeat (first | (with_reducible first | exact K2.out | apply Tk.drewN | apply Tk.drew | apply tk_far N1.out.symm | apply tk_far N3.out))) hk N1.out.symm); have K3n := Aside0.mk (Tk.lk (by repeat (first | (with_reducible first | exact K3.out | apply Tk.drewN | apply Tk.drew | apply tk_far N2.out.symm))) hk N2.out.symm); clear hx hk; clear HX HK K2 K3; have HX := HXn; have HK := HKn; have K2 := K2n; have K3 := K3n; clear HXn HKn K2n K3n; have hc0 := HX.out.s; have hc1 := HX.out.i; have hz1 := HX.out.fz; have ht0 := K3.out.c0; have ht1 := K3.out.c1; have ht2 := K3.out.c2; have ht3 := K3.out.c3; have hf0 := K3.out.fz 0; have hf1 := K3.out.fz 1; have hf2 := K3.out.fz 2; have hf3 := K3.out.fz 3; have hr0 := K2.out.c0; have hr1 := K2.out.c1; have hr2 := K2.out.c2; have hr3 := K2.out.c3; have hs0 := K2.out.fz 0; have hs1 := K2.out.fz 1; have hs2 := K2.out.fz 2; have hs3 := K2.out.fz 3))
              refine bodyPost_ret (results_cell_row rfl _ _ b2 62 #[.int .i64 5, .int .i64 (i : Int), .string x, .string (s.extract i m)] (0, 0) _ rfl (show _ from Tk.set3 (Tk.set2 (Tk.set1 (Tk.set0 (by repeat (first | (with_reducible first | exact K2.out | apply Tk.drewN | apply Tk.drew | apply tk_far N1.out.symm | apply tk_far N3.out))) _) _) _) _) huT rfl (by kernel_rfl)) rfl ?_
              exact ⟨rfl, Lx.far (Lx.far (Lx.far (Lx.far (by repeat (first | (with_reducible first | exact HX.out | apply Lx.drewN | apply Lx.drew | apply Lx.set | apply lx_far N2.out))) N1.out _ _) N1.out _ _) N1.out _ _) N1.out _ _, Lk.setN (Lk.setN (Lk.setN (Lk.setN (by repeat (first | (with_reducible first | exact HK.out | apply Lk.drewN | apply Lk.drew | apply Lk.set | apply lk_setN HB3.out))) HS2.out _ _) HS2.out _ _) HS2.out _ _) HS2.out _ _⟩
            · rw [if_neg h3] at hf
              cases hf
        · rw [if_pos rfl] at hf
          have hwm1 : wrap64 ((m : Int) + 1) = ((m + 1 : Nat) : Int) := by have := HM.out; have := HS.out; unfold wrap64; omega
          obtain ⟨rfl, rfl, rfl, rfl⟩ : (4 : Int) = kd ∧ (⟨#[]⟩ : ByteArray) = tx ∧ s.extract i m = nm ∧ m + 1 = j := by
            have h := Option.some.inj hf
            simp only [Prod.mk.injEq] at h
            exact h
          clear hf
          go_wp2_with (first | (go_at_call 102; with_reducible refine (is_pct0 s g m m HS.out HWM.out _ _ ?lx A2.out).mono ?_; (case lx => exact (by repeat (first | (with_reducible first | exact HX.out | apply Lx.drewN | apply Lx.set)))); rintro e wi ⟨rfl, ⟨ni, rfl⟩⟩))
          refine bodyPost_ret (results_cell_row rfl _ _ b2 62 #[.int .i64 4, .int .i64 (i : Int), .string (⟨#[]⟩ : ByteArray), .string (s.extract i m)] (0, 0) _ rfl (show _ from Tk.set3 (Tk.set2 (Tk.set1 (Tk.set0 (by repeat (first | (with_reducible first | exact K2.out | apply Tk.drewN | apply Tk.drew | apply tk_far N1.out.symm | apply tk_far N3.out))) _) _) _) _) huT rfl (by kernel_rfl)) rfl ?_
          exact ⟨rfl, Lx.far (Lx.far (Lx.far (Lx.far (Lx.setv (by repeat (first | (with_reducible first | exact HX.out | apply Lx.drewN | apply Lx.drew | apply Lx.set | apply lx_far N2.out))) (by omega)) N1.out _ _) N1.out _ _) N1.out _ _) N1.out _ _, Lk.setN (Lk.setN (Lk.setN (Lk.setN (by repeat (first | (with_reducible first | exact HK.out | apply Lk.drewN | apply Lk.drew | apply Lk.set | apply lk_setN HB3.out))) HS2.out _ _) HS2.out _ _) HS2.out _ _) HS2.out _ _⟩
      · rw [if_neg h2] at hf
        cases hf
    · rw [if_neg h1] at hf
      have p1 : decide (n > 0) = false := decide_eq_false h1
      have p2 : decide (0 < n) = false := decide_eq_false h1
      clear hlt hs h1
      obtain ⟨b, hb, hf⟩ := Option.bind_eq_some_iff.mp hf
      have A2 := Aside0.mk hb
      clear hb
      cases b
      · rw [if_neg (by decide)] at hf
        by_cases h3 : bt s (i : Nat) = 34 ∨ bt s (i : Nat) = 39
        · rw [if_pos h3] at hf
          obtain ⟨⟨l, e⟩, ht, hf⟩ := Option.bind_eq_some_iff.mp hf
          have A4 := Aside0.mk ht
          clear ht
          try dsimp only at hf
          by_cases h4 : l.length ≤ 8192 ∧ e ≤ s.size
          · rw [if_pos h4] at hf
            obtain ⟨x, hx⟩ : ∃ x : ByteArray, (⟨l.toArray⟩ : ByteArray) = x := ⟨_, rfl⟩
            have HTX := Aside0.mk hx
            have hxs : x.size ≤ 8192 := by
              rw [← hx]
              show l.toArray.size ≤ 8192
              rw [List.size_toArray]
              exact h4.1
            have p8 : decide ((x.size : Int) > 8192) = false := decide_eq_false (by omega)
            have p9 : decide (8192 < (x.size : Int)) = false := decide_eq_false (by omega)
            rw [hx] at hf
            clear hxs hx h4
            by_cases h34 : bt s (i : Nat) = 34
            · have p3 : (bt s (i : Nat) == 34) = true := beq_iff_eq.mpr h34
              clear h3 h34
              obtain ⟨rfl, rfl, rfl, rfl⟩ : (6 : Int) = kd ∧ x = tx ∧ (⟨#[]⟩ : ByteArray) = nm ∧ e = j := by
                have h := Option.some.inj hf
                simp only [Prod.mk.injEq] at h
                exact h
              clear hf
              go_enter Tryz.func85, Tryz.ntmps85
              go_wp2_with (first | ((with_reducible refine gate_dst (N := 2) rfl ?_); (try (refine gate_guard (by rfl) ?_; dsimp only)); refine box_event ?hg (N := 2) ?hd (cs := #[.int .i64 0, .int .i64 0, .string (⟨#[]⟩ : ByteArray), .string (⟨#[]⟩ : ByteArray)]) (t := 62) ?hr ?_; (case hd => rfl); (case hg => rfl); (case hr => first | (go_simp; done) | (go_simp; rfl)); intro b2 hg w2 hbox hb; have HG2 := Aside0.mk hg; have K2 := Aside0.mk (show Tk w2 b2 0 0 ⟨#[]⟩ ⟨#[]⟩ from hbox); have HX2 := Aside0.mk (Lx.below HX.out hb); have HK2 := Aside0.mk (Lk.of_below (g := g) hb); clear hg hbox hb HX; have HX := HX2; have HK := HK2; clear HX2 HK2; have hc0 := HX.out.s; have hc1 := HX.out.i; have hz1 := HX.out.fz) | ((with_reducible refine gate_dst (N := 3) rfl ?_); (try (refine gate_guard (by rfl) ?_; dsimp only)); refine box_event ?hg (N := 3) ?hd (cs := #[.int .i64 0, .int .i64 0, .string (⟨#[]⟩ : ByteArray), .string (⟨#[]⟩ : ByteArray)]) (t := 62) ?hr ?_; (case hd => rfl); (case hg => rfl); (case hr => first | (go_simp; done) | (go_simp; rfl)); intro b3 hg w3 hbox hb; have HG3 := Aside0.mk hg; have K2L := Aside0.mk (Tk.lt K2.out); have K3 := Aside0.mk (show Tk w3 b3 0 0 ⟨#[]⟩ ⟨#[]⟩ from hbox); have HX2 := Aside0.mk (Lx.below HX.out hb); have HK2 := Aside0.mk (Lk.call HK.out hb); have K22 := Aside0.mk (Tk.call K2.out hb); clear hg hbox hb HX HK K2; have HX := HX2; have HK := HK2; have K2 := K22; clear HX2 HK2 K22; have ht0 := K3.out.c0; have ht1 := K3.out.c1; have ht2 := K3.out.c2; have ht3 := K3.out.c3; have hf0 := K3.out.fz 0; have hf1 := K3.out.fz 1; have hf2 := K3.out.fz 2; have hf3 := K3.out.fz 3))
              have HS2 := Aside0.mk (show w.heap.size ≤ b2 by rw [HG2.out]; exact Nat.le_refl _)
              have HS3 := Aside0.mk (show b2 < b3 by rw [HG3.out]; exact K2L.out)
              have N1 := Aside0.mk (show g ≠ b2 by have := HS2.out; have := HG.out; omega)
              have N2 := Aside0.mk (show g ≠ b3 by have := HS2.out; have := HS3.out; have := HG.out; omega)
              have N3 := Aside0.mk (show b2 ≠ b3 by have := HS3.out; omega)
              have HB3 := Aside0.mk (show w.heap.size ≤ b3 by have := HS2.out; have := HS3.out; omega)
              have HX4 : Aside0 (Lx ((((w3.setCell ⟨b3, 0, none⟩ (.int .i64 0)).setCell ⟨b3, 1, none⟩ (.int .i64 (i : Int))).setCell ⟨b3, 2, none⟩ (.string (⟨#[]⟩ : ByteArray))).setCell ⟨b3, 3, none⟩ (.string (⟨#[]⟩ : ByteArray))) g s i) := ⟨Lx.far (Lx.far (Lx.far (Lx.far HX.out N2.out _ _) N2.out _ _) N2.out _ _) N2.out _ _⟩
              have HK4 : Aside0 (Lk g w ((((w3.setCell ⟨b3, 0, none⟩ (.int .i64 0)).setCell ⟨b3, 1, none⟩ (.int .i64 (i : Int))).setCell ⟨b3, 2, none⟩ (.string (⟨#[]⟩ : ByteArray))).setCell ⟨b3, 3, none⟩ (.string (⟨#[]⟩ : ByteArray)))) := ⟨Lk.setN (Lk.setN (Lk.setN (Lk.setN HK.out HB3.out _ _) HB3.out _ _) HB3.out _ _) HB3.out _ _⟩
              have K24 : Aside0 (Tk ((((w3.setCell ⟨b3, 0, none⟩ (.int .i64 0)).setCell ⟨b3, 1, none⟩ (.int .i64 (i : Int))).setCell ⟨b3, 2, none⟩ (.string (⟨#[]⟩ : ByteArray))).setCell ⟨b3, 3, none⟩ (.string (⟨#[]⟩ : ByteArray))) b2 0 0 ⟨#[]⟩ ⟨#[]⟩) := ⟨Tk.far (Tk.far (Tk.far (Tk.far K2.out N3.out _ _) N3.out _ _) N3.out _ _) N3.out _ _⟩
              have K34 : Aside0 (Tk ((((w3.setCell ⟨b3, 0, none⟩ (.int .i64 0)).setCell ⟨b3, 1, none⟩ (.int .i64 (i : Int))).setCell ⟨b3, 2, none⟩ (.string (⟨#[]⟩ : ByteArray))).setCell ⟨b3, 3, none⟩ (.string (⟨#[]⟩ : ByteArray))) b3 0 (i : Int) ⟨#[]⟩ ⟨#[]⟩) := ⟨Tk.set3 (Tk.set2 (Tk.set1 (Tk.set0 K3.out _) _) _) _⟩
              clear HX HK K2 K3 hc0 hc1 hz1 ht0 ht1 ht2 ht3 hf0 hf1 hf2 hf3
              generalize ((((w3.setCell ⟨b3, 0, none⟩ (.int .i64 0)).setCell ⟨b3, 1, none⟩ (.int .i64 (i : Int))).setCell ⟨b3, 2, none⟩ (.string (⟨#[]⟩ : ByteArray))).setCell ⟨b3, 3, none⟩ (.string (⟨#[]⟩ : ByteArray))) = w4 at HX4 HK4 K24 K34 ⊢
              have hc0 := HX4.out.s
              have hc1 := HX4.out.i
              go_wp2
              refine wp_region_quiet_lit (by kernel_rfl) (by kernel_rfl) ?_
              repeat (go_big_quiet_step (fail))
              refine wpQuiet_nil ?_
              intro _ hw'
              obtain ⟨nq, hw''⟩ := hw'
              subst hw''
              go_wp2
              have HX5 : Aside0 (Lx (w4.drewN nq).drew g s i) := ⟨HX4.out⟩
              have HK5 : Aside0 (Lk g w (w4.drewN nq).drew) := ⟨(HK4.out.drewN nq).drew⟩
              have K25 : Aside0 (Tk (w4.drewN nq).drew b2 0 0 ⟨#[]⟩ ⟨#[]⟩) := ⟨K24.out⟩
              have K35 : Aside0 (Tk (w4.drewN nq).drew b3 0 (i : Int) ⟨#[]⟩ ⟨#[]⟩) := ⟨K34.out⟩
              clear HX4 HK4 K24 K34 hc0 hc1
              refine start_ (n := 11) (S := (fun w' => w'.cell? ⟨g, 0, none⟩ = some (.string s) ∧ w'.cell? ⟨g, 1, none⟩ = some (.int .i64 (i : Int)))) (ds := []) #[false, false, false, false, false, false, false, false, false, false, false] (by kernel_rfl) rfl rfl ⟨HX5.out.s, HX5.out.i⟩ (fun hHeld => ?_)
              refine with_tabW lexer_word.tab4 lexer_word.bits4 (fun HT_ HW_ => ?_)
              generalize (w4.drewN nq).drew = w5 at HX5 HK5 K25 K35 hHeld ⊢
              refine pure_ (i := 0) (N := (some 21)) (v := ?_) (a' := ?_) #[true, false, false, false, false, false, false, false, false, false, false] rfl rfl (any_of HT_.out (by kernel_rfl)) (fun _ _ _ h => h) (Or.inl ⟨by rfl, ?_⟩) ?_ ?_
              rotate_left
              ·intro w'
               go_simp
               with_reducible rfl
              rotate_left
              ·simp only [Act.put, List.setIfInBounds_toArray, List.set_cons_zero, List.set_cons_succ, i64_w, i32_w]
               rfl
              refine pure_ (i := 1) (N := (some 22)) (v := ?_) (a' := ?_) #[true, true, false, false, false, false, false, false, false, false, false] rfl rfl (any_of HT_.out (by kernel_rfl)) (fun _ _ _ h => h) (Or.inl ⟨by rfl, ?_⟩) ?_ ?_
              rotate_left
              ·intro w'
               go_simp
               with_reducible rfl
              rotate_left
              ·simp only [Act.put, List.setIfInBounds_toArray, List.set_cons_zero, List.set_cons_succ, i64_w, i32_w]
               rfl
              refine pure_ (i := 2) (N := (some 23)) (v := ?_) (a' := ?_) #[true, true, true, false, false, false, false, false, false, false, false] rfl rfl (any_of HT_.out (by kernel_rfl)) (fun _ _ _ h => h) (Or.inl ⟨by rfl, ?_⟩) ?_ ?_
              rotate_left
              ·intro w'
               go_simp
               with_reducible rfl
              rotate_left
              ·simp only [Act.put, List.setIfInBounds_toArray, List.set_cons_zero, List.set_cons_succ, i64_w, i32_w]
               rfl
              refine take_ (i := 3) (N := (some 24)) (v := ?_) (a' := ?_) #[true, true, true, true, false, false, false, false, false, false, false] rfl rfl (take_ofW HT_.out HW_.out (by kernel_rfl)) (fun _ _ _ h => h) (Or.inl ⟨by rfl, ?_⟩) hHeld ?_ ?_
              rotate_left
              ·rintro w' ⟨s0, s1⟩
               go_simp
               with_reducible rfl
              rotate_left
              ·simp only [Act.put, List.setIfInBounds_toArray, List.set_cons_zero, List.set_cons_succ, i64_w, i32_w]
               rfl
              refine pure_ (i := 4) (N := (some 25)) (v := ?_) (a' := ?_) #[true, true, true, true, true, false, false, false, false, false, false] rfl rfl (any_of HT_.out (by kernel_rfl)) (fun _ _ _ h => h) (Or.inl ⟨by rfl, ?_⟩) ?_ ?_
              rotate_left
              ·intro w'
               go_simp
               with_reducible rfl
              rotate_left
              ·simp only [Act.put, List.setIfInBounds_toArray, List.set_cons_zero, List.set_cons_succ, i64_w, i32_w]
               rfl
              refine pure_ (i := 5) (N := (some 26)) (v := ?_) (a' := ?_) #[true, true, true, true, true, true, false, false, false, false, false] rfl rfl (any_of HT_.out (by kernel_rfl)) (fun _ _ _ h => h) (Or.inl ⟨by rfl, ?_⟩) ?_ ?_
              rotate_left
              ·intro w'
               go_simp
               with_reducible rfl
              rotate_left
              ·simp only [Act.put, List.setIfInBounds_toArray, List.set_cons_zero, List.set_cons_succ, i64_w, i32_w]
               rfl
              refine pure_ (i := 6) (N := (some 27)) (v := ?_) (a' := ?_) #[true, true, true, true, true, true, true, false, false, false, false] rfl rfl (any_of HT_.out (by kernel_rfl)) (fun _ _ _ h => h) (Or.inl ⟨by rfl, ?_⟩) ?_ ?_
              rotate_left
              ·intro w'
               go_simp
               with_reducible rfl
              rotate_left
              ·simp only [Act.put, List.setIfInBounds_toArray, List.set_cons_zero, List.set_cons_succ, i64_w, i32_w]
               rfl
              refine take_ (i := 7) (N := (some 28)) (v := ?_) (a' := ?_) #[true, true, true, true, true, true, true, true, false, false, false] rfl rfl (take_ofW HT_.out HW_.out (by kernel_rfl)) (fun _ _ _ h => h) (Or.inl ⟨by rfl, ?_⟩) hHeld ?_ ?_
              rotate_left
              ·rintro w' ⟨s0, s1⟩
               go_simp
               with_reducible rfl
              rotate_left
              ·simp only [Act.put, List.setIfInBounds_toArray, List.set_cons_zero, List.set_cons_succ, i64_w, i32_w]
               rfl
              refine pure_ (i := 8) (N := (some 29)) (v := ?_) (a' := ?_) #[true, true, true, true, true, true, true, true, true, false, false] rfl rfl (any_of HT_.out (by kernel_rfl)) (fun _ _ _ h => h) (Or.inl ⟨by rfl, ?_⟩) ?_ ?_
              rotate_left
              ·intro w'
               go_simp
               with_reducible rfl
              rotate_left
              ·simp only [Act.put, List.setIfInBounds_toArray, List.set_cons_zero, List.set_cons_succ, i64_w, i32_w]
               rfl
              refine one_ (i := 9) (N := (some 30)) #[true, true, true, true, true, true, true, true, true, true, false] rfl rfl (one_of HT_.out (by kernel_rfl)) (by decide) (fun K hK => ?_)
              refine goes_ Tryz.func101 (by kernel_rfl) rfl #[.string (s.extract i s.size)] (by rfl) rfl rfl goa_ ?_
              refine (number_Scan.calls _ n _ A1.out).mono ?_
              rintro e w6 ⟨rfl, hb⟩
              refine ⟨_, rfl, ?_⟩
              have HX := Aside0.mk (HX5.out.below hb)
              have HK := Aside0.mk (HK5.out.call hb)
              have K2 := Aside0.mk (K25.out.call hb)
              have K3 := Aside0.mk (K35.out.call hb)
              clear hb HX5 HK5 K25 K35
              refine hK.out _ _ ⟨HX.out.s, HX.out.i⟩ (fun hHeld => ?_)
              clear hK K
              refine norm_ (a' := ?_) ?_ ?_
              rotate_left
              ·show Act.put _ (some 30) _ = _
               simp only [Act.put, List.setIfInBounds_toArray, List.set_cons_zero, List.set_cons_succ, i64_w, i32_w]
               rfl
              refine pure_ (i := 10) (N := (some 6)) (v := ?_) (a' := ?_) #[true, true, true, true, true, true, true, true, true, true, true] rfl rfl (any_of HT_.out (by kernel_rfl)) (fun _ _ _ h => h) (Or.inl ⟨by rfl, ?_⟩) ?_ ?_
              rotate_left
              ·intro w'
               go_simp
               with_reducible rfl
              rotate_left
              ·simp only [Act.put, List.setIfInBounds_toArray, List.set_cons_zero, List.set_cons_succ, i64_w, i32_w]
               rfl
              refine done_ (done_of HT_.out (by kernel_rfl)) ?_
              clear hHeld HT_ HW_
              have hc0 := HX.out.s
              have hc1 := HX.out.i
              have hz1 := HX.out.fz
              have ht0 := K3.out.c0
              have ht1 := K3.out.c1
              have ht2 := K3.out.c2
              have ht3 := K3.out.c3
              have hf0 := K3.out.fz 0
              have hf1 := K3.out.fz 1
              have hf2 := K3.out.fz 2
              have hf3 := K3.out.fz 3
              have hne := N2.out
              have hne2 := N2.out.symm
              have hne3 := N1.out
              have hne4 := N1.out.symm
              have hne5 := N3.out
              have hne6 := N3.out.symm
              go_wp2_with (first | (go_at_call 104; with_reducible refine (begins_calls k s g i HS.out HII.out _ _ ?lx A2.out).mono ?_; (case lx => exact (by repeat (first | (with_reducible first | exact HX.out | apply Lx.drewN | apply Lx.drew | apply Lx.set | apply lx_far N2.out)))); rintro e wb ⟨rfl, hb⟩; have HXn := Aside0.mk (Lx.below (by repeat (first | (with_reducible first | exact HX.out | apply Lx.drewN | apply Lx.drew | apply Lx.set | apply lx_far N2.out))) hb); have HKn := Aside0.mk (Lk.call (by repeat (first | (with_reducible first | exact HK.out | apply Lk.drewN | apply Lk.drew | apply Lk.set | apply lk_setN HB3.out))) hb); have K2n := Aside0.mk (Tk.call (by repeat (first | (with_reducible first | exact K2.out | apply Tk.drewN | apply Tk.drew | apply tk_far N1.out.symm | apply tk_far N3.out))) hb); have K3n := Aside0.mk (Tk.call (by repeat (first | (with_reducible first | exact K3.out | apply Tk.drewN | apply Tk.drew | apply tk_far N2.out.symm))) hb); clear hb; clear HX HK K2 K3; have HX := HXn; have HK := HKn; have K2 := K2n; have K3 := K3n; clear HXn HKn K2n K3n; have hc0 := HX.out.s; have hc1 := HX.out.i; have hz1 := HX.out.fz; have ht0 := K3.out.c0; have ht1 := K3.out.c1; have ht2 := K3.out.c2; have ht3 := K3.out.c3; have hf0 := K3.out.fz 0; have hf1 := K3.out.fz 1; have hf2 := K3.out.fz 2; have hf3 := K3.out.fz 3; have hr0 := K2.out.c0; have hr1 := K2.out.c1; have hr2 := K2.out.c2; have hr3 := K2.out.c3; have hs0 := K2.out.fz 0; have hs1 := K2.out.fz 1; have hs2 := K2.out.fz 2; have hs3 := K2.out.fz 3) | (go_at_call 107; with_reducible refine (quoted_calls k s g i _ _ HS.out HLT.out _ ?lx A4.out).mono ?_; (case lx => exact (by repeat (first | (with_reducible first | exact HX.out | apply Lx.drewN | apply Lx.drew | apply Lx.set | apply lx_far N2.out)))); rintro e wd ⟨rfl, hx, hk⟩; rw [HTX.out]; have HXn := Aside0.mk hx; have HKn := Aside0.mk (Lk.trans (by repeat (first | (with_reducible first | exact HK.out | apply Lk.drewN | apply Lk.drew | apply Lk.set | apply lk_setN HB3.out))) hk); have K2n := Aside0.mk (Tk.lk (by repeat (first | (with_reducible first | exact K2.out | apply Tk.drewN | apply Tk.drew | apply tk_far N1.out.symm | apply tk_far N3.out))) hk N1.out.symm); have K3n := Aside0.mk (Tk.lk (by repeat (first | (with_reducible first | exact K3.out | apply Tk.drewN | apply Tk.drew | apply tk_far N2.out.symm))) hk N2.out.symm); clear hx hk; clear HX HK K2 K3; have HX := HXn; have HK := HKn; have K2 := K2n; have K3 := K3n; clear HXn HKn K2n K3n; have hc0 := HX.out.s; have hc1 := HX.out.i; have hz1 := HX.out.fz; have ht0 := K3.out.c0; have ht1 := K3.out.c1; have ht2 := K3.out.c2; have ht3 := K3.out.c3; have hf0 := K3.out.fz 0; have hf1 := K3.out.fz 1; have hf2 := K3.out.fz 2; have hf3 := K3.out.fz 3; have hr0 := K2.out.c0; have hr1 := K2.out.c1; have hr2 := K2.out.c2; have hr3 := K2.out.c3; have hs0 := K2.out.fz 0; have hs1 := K2.out.fz 1; have hs2 := K2.out.fz 2; have hs3 := K2.out.fz 3))
              refine bodyPost_ret (results_cell_row rfl _ _ b2 62 #[.int .i64 6, .int .i64 (i : Int), .string x, .string (⟨#[]⟩ : ByteArray)] (0, 0) _ rfl (show _ from Tk.set3 (Tk.set2 (Tk.set1 (Tk.set0 (by repeat (first | (with_reducible first | exact K2.out | apply Tk.drewN | apply Tk.drew | apply tk_far N1.out.symm | apply tk_far N3.out))) _) _) _) _) huT rfl (by kernel_rfl)) rfl ?_
              exact ⟨rfl, Lx.far (Lx.far (Lx.far (Lx.far (by repeat (first | (with_reducible first | exact HX.out | apply Lx.drewN | apply Lx.drew | apply Lx.set | apply lx_far N2.out))) N1.out _ _) N1.out _ _) N1.out _ _) N1.out _ _, Lk.setN (Lk.setN (Lk.setN (Lk.setN (by repeat (first | (with_reducible first | exact HK.out | apply Lk.drewN | apply Lk.drew | apply Lk.set | apply lk_setN HB3.out))) HS2.out _ _) HS2.out _ _) HS2.out _ _) HS2.out _ _⟩
            · have p3 : (bt s (i : Nat) == 34) = false := beq_eq_false_iff_ne.mpr h34
              have p4 : (bt s (i : Nat) == 39) = true := beq_iff_eq.mpr (h3.resolve_left h34)
              clear h3 h34
              obtain ⟨rfl, rfl, rfl, rfl⟩ : (6 : Int) = kd ∧ x = tx ∧ (⟨#[]⟩ : ByteArray) = nm ∧ e = j := by
                have h := Option.some.inj hf
                simp only [Prod.mk.injEq] at h
                exact h
              clear hf
              go_enter Tryz.func85, Tryz.ntmps85
              go_wp2_with (first | ((with_reducible refine gate_dst (N := 2) rfl ?_); (try (refine gate_guard (by rfl) ?_; dsimp only)); refine box_event ?hg (N := 2) ?hd (cs := #[.int .i64 0, .int .i64 0, .string (⟨#[]⟩ : ByteArray), .string (⟨#[]⟩ : ByteArray)]) (t := 62) ?hr ?_; (case hd => rfl); (case hg => rfl); (case hr => first | (go_simp; done) | (go_simp; rfl)); intro b2 hg w2 hbox hb; have HG2 := Aside0.mk hg; have K2 := Aside0.mk (show Tk w2 b2 0 0 ⟨#[]⟩ ⟨#[]⟩ from hbox); have HX2 := Aside0.mk (Lx.below HX.out hb); have HK2 := Aside0.mk (Lk.of_below (g := g) hb); clear hg hbox hb HX; have HX := HX2; have HK := HK2; clear HX2 HK2; have hc0 := HX.out.s; have hc1 := HX.out.i; have hz1 := HX.out.fz) | ((with_reducible refine gate_dst (N := 3) rfl ?_); (try (refine gate_guard (by rfl) ?_; dsimp only)); refine box_event ?hg (N := 3) ?hd (cs := #[.int .i64 0, .int .i64 0, .string (⟨#[]⟩ : ByteArray), .string (⟨#[]⟩ : ByteArray)]) (t := 62) ?hr ?_; (case hd => rfl); (case hg => rfl); (case hr => first | (go_simp; done) | (go_simp; rfl)); intro b3 hg w3 hbox hb; have HG3 := Aside0.mk hg; have K2L := Aside0.mk (Tk.lt K2.out); have K3 := Aside0.mk (show Tk w3 b3 0 0 ⟨#[]⟩ ⟨#[]⟩ from hbox); have HX2 := Aside0.mk (Lx.below HX.out hb); have HK2 := Aside0.mk (Lk.call HK.out hb); have K22 := Aside0.mk (Tk.call K2.out hb); clear hg hbox hb HX HK K2; have HX := HX2; have HK := HK2; have K2 := K22; clear HX2 HK2 K22; have ht0 := K3.out.c0; have ht1 := K3.out.c1; have ht2 := K3.out.c2; have ht3 := K3.out.c3; have hf0 := K3.out.fz 0; have hf1 := K3.out.fz 1; have hf2 := K3.out.fz 2; have hf3 := K3.out.fz 3))
              have HS2 := Aside0.mk (show w.heap.size ≤ b2 by rw [HG2.out]; exact Nat.le_refl _)
              have HS3 := Aside0.mk (show b2 < b3 by rw [HG3.out]; exact K2L.out)
              have N1 := Aside0.mk (show g ≠ b2 by have := HS2.out; have := HG.out; omega)
              have N2 := Aside0.mk (show g ≠ b3 by have := HS2.out; have := HS3.out; have := HG.out; omega)
              have N3 := Aside0.mk (show b2 ≠ b3 by have := HS3.out; omega)
              have HB3 := Aside0.mk (show w.heap.size ≤ b3 by have := HS2.out; have := HS3.out; omega)
              have HX4 : Aside0 (Lx ((((w3.setCell ⟨b3, 0, none⟩ (.int .i64 0)).setCell ⟨b3, 1, none⟩ (.int .i64 (i : Int))).setCell ⟨b3, 2, none⟩ (.string (⟨#[]⟩ : ByteArray))).setCell ⟨b3, 3, none⟩ (.string (⟨#[]⟩ : ByteArray))) g s i) := ⟨Lx.far (Lx.far (Lx.far (Lx.far HX.out N2.out _ _) N2.out _ _) N2.out _ _) N2.out _ _⟩
              have HK4 : Aside0 (Lk g w ((((w3.setCell ⟨b3, 0, none⟩ (.int .i64 0)).setCell ⟨b3, 1, none⟩ (.int .i64 (i : Int))).setCell ⟨b3, 2, none⟩ (.string (⟨#[]⟩ : ByteArray))).setCell ⟨b3, 3, none⟩ (.string (⟨#[]⟩ : ByteArray)))) := ⟨Lk.setN (Lk.setN (Lk.setN (Lk.setN HK.out HB3.out _ _) HB3.out _ _) HB3.out _ _) HB3.out _ _⟩
              have K24 : Aside0 (Tk ((((w3.setCell ⟨b3, 0, none⟩ (.int .i64 0)).setCell ⟨b3, 1, none⟩ (.int .i64 (i : Int))).setCell ⟨b3, 2, none⟩ (.string (⟨#[]⟩ : ByteArray))).setCell ⟨b3, 3, none⟩ (.string (⟨#[]⟩ : ByteArray))) b2 0 0 ⟨#[]⟩ ⟨#[]⟩) := ⟨Tk.far (Tk.far (Tk.far (Tk.far K2.out N3.out _ _) N3.out _ _) N3.out _ _) N3.out _ _⟩
              have K34 : Aside0 (Tk ((((w3.setCell ⟨b3, 0, none⟩ (.int .i64 0)).setCell ⟨b3, 1, none⟩ (.int .i64 (i : Int))).setCell ⟨b3, 2, none⟩ (.string (⟨#[]⟩ : ByteArray))).setCell ⟨b3, 3, none⟩ (.string (⟨#[]⟩ : ByteArray))) b3 0 (i : Int) ⟨#[]⟩ ⟨#[]⟩) := ⟨Tk.set3 (Tk.set2 (Tk.set1 (Tk.set0 K3.out _) _) _) _⟩
              clear HX HK K2 K3 hc0 hc1 hz1 ht0 ht1 ht2 ht3 hf0 hf1 hf2 hf3
              generalize ((((w3.setCell ⟨b3, 0, none⟩ (.int .i64 0)).setCell ⟨b3, 1, none⟩ (.int .i64 (i : Int))).setCell ⟨b3, 2, none⟩ (.string (⟨#[]⟩ : ByteArray))).setCell ⟨b3, 3, none⟩ (.string (⟨#[]⟩ : ByteArray))) = w4 at HX4 HK4 K24 K34 ⊢
              have hc0 := HX4.out.s
              have hc1 := HX4.out.i
              go_wp2
              refine wp_region_quiet_lit (by kernel_rfl) (by kernel_rfl) ?_
              repeat (go_big_quiet_step (fail))
              refine wpQuiet_nil ?_
              intro _ hw'
              obtain ⟨nq, hw''⟩ := hw'
              subst hw''
              go_wp2
              have HX5 : Aside0 (Lx (w4.drewN nq).drew g s i) := ⟨HX4.out⟩
              have HK5 : Aside0 (Lk g w (w4.drewN nq).drew) := ⟨(HK4.out.drewN nq).drew⟩
              have K25 : Aside0 (Tk (w4.drewN nq).drew b2 0 0 ⟨#[]⟩ ⟨#[]⟩) := ⟨K24.out⟩
              have K35 : Aside0 (Tk (w4.drewN nq).drew b3 0 (i : Int) ⟨#[]⟩ ⟨#[]⟩) := ⟨K34.out⟩
              clear HX4 HK4 K24 K34 hc0 hc1
              refine start_ (n := 11) (S := (fun w' => w'.cell? ⟨g, 0, none⟩ = some (.string s) ∧ w'.cell? ⟨g, 1, none⟩ = some (.int .i64 (i : Int)))) (ds := []) #[false, false, false, false, false, false, false, false, false, false, false] (by kernel_rfl) rfl rfl ⟨HX5.out.s, HX5.out.i⟩ (fun hHeld => ?_)
              refine with_tabW lexer_word.tab4 lexer_word.bits4 (fun HT_ HW_ => ?_)
              generalize (w4.drewN nq).drew = w5 at HX5 HK5 K25 K35 hHeld ⊢
              refine pure_ (i := 0) (N := (some 21)) (v := ?_) (a' := ?_) #[true, false, false, false, false, false, false, false, false, false, false] rfl rfl (any_of HT_.out (by kernel_rfl)) (fun _ _ _ h => h) (Or.inl ⟨by rfl, ?_⟩) ?_ ?_
              rotate_left
              ·intro w'
               go_simp
               with_reducible rfl
              rotate_left
              ·simp only [Act.put, List.setIfInBounds_toArray, List.set_cons_zero, List.set_cons_succ, i64_w, i32_w]
               rfl
              refine pure_ (i := 1) (N := (some 22)) (v := ?_) (a' := ?_) #[true, true, false, false, false, false, false, false, false, false, false] rfl rfl (any_of HT_.out (by kernel_rfl)) (fun _ _ _ h => h) (Or.inl ⟨by rfl, ?_⟩) ?_ ?_
              rotate_left
              ·intro w'
               go_simp
               with_reducible rfl
              rotate_left
              ·simp only [Act.put, List.setIfInBounds_toArray, List.set_cons_zero, List.set_cons_succ, i64_w, i32_w]
               rfl
              refine pure_ (i := 2) (N := (some 23)) (v := ?_) (a' := ?_) #[true, true, true, false, false, false, false, false, false, false, false] rfl rfl (any_of HT_.out (by kernel_rfl)) (fun _ _ _ h => h) (Or.inl ⟨by rfl, ?_⟩) ?_ ?_
              rotate_left
              ·intro w'
               go_simp
               with_reducible rfl
              rotate_left
              ·simp only [Act.put, List.setIfInBounds_toArray, List.set_cons_zero, List.set_cons_succ, i64_w, i32_w]
               rfl
              refine take_ (i := 3) (N := (some 24)) (v := ?_) (a' := ?_) #[true, true, true, true, false, false, false, false, false, false, false] rfl rfl (take_ofW HT_.out HW_.out (by kernel_rfl)) (fun _ _ _ h => h) (Or.inl ⟨by rfl, ?_⟩) hHeld ?_ ?_
              rotate_left
              ·rintro w' ⟨s0, s1⟩
               go_simp
               with_reducible rfl
              rotate_left
              ·simp only [Act.put, List.setIfInBounds_toArray, List.set_cons_zero, List.set_cons_succ, i64_w, i32_w]
               rfl
              refine pure_ (i := 4) (N := (some 25)) (v := ?_) (a' := ?_) #[true, true, true, true, true, false, false, false, false, false, false] rfl rfl (any_of HT_.out (by kernel_rfl)) (fun _ _ _ h => h) (Or.inl ⟨by rfl, ?_⟩) ?_ ?_
              rotate_left
              ·intro w'
               go_simp
               with_reducible rfl
              rotate_left
              ·simp only [Act.put, List.setIfInBounds_toArray, List.set_cons_zero, List.set_cons_succ, i64_w, i32_w]
               rfl
              refine pure_ (i := 5) (N := (some 26)) (v := ?_) (a' := ?_) #[true, true, true, true, true, true, false, false, false, false, false] rfl rfl (any_of HT_.out (by kernel_rfl)) (fun _ _ _ h => h) (Or.inl ⟨by rfl, ?_⟩) ?_ ?_
              rotate_left
              ·intro w'
               go_simp
               with_reducible rfl
              rotate_left
              ·simp only [Act.put, List.setIfInBounds_toArray, List.set_cons_zero, List.set_cons_succ, i64_w, i32_w]
               rfl
              refine pure_ (i := 6) (N := (some 27)) (v := ?_) (a' := ?_) #[true, true, true, true, true, true, true, false, false, false, false] rfl rfl (any_of HT_.out (by kernel_rfl)) (fun _ _ _ h => h) (Or.inl ⟨by rfl, ?_⟩) ?_ ?_
              rotate_left
              ·intro w'
               go_simp
               with_reducible rfl
              rotate_left
              ·simp only [Act.put, List.setIfInBounds_toArray, List.set_cons_zero, List.set_cons_succ, i64_w, i32_w]
               rfl
              refine take_ (i := 7) (N := (some 28)) (v := ?_) (a' := ?_) #[true, true, true, true, true, true, true, true, false, false, false] rfl rfl (take_ofW HT_.out HW_.out (by kernel_rfl)) (fun _ _ _ h => h) (Or.inl ⟨by rfl, ?_⟩) hHeld ?_ ?_
              rotate_left
              ·rintro w' ⟨s0, s1⟩
               go_simp
               with_reducible rfl
              rotate_left
              ·simp only [Act.put, List.setIfInBounds_toArray, List.set_cons_zero, List.set_cons_succ, i64_w, i32_w]
               rfl
              refine pure_ (i := 8) (N := (some 29)) (v := ?_) (a' := ?_) #[true, true, true, true, true, true, true, true, true, false, false] rfl rfl (any_of HT_.out (by kernel_rfl)) (fun _ _ _ h => h) (Or.inl ⟨by rfl, ?_⟩) ?_ ?_
              rotate_left
              ·intro w'
               go_simp
               with_reducible rfl
              rotate_left
              ·simp only [Act.put, List.setIfInBounds_toArray, List.set_cons_zero, List.set_cons_succ, i64_w, i32_w]
               rfl
              refine one_ (i := 9) (N := (some 30)) #[true, true, true, true, true, true, true, true, true, true, false] rfl rfl (one_of HT_.out (by kernel_rfl)) (by decide) (fun K hK => ?_)
              refine goes_ Tryz.func101 (by kernel_rfl) rfl #[.string (s.extract i s.size)] (by rfl) rfl rfl goa_ ?_
              refine (number_Scan.calls _ n _ A1.out).mono ?_
              rintro e w6 ⟨rfl, hb⟩
              refine ⟨_, rfl, ?_⟩
              have HX := Aside0.mk (HX5.out.below hb)
              have HK := Aside0.mk (HK5.out.call hb)
              have K2 := Aside0.mk (K25.out.call hb)
              have K3 := Aside0.mk (K35.out.call hb)
              clear hb HX5 HK5 K25 K35
              refine hK.out _ _ ⟨HX.out.s, HX.out.i⟩ (fun hHeld => ?_)
              clear hK K
              refine norm_ (a' := ?_) ?_ ?_
              rotate_left
              ·show Act.put _ (some 30) _ = _
               simp only [Act.put, List.setIfInBounds_toArray, List.set_cons_zero, List.set_cons_succ, i64_w, i32_w]
               rfl
              refine pure_ (i := 10) (N := (some 6)) (v := ?_) (a' := ?_) #[true, true, true, true, true, true, true, true, true, true, true] rfl rfl (any_of HT_.out (by kernel_rfl)) (fun _ _ _ h => h) (Or.inl ⟨by rfl, ?_⟩) ?_ ?_
              rotate_left
              ·intro w'
               go_simp
               with_reducible rfl
              rotate_left
              ·simp only [Act.put, List.setIfInBounds_toArray, List.set_cons_zero, List.set_cons_succ, i64_w, i32_w]
               rfl
              refine done_ (done_of HT_.out (by kernel_rfl)) ?_
              clear hHeld HT_ HW_
              have hc0 := HX.out.s
              have hc1 := HX.out.i
              have hz1 := HX.out.fz
              have ht0 := K3.out.c0
              have ht1 := K3.out.c1
              have ht2 := K3.out.c2
              have ht3 := K3.out.c3
              have hf0 := K3.out.fz 0
              have hf1 := K3.out.fz 1
              have hf2 := K3.out.fz 2
              have hf3 := K3.out.fz 3
              have hne := N2.out
              have hne2 := N2.out.symm
              have hne3 := N1.out
              have hne4 := N1.out.symm
              have hne5 := N3.out
              have hne6 := N3.out.symm
              go_wp2_with (first | (go_at_call 104; with_reducible refine (begins_calls k s g i HS.out HII.out _ _ ?lx A2.out).mono ?_; (case lx => exact (by repeat (first | (with_reducible first | exact HX.out | apply Lx.drewN | apply Lx.drew | apply Lx.set | apply lx_far N2.out)))); rintro e wb ⟨rfl, hb⟩; have HXn := Aside0.mk (Lx.below (by repeat (first | (with_reducible first | exact HX.out | apply Lx.drewN | apply Lx.drew | apply Lx.set | apply lx_far N2.out))) hb); have HKn := Aside0.mk (Lk.call (by repeat (first | (with_reducible first | exact HK.out | apply Lk.drewN | apply Lk.drew | apply Lk.set | apply lk_setN HB3.out))) hb); have K2n := Aside0.mk (Tk.call (by repeat (first | (with_reducible first | exact K2.out | apply Tk.drewN | apply Tk.drew | apply tk_far N1.out.symm | apply tk_far N3.out))) hb); have K3n := Aside0.mk (Tk.call (by repeat (first | (with_reducible first | exact K3.out | apply Tk.drewN | apply Tk.drew | apply tk_far N2.out.symm))) hb); clear hb; clear HX HK K2 K3; have HX := HXn; have HK := HKn; have K2 := K2n; have K3 := K3n; clear HXn HKn K2n K3n; have hc0 := HX.out.s; have hc1 := HX.out.i; have hz1 := HX.out.fz; have ht0 := K3.out.c0; have ht1 := K3.out.c1; have ht2 := K3.out.c2; have ht3 := K3.out.c3; have hf0 := K3.out.fz 0; have hf1 := K3.out.fz 1; have hf2 := K3.out.fz 2; have hf3 := K3.out.fz 3; have hr0 := K2.out.c0; have hr1 := K2.out.c1; have hr2 := K2.out.c2; have hr3 := K2.out.c3; have hs0 := K2.out.fz 0; have hs1 := K2.out.fz 1; have hs2 := K2.out.fz 2; have hs3 := K2.out.fz 3) | (go_at_call 107; with_reducible refine (quoted_calls k s g i _ _ HS.out HLT.out _ ?lx A4.out).mono ?_; (case lx => exact (by repeat (first | (with_reducible first | exact HX.out | apply Lx.drewN | apply Lx.drew | apply Lx.set | apply lx_far N2.out)))); rintro e wd ⟨rfl, hx, hk⟩; rw [HTX.out]; have HXn := Aside0.mk hx; have HKn := Aside0.mk (Lk.trans (by repeat (first | (with_reducible first | exact HK.out | apply Lk.drewN | apply Lk.drew | apply Lk.set | apply lk_setN HB3.out))) hk); have K2n := Aside0.mk (Tk.lk (by repeat (first | (with_reducible first | exact K2.out | apply Tk.drewN | apply Tk.drew | apply tk_far N1.out.symm | apply tk_far N3.out))) hk N1.out.symm); have K3n := Aside0.mk (Tk.lk (by repeat (first | (with_reducible first | exact K3.out | apply Tk.drewN | apply Tk.drew | apply tk_far N2.out.symm))) hk N2.out.symm); clear hx hk; clear HX HK K2 K3; have HX := HXn; have HK := HKn; have K2 := K2n; have K3 := K3n; clear HXn HKn K2n K3n; have hc0 := HX.out.s; have hc1 := HX.out.i; have hz1 := HX.out.fz; have ht0 := K3.out.c0; have ht1 := K3.out.c1; have ht2 := K3.out.c2; have ht3 := K3.out.c3; have hf0 := K3.out.fz 0; have hf1 := K3.out.fz 1; have hf2 := K3.out.fz 2; have hf3 := K3.out.fz 3; have hr0 := K2.out.c0; have hr1 := K2.out.c1; have hr2 := K2.out.c2; have hr3 := K2.out.c3; have hs0 := K2.out.fz 0; have hs1 := K2.out.fz 1; have hs2 := K2.out.fz 2; have hs3 := K2.out.fz 3))
              refine bodyPost_ret (results_cell_row rfl _ _ b2 62 #[.int .i64 6, .int .i64 (i : Int), .string x, .string (⟨#[]⟩ : ByteArray)] (0, 0) _ rfl (show _ from Tk.set3 (Tk.set2 (Tk.set1 (Tk.set0 (by repeat (first | (with_reducible first | exact K2.out | apply Tk.drewN | apply Tk.drew | apply tk_far N1.out.symm | apply tk_far N3.out))) _) _) _) _) huT rfl (by kernel_rfl)) rfl ?_
              exact ⟨rfl, Lx.far (Lx.far (Lx.far (Lx.far (by repeat (first | (with_reducible first | exact HX.out | apply Lx.drewN | apply Lx.drew | apply Lx.set | apply lx_far N2.out))) N1.out _ _) N1.out _ _) N1.out _ _) N1.out _ _, Lk.setN (Lk.setN (Lk.setN (Lk.setN (by repeat (first | (with_reducible first | exact HK.out | apply Lk.drewN | apply Lk.drew | apply Lk.set | apply lk_setN HB3.out))) HS2.out _ _) HS2.out _ _) HS2.out _ _) HS2.out _ _⟩
          · rw [if_neg h4] at hf
            cases hf
        · rw [if_neg h3] at hf
          obtain ⟨q, hq, hf⟩ := Option.bind_eq_some_iff.mp hf
          have A3 := Aside0.mk hq
          clear hq
          by_cases h4 : q ≥ 0
          · rw [if_pos h4] at hf
            have p3 : (bt s (i : Nat) == 34) = false := by simpa using (fun e => h3 (Or.inl e))
            have p4 : (bt s (i : Nat) == 39) = false := by simpa using (fun e => h3 (Or.inr e))
            have p5 : decide (q ≥ 0) = true := decide_eq_true h4
            have p6 : decide (0 ≤ q) = true := decide_eq_true h4
            have hwi1 : wrap64 ((i : Int) + 1) = ((i + 1 : Nat) : Int) := by have := HLT.out; have := HS.out; unfold wrap64; omega
            obtain ⟨m, hm⟩ : ∃ m, i + 1 = m := ⟨_, rfl⟩
            rw [hm] at hwi1 hf
            have hwi2 : IntKind.i64.wrap ((i : Int) + 1) = (m : Int) := by rw [i64_w]; exact hwi1
            have q6 : ((i : Int) ≤ (m : Int)) = True := eq_true (by omega)
            have q7 : ((m : Int) ≤ (s.size : Int)) = True := eq_true (by have := HLT.out; omega)
            have hxs : (s.extract i m).size = 1 := by rw [ByteArray.size_extract]; have := HLT.out; omega
            obtain ⟨x, hx⟩ : ∃ x : ByteArray, s.extract i m = x := ⟨_, rfl⟩
            rw [hx] at hf hxs
            have p8 : decide ((x.size : Int) > 64) = false := decide_eq_false (by omega)
            have p9 : decide (64 < (x.size : Int)) = false := decide_eq_false (by omega)
            clear h3 h4 hm hxs
            obtain ⟨rfl, rfl, rfl, rfl⟩ : (7 : Int) = kd ∧ x = tx ∧ (⟨#[]⟩ : ByteArray) = nm ∧ m = j := by
              have h := Option.some.inj hf
              simp only [Prod.mk.injEq] at h
              exact h
            clear hf
            go_enter Tryz.func85, Tryz.ntmps85
            go_wp2_with (first | ((with_reducible refine gate_dst (N := 2) rfl ?_); (try (refine gate_guard (by rfl) ?_; dsimp only)); refine box_event ?hg (N := 2) ?hd (cs := #[.int .i64 0, .int .i64 0, .string (⟨#[]⟩ : ByteArray), .string (⟨#[]⟩ : ByteArray)]) (t := 62) ?hr ?_; (case hd => rfl); (case hg => rfl); (case hr => first | (go_simp; done) | (go_simp; rfl)); intro b2 hg w2 hbox hb; have HG2 := Aside0.mk hg; have K2 := Aside0.mk (show Tk w2 b2 0 0 ⟨#[]⟩ ⟨#[]⟩ from hbox); have HX2 := Aside0.mk (Lx.below HX.out hb); have HK2 := Aside0.mk (Lk.of_below (g := g) hb); clear hg hbox hb HX; have HX := HX2; have HK := HK2; clear HX2 HK2; have hc0 := HX.out.s; have hc1 := HX.out.i; have hz1 := HX.out.fz) | ((with_reducible refine gate_dst (N := 3) rfl ?_); (try (refine gate_guard (by rfl) ?_; dsimp only)); refine box_event ?hg (N := 3) ?hd (cs := #[.int .i64 0, .int .i64 0, .string (⟨#[]⟩ : ByteArray), .string (⟨#[]⟩ : ByteArray)]) (t := 62) ?hr ?_; (case hd => rfl); (case hg => rfl); (case hr => first | (go_simp; done) | (go_simp; rfl)); intro b3 hg w3 hbox hb; have HG3 := Aside0.mk hg; have K2L := Aside0.mk (Tk.lt K2.out); have K3 := Aside0.mk (show Tk w3 b3 0 0 ⟨#[]⟩ ⟨#[]⟩ from hbox); have HX2 := Aside0.mk (Lx.below HX.out hb); have HK2 := Aside0.mk (Lk.call HK.out hb); have K22 := Aside0.mk (Tk.call K2.out hb); clear hg hbox hb HX HK K2; have HX := HX2; have HK := HK2; have K2 := K22; clear HX2 HK2 K22; have ht0 := K3.out.c0; have ht1 := K3.out.c1; have ht2 := K3.out.c2; have ht3 := K3.out.c3; have hf0 := K3.out.fz 0; have hf1 := K3.out.fz 1; have hf2 := K3.out.fz 2; have hf3 := K3.out.fz 3))
            have HS2 := Aside0.mk (show w.heap.size ≤ b2 by rw [HG2.out]; exact Nat.le_refl _)
            have HS3 := Aside0.mk (show b2 < b3 by rw [HG3.out]; exact K2L.out)
            have N1 := Aside0.mk (show g ≠ b2 by have := HS2.out; have := HG.out; omega)
            have N2 := Aside0.mk (show g ≠ b3 by have := HS2.out; have := HS3.out; have := HG.out; omega)
            have N3 := Aside0.mk (show b2 ≠ b3 by have := HS3.out; omega)
            have HB3 := Aside0.mk (show w.heap.size ≤ b3 by have := HS2.out; have := HS3.out; omega)
            have HX4 : Aside0 (Lx ((((w3.setCell ⟨b3, 0, none⟩ (.int .i64 0)).setCell ⟨b3, 1, none⟩ (.int .i64 (i : Int))).setCell ⟨b3, 2, none⟩ (.string (⟨#[]⟩ : ByteArray))).setCell ⟨b3, 3, none⟩ (.string (⟨#[]⟩ : ByteArray))) g s i) := ⟨Lx.far (Lx.far (Lx.far (Lx.far HX.out N2.out _ _) N2.out _ _) N2.out _ _) N2.out _ _⟩
            have HK4 : Aside0 (Lk g w ((((w3.setCell ⟨b3, 0, none⟩ (.int .i64 0)).setCell ⟨b3, 1, none⟩ (.int .i64 (i : Int))).setCell ⟨b3, 2, none⟩ (.string (⟨#[]⟩ : ByteArray))).setCell ⟨b3, 3, none⟩ (.string (⟨#[]⟩ : ByteArray)))) := ⟨Lk.setN (Lk.setN (Lk.setN (Lk.setN HK.out HB3.out _ _) HB3.out _ _) HB3.out _ _) HB3.out _ _⟩
            have K24 : Aside0 (Tk ((((w3.setCell ⟨b3, 0, none⟩ (.int .i64 0)).setCell ⟨b3, 1, none⟩ (.int .i64 (i : Int))).setCell ⟨b3, 2, none⟩ (.string (⟨#[]⟩ : ByteArray))).setCell ⟨b3, 3, none⟩ (.string (⟨#[]⟩ : ByteArray))) b2 0 0 ⟨#[]⟩ ⟨#[]⟩) := ⟨Tk.far (Tk.far (Tk.far (Tk.far K2.out N3.out _ _) N3.out _ _) N3.out _ _) N3.out _ _⟩
            have K34 : Aside0 (Tk ((((w3.setCell ⟨b3, 0, none⟩ (.int .i64 0)).setCell ⟨b3, 1, none⟩ (.int .i64 (i : Int))).setCell ⟨b3, 2, none⟩ (.string (⟨#[]⟩ : ByteArray))).setCell ⟨b3, 3, none⟩ (.string (⟨#[]⟩ : ByteArray))) b3 0 (i : Int) ⟨#[]⟩ ⟨#[]⟩) := ⟨Tk.set3 (Tk.set2 (Tk.set1 (Tk.set0 K3.out _) _) _) _⟩
            clear HX HK K2 K3 hc0 hc1 hz1 ht0 ht1 ht2 ht3 hf0 hf1 hf2 hf3
            generalize ((((w3.setCell ⟨b3, 0, none⟩ (.int .i64 0)).setCell ⟨b3, 1, none⟩ (.int .i64 (i : Int))).setCell ⟨b3, 2, none⟩ (.string (⟨#[]⟩ : ByteArray))).setCell ⟨b3, 3, none⟩ (.string (⟨#[]⟩ : ByteArray))) = w4 at HX4 HK4 K24 K34 ⊢
            have hc0 := HX4.out.s
            have hc1 := HX4.out.i
            go_wp2
            refine wp_region_quiet_lit (by kernel_rfl) (by kernel_rfl) ?_
            repeat (go_big_quiet_step (fail))
            refine wpQuiet_nil ?_
            intro _ hw'
            obtain ⟨nq, hw''⟩ := hw'
            subst hw''
            go_wp2
            have HX5 : Aside0 (Lx (w4.drewN nq).drew g s i) := ⟨HX4.out⟩
            have HK5 : Aside0 (Lk g w (w4.drewN nq).drew) := ⟨(HK4.out.drewN nq).drew⟩
            have K25 : Aside0 (Tk (w4.drewN nq).drew b2 0 0 ⟨#[]⟩ ⟨#[]⟩) := ⟨K24.out⟩
            have K35 : Aside0 (Tk (w4.drewN nq).drew b3 0 (i : Int) ⟨#[]⟩ ⟨#[]⟩) := ⟨K34.out⟩
            clear HX4 HK4 K24 K34 hc0 hc1
            refine start_ (n := 11) (S := (fun w' => w'.cell? ⟨g, 0, none⟩ = some (.string s) ∧ w'.cell? ⟨g, 1, none⟩ = some (.int .i64 (i : Int)))) (ds := []) #[false, false, false, false, false, false, false, false, false, false, false] (by kernel_rfl) rfl rfl ⟨HX5.out.s, HX5.out.i⟩ (fun hHeld => ?_)
            refine with_tabW lexer_word.tab4 lexer_word.bits4 (fun HT_ HW_ => ?_)
            generalize (w4.drewN nq).drew = w5 at HX5 HK5 K25 K35 hHeld ⊢
            refine pure_ (i := 0) (N := (some 21)) (v := ?_) (a' := ?_) #[true, false, false, false, false, false, false, false, false, false, false] rfl rfl (any_of HT_.out (by kernel_rfl)) (fun _ _ _ h => h) (Or.inl ⟨by rfl, ?_⟩) ?_ ?_
            rotate_left
            ·intro w'
             go_simp
             with_reducible rfl
            rotate_left
            ·simp only [Act.put, List.setIfInBounds_toArray, List.set_cons_zero, List.set_cons_succ, i64_w, i32_w]
             rfl
            refine pure_ (i := 1) (N := (some 22)) (v := ?_) (a' := ?_) #[true, true, false, false, false, false, false, false, false, false, false] rfl rfl (any_of HT_.out (by kernel_rfl)) (fun _ _ _ h => h) (Or.inl ⟨by rfl, ?_⟩) ?_ ?_
            rotate_left
            ·intro w'
             go_simp
             with_reducible rfl
            rotate_left
            ·simp only [Act.put, List.setIfInBounds_toArray, List.set_cons_zero, List.set_cons_succ, i64_w, i32_w]
             rfl
            refine pure_ (i := 2) (N := (some 23)) (v := ?_) (a' := ?_) #[true, true, true, false, false, false, false, false, false, false, false] rfl rfl (any_of HT_.out (by kernel_rfl)) (fun _ _ _ h => h) (Or.inl ⟨by rfl, ?_⟩) ?_ ?_
            rotate_left
            ·intro w'
             go_simp
             with_reducible rfl
            rotate_left
            ·simp only [Act.put, List.setIfInBounds_toArray, List.set_cons_zero, List.set_cons_succ, i64_w, i32_w]
             rfl
            refine take_ (i := 3) (N := (some 24)) (v := ?_) (a' := ?_) #[true, true, true, true, false, false, false, false, false, false, false] rfl rfl (take_ofW HT_.out HW_.out (by kernel_rfl)) (fun _ _ _ h => h) (Or.inl ⟨by rfl, ?_⟩) hHeld ?_ ?_
            rotate_left
            ·rintro w' ⟨s0, s1⟩
             go_simp
             with_reducible rfl
            rotate_left
            ·simp only [Act.put, List.setIfInBounds_toArray, List.set_cons_zero, List.set_cons_succ, i64_w, i32_w]
             rfl
            refine pure_ (i := 4) (N := (some 25)) (v := ?_) (a' := ?_) #[true, true, true, true, true, false, false, false, false, false, false] rfl rfl (any_of HT_.out (by kernel_rfl)) (fun _ _ _ h => h) (Or.inl ⟨by rfl, ?_⟩) ?_ ?_
            rotate_left
            ·intro w'
             go_simp
             with_reducible rfl
            rotate_left
            ·simp only [Act.put, List.setIfInBounds_toArray, List.set_cons_zero, List.set_cons_succ, i64_w, i32_w]
             rfl
            refine pure_ (i := 5) (N := (some 26)) (v := ?_) (a' := ?_) #[true, true, true, true, true, true, false, false, false, false, false] rfl rfl (any_of HT_.out (by kernel_rfl)) (fun _ _ _ h => h) (Or.inl ⟨by rfl, ?_⟩) ?_ ?_
            rotate_left
            ·intro w'
             go_simp
             with_reducible rfl
            rotate_left
            ·simp only [Act.put, List.setIfInBounds_toArray, List.set_cons_zero, List.set_cons_succ, i64_w, i32_w]
             rfl
            refine pure_ (i := 6) (N := (some 27)) (v := ?_) (a' := ?_) #[true, true, true, true, true, true, true, false, false, false, false] rfl rfl (any_of HT_.out (by kernel_rfl)) (fun _ _ _ h => h) (Or.inl ⟨by rfl, ?_⟩) ?_ ?_
            rotate_left
            ·intro w'
             go_simp
             with_reducible rfl
            rotate_left
            ·simp only [Act.put, List.setIfInBounds_toArray, List.set_cons_zero, List.set_cons_succ, i64_w, i32_w]
             rfl
            refine take_ (i := 7) (N := (some 28)) (v := ?_) (a' := ?_) #[true, true, true, true, true, true, true, true, false, false, false] rfl rfl (take_ofW HT_.out HW_.out (by kernel_rfl)) (fun _ _ _ h => h) (Or.inl ⟨by rfl, ?_⟩) hHeld ?_ ?_
            rotate_left
            ·rintro w' ⟨s0, s1⟩
             go_simp
             with_reducible rfl
            rotate_left
            ·simp only [Act.put, List.setIfInBounds_toArray, List.set_cons_zero, List.set_cons_succ, i64_w, i32_w]
             rfl
            refine pure_ (i := 8) (N := (some 29)) (v := ?_) (a' := ?_) #[true, true, true, true, true, true, true, true, true, false, false] rfl rfl (any_of HT_.out (by kernel_rfl)) (fun _ _ _ h => h) (Or.inl ⟨by rfl, ?_⟩) ?_ ?_
            rotate_left
            ·intro w'
             go_simp
             with_reducible rfl
            rotate_left
            ·simp only [Act.put, List.setIfInBounds_toArray, List.set_cons_zero, List.set_cons_succ, i64_w, i32_w]
             rfl
            refine one_ (i := 9) (N := (some 30)) #[true, true, true, true, true, true, true, true, true, true, false] rfl rfl (one_of HT_.out (by kernel_rfl)) (by decide) (fun K hK => ?_)
            refine goes_ Tryz.func101 (by kernel_rfl) rfl #[.string (s.extract i s.size)] (by rfl) rfl rfl goa_ ?_
            refine (number_Scan.calls _ n _ A1.out).mono ?_
            rintro e w6 ⟨rfl, hb⟩
            refine ⟨_, rfl, ?_⟩
            have HX := Aside0.mk (HX5.out.below hb)
            have HK := Aside0.mk (HK5.out.call hb)
            have K2 := Aside0.mk (K25.out.call hb)
            have K3 := Aside0.mk (K35.out.call hb)
            clear hb HX5 HK5 K25 K35
            refine hK.out _ _ ⟨HX.out.s, HX.out.i⟩ (fun hHeld => ?_)
            clear hK K
            refine norm_ (a' := ?_) ?_ ?_
            rotate_left
            ·show Act.put _ (some 30) _ = _
             simp only [Act.put, List.setIfInBounds_toArray, List.set_cons_zero, List.set_cons_succ, i64_w, i32_w]
             rfl
            refine pure_ (i := 10) (N := (some 6)) (v := ?_) (a' := ?_) #[true, true, true, true, true, true, true, true, true, true, true] rfl rfl (any_of HT_.out (by kernel_rfl)) (fun _ _ _ h => h) (Or.inl ⟨by rfl, ?_⟩) ?_ ?_
            rotate_left
            ·intro w'
             go_simp
             with_reducible rfl
            rotate_left
            ·simp only [Act.put, List.setIfInBounds_toArray, List.set_cons_zero, List.set_cons_succ, i64_w, i32_w]
             rfl
            refine done_ (done_of HT_.out (by kernel_rfl)) ?_
            clear hHeld HT_ HW_
            have hc0 := HX.out.s
            have hc1 := HX.out.i
            have hz1 := HX.out.fz
            have ht0 := K3.out.c0
            have ht1 := K3.out.c1
            have ht2 := K3.out.c2
            have ht3 := K3.out.c3
            have hf0 := K3.out.fz 0
            have hf1 := K3.out.fz 1
            have hf2 := K3.out.fz 2
            have hf3 := K3.out.fz 3
            have hne := N2.out
            have hne2 := N2.out.symm
            have hne3 := N1.out
            have hne4 := N1.out.symm
            have hne5 := N3.out
            have hne6 := N3.out.symm
            go_wp2_with (first | (go_at_call 104; with_reducible refine (begins_calls k s g i HS.out HII.out _ _ ?lx A2.out).mono ?_; (case lx => exact (by repeat (first | (with_reducible first | exact HX.out | apply Lx.drewN | apply Lx.drew | apply Lx.set | apply lx_far N2.out)))); rintro e wb ⟨rfl, hb⟩; have HXn := Aside0.mk (Lx.below (by repeat (first | (with_reducible first | exact HX.out | apply Lx.drewN | apply Lx.drew | apply Lx.set | apply lx_far N2.out))) hb); have HKn := Aside0.mk (Lk.call (by repeat (first | (with_reducible first | exact HK.out | apply Lk.drewN | apply Lk.drew | apply Lk.set | apply lk_setN HB3.out))) hb); have K2n := Aside0.mk (Tk.call (by repeat (first | (with_reducible first | exact K2.out | apply Tk.drewN | apply Tk.drew | apply tk_far N1.out.symm | apply tk_far N3.out))) hb); have K3n := Aside0.mk (Tk.call (by repeat (first | (with_reducible first | exact K3.out | apply Tk.drewN | apply Tk.drew | apply tk_far N2.out.symm))) hb); clear hb; clear HX HK K2 K3; have HX := HXn; have HK := HKn; have K2 := K2n; have K3 := K3n; clear HXn HKn K2n K3n; have hc0 := HX.out.s; have hc1 := HX.out.i; have hz1 := HX.out.fz; have ht0 := K3.out.c0; have ht1 := K3.out.c1; have ht2 := K3.out.c2; have ht3 := K3.out.c3; have hf0 := K3.out.fz 0; have hf1 := K3.out.fz 1; have hf2 := K3.out.fz 2; have hf3 := K3.out.fz 3; have hr0 := K2.out.c0; have hr1 := K2.out.c1; have hr2 := K2.out.c2; have hr3 := K2.out.c3; have hs0 := K2.out.fz 0; have hs1 := K2.out.fz 1; have hs2 := K2.out.fz 2; have hs3 := K2.out.fz 3) | (go_at_call 53; refine (strings_IndexByte.calls _ _ _ _ A3.out).mono ?_; rintro e wq ⟨rfl, ⟨nx, rfl⟩⟩))
            go_region
            go_wp2
            refine bodyPost_ret (results_cell_row rfl _ _ b2 62 #[.int .i64 7, .int .i64 (i : Int), .string x, .string (⟨#[]⟩ : ByteArray)] (0, 0) _ rfl (show _ from Tk.set3 (Tk.set2 (Tk.set1 (Tk.set0 (by repeat (first | (with_reducible first | exact K2.out | apply Tk.drewN | apply Tk.drew | apply tk_far N1.out.symm | apply tk_far N3.out))) _) _) _) _) huT rfl (by kernel_rfl)) rfl ?_
            exact ⟨rfl, Lx.far (Lx.far (Lx.far (Lx.far (Lx.setv (by repeat (first | (with_reducible first | exact HX.out | apply Lx.drewN | apply Lx.drew | apply Lx.set | apply lx_far N2.out))) (by first | with_reducible rfl | with_reducible exact hwi1)) N1.out _ _) N1.out _ _) N1.out _ _) N1.out _ _, Lk.setN (Lk.setN (Lk.setN (Lk.setN (by repeat (first | (with_reducible first | exact HK.out | apply Lk.drewN | apply Lk.drew | apply Lk.set | apply lk_setN HB3.out))) HS2.out _ _) HS2.out _ _) HS2.out _ _) HS2.out _ _⟩
          · rw [if_neg h4] at hf
            cases hf
      · rw [if_pos rfl] at hf
        obtain ⟨⟨l, e⟩, ht, hf⟩ := Option.bind_eq_some_iff.mp hf
        have A4 := Aside0.mk ht
        clear ht
        try dsimp only at hf
        by_cases h3 : l.length ≤ 64 ∧ e ≤ s.size
        · rw [if_pos h3] at hf
          obtain ⟨p, hp, hf⟩ := Option.bind_eq_some_iff.mp hf
          have A5 := Aside0.mk hp
          clear hp
          obtain ⟨x, hx⟩ : ∃ x : ByteArray, (⟨l.toArray⟩ : ByteArray) = x := ⟨_, rfl⟩
          have HTX := Aside0.mk hx
          have hxs : x.size ≤ 64 := by
            rw [← hx]
            show l.toArray.size ≤ 64
            rw [List.size_toArray]
            exact h3.1
          have p8 : decide ((x.size : Int) > 64) = false := decide_eq_false (by omega)
          have p9 : decide (64 < (x.size : Int)) = false := decide_eq_false (by omega)
          have HE := Aside0.mk h3.2
          have HWE := Aside0.mk (show IntKind.i64.wrap (e : Int) = (e : Int) from wrapE e 0 (by have := HE.out; have := HS.out; omega))
          have hwe1 : wrap64 ((e : Int) + 1) = ((e + 1 : Nat) : Int) := by have := HE.out; have := HS.out; unfold wrap64; omega
          rw [hx] at hf
          clear h3 hxs hx
          cases p
          · rw [if_neg (by decide)] at hf
            obtain ⟨rfl, rfl, rfl, rfl⟩ : (1 : Int) = kd ∧ x = tx ∧ (⟨#[]⟩ : ByteArray) = nm ∧ e = j := by
              have h := Option.some.inj hf
              simp only [Prod.mk.injEq] at h
              exact h
            clear hf
            go_enter Tryz.func85, Tryz.ntmps85
            go_wp2_with (first | ((with_reducible refine gate_dst (N := 2) rfl ?_); (try (refine gate_guard (by rfl) ?_; dsimp only)); refine box_event ?hg (N := 2) ?hd (cs := #[.int .i64 0, .int .i64 0, .string (⟨#[]⟩ : ByteArray), .string (⟨#[]⟩ : ByteArray)]) (t := 62) ?hr ?_; (case hd => rfl); (case hg => rfl); (case hr => first | (go_simp; done) | (go_simp; rfl)); intro b2 hg w2 hbox hb; have HG2 := Aside0.mk hg; have K2 := Aside0.mk (show Tk w2 b2 0 0 ⟨#[]⟩ ⟨#[]⟩ from hbox); have HX2 := Aside0.mk (Lx.below HX.out hb); have HK2 := Aside0.mk (Lk.of_below (g := g) hb); clear hg hbox hb HX; have HX := HX2; have HK := HK2; clear HX2 HK2; have hc0 := HX.out.s; have hc1 := HX.out.i; have hz1 := HX.out.fz) | ((with_reducible refine gate_dst (N := 3) rfl ?_); (try (refine gate_guard (by rfl) ?_; dsimp only)); refine box_event ?hg (N := 3) ?hd (cs := #[.int .i64 0, .int .i64 0, .string (⟨#[]⟩ : ByteArray), .string (⟨#[]⟩ : ByteArray)]) (t := 62) ?hr ?_; (case hd => rfl); (case hg => rfl); (case hr => first | (go_simp; done) | (go_simp; rfl)); intro b3 hg w3 hbox hb; have HG3 := Aside0.mk hg; have K2L := Aside0.mk (Tk.lt K2.out); have K3 := Aside0.mk (show Tk w3 b3 0 0 ⟨#[]⟩ ⟨#[]⟩ from hbox); have HX2 := Aside0.mk (Lx.below HX.out hb); have HK2 := Aside0.mk (Lk.call HK.out hb); have K22 := Aside0.mk (Tk.call K2.out hb); clear hg hbox hb HX HK K2; have HX := HX2; have HK := HK2; have K2 := K22; clear HX2 HK2 K22; have ht0 := K3.out.c0; have ht1 := K3.out.c1; have ht2 := K3.out.c2; have ht3 := K3.out.c3; have hf0 := K3.out.fz 0; have hf1 := K3.out.fz 1; have hf2 := K3.out.fz 2; have hf3 := K3.out.fz 3))
            have HS2 := Aside0.mk (show w.heap.size ≤ b2 by rw [HG2.out]; exact Nat.le_refl _)
            have HS3 := Aside0.mk (show b2 < b3 by rw [HG3.out]; exact K2L.out)
            have N1 := Aside0.mk (show g ≠ b2 by have := HS2.out; have := HG.out; omega)
            have N2 := Aside0.mk (show g ≠ b3 by have := HS2.out; have := HS3.out; have := HG.out; omega)
            have N3 := Aside0.mk (show b2 ≠ b3 by have := HS3.out; omega)
            have HB3 := Aside0.mk (show w.heap.size ≤ b3 by have := HS2.out; have := HS3.out; omega)
            have HX4 : Aside0 (Lx ((((w3.setCell ⟨b3, 0, none⟩ (.int .i64 0)).setCell ⟨b3, 1, none⟩ (.int .i64 (i : Int))).setCell ⟨b3, 2, none⟩ (.string (⟨#[]⟩ : ByteArray))).setCell ⟨b3, 3, none⟩ (.string (⟨#[]⟩ : ByteArray))) g s i) := ⟨Lx.far (Lx.far (Lx.far (Lx.far HX.out N2.out _ _) N2.out _ _) N2.out _ _) N2.out _ _⟩
            have HK4 : Aside0 (Lk g w ((((w3.setCell ⟨b3, 0, none⟩ (.int .i64 0)).setCell ⟨b3, 1, none⟩ (.int .i64 (i : Int))).setCell ⟨b3, 2, none⟩ (.string (⟨#[]⟩ : ByteArray))).setCell ⟨b3, 3, none⟩ (.string (⟨#[]⟩ : ByteArray)))) := ⟨Lk.setN (Lk.setN (Lk.setN (Lk.setN HK.out HB3.out _ _) HB3.out _ _) HB3.out _ _) HB3.out _ _⟩
            have K24 : Aside0 (Tk ((((w3.setCell ⟨b3, 0, none⟩ (.int .i64 0)).setCell ⟨b3, 1, none⟩ (.int .i64 (i : Int))).setCell ⟨b3, 2, none⟩ (.string (⟨#[]⟩ : ByteArray))).setCell ⟨b3, 3, none⟩ (.string (⟨#[]⟩ : ByteArray))) b2 0 0 ⟨#[]⟩ ⟨#[]⟩) := ⟨Tk.far (Tk.far (Tk.far (Tk.far K2.out N3.out _ _) N3.out _ _) N3.out _ _) N3.out _ _⟩
            have K34 : Aside0 (Tk ((((w3.setCell ⟨b3, 0, none⟩ (.int .i64 0)).setCell ⟨b3, 1, none⟩ (.int .i64 (i : Int))).setCell ⟨b3, 2, none⟩ (.string (⟨#[]⟩ : ByteArray))).setCell ⟨b3, 3, none⟩ (.string (⟨#[]⟩ : ByteArray))) b3 0 (i : Int) ⟨#[]⟩ ⟨#[]⟩) := ⟨Tk.set3 (Tk.set2 (Tk.set1 (Tk.set0 K3.out _) _) _) _⟩
            clear HX HK K2 K3 hc0 hc1 hz1 ht0 ht1 ht2 ht3 hf0 hf1 hf2 hf3
            generalize ((((w3.setCell ⟨b3, 0, none⟩ (.int .i64 0)).setCell ⟨b3, 1, none⟩ (.int .i64 (i : Int))).setCell ⟨b3, 2, none⟩ (.string (⟨#[]⟩ : ByteArray))).setCell ⟨b3, 3, none⟩ (.string (⟨#[]⟩ : ByteArray))) = w4 at HX4 HK4 K24 K34 ⊢
            have hc0 := HX4.out.s
            have hc1 := HX4.out.i
            go_wp2
            refine wp_region_quiet_lit (by kernel_rfl) (by kernel_rfl) ?_
            repeat (go_big_quiet_step (fail))
            refine wpQuiet_nil ?_
            intro _ hw'
            obtain ⟨nq, hw''⟩ := hw'
            subst hw''
            go_wp2
            have HX5 : Aside0 (Lx (w4.drewN nq).drew g s i) := ⟨HX4.out⟩
            have HK5 : Aside0 (Lk g w (w4.drewN nq).drew) := ⟨(HK4.out.drewN nq).drew⟩
            have K25 : Aside0 (Tk (w4.drewN nq).drew b2 0 0 ⟨#[]⟩ ⟨#[]⟩) := ⟨K24.out⟩
            have K35 : Aside0 (Tk (w4.drewN nq).drew b3 0 (i : Int) ⟨#[]⟩ ⟨#[]⟩) := ⟨K34.out⟩
            clear HX4 HK4 K24 K34 hc0 hc1
            refine start_ (n := 11) (S := (fun w' => w'.cell? ⟨g, 0, none⟩ = some (.string s) ∧ w'.cell? ⟨g, 1, none⟩ = some (.int .i64 (i : Int)))) (ds := []) #[false, false, false, false, false, false, false, false, false, false, false] (by kernel_rfl) rfl rfl ⟨HX5.out.s, HX5.out.i⟩ (fun hHeld => ?_)
            refine with_tabW lexer_word.tab4 lexer_word.bits4 (fun HT_ HW_ => ?_)
            generalize (w4.drewN nq).drew = w5 at HX5 HK5 K25 K35 hHeld ⊢
            refine pure_ (i := 0) (N := (some 21)) (v := ?_) (a' := ?_) #[true, false, false, false, false, false, false, false, false, false, false] rfl rfl (any_of HT_.out (by kernel_rfl)) (fun _ _ _ h => h) (Or.inl ⟨by rfl, ?_⟩) ?_ ?_
            rotate_left
            ·intro w'
             go_simp
             with_reducible rfl
            rotate_left
            ·simp only [Act.put, List.setIfInBounds_toArray, List.set_cons_zero, List.set_cons_succ, i64_w, i32_w]
             rfl
            refine pure_ (i := 1) (N := (some 22)) (v := ?_) (a' := ?_) #[true, true, false, false, false, false, false, false, false, false, false] rfl rfl (any_of HT_.out (by kernel_rfl)) (fun _ _ _ h => h) (Or.inl ⟨by rfl, ?_⟩) ?_ ?_
            rotate_left
            ·intro w'
             go_simp
             with_reducible rfl
            rotate_left
            ·simp only [Act.put, List.setIfInBounds_toArray, List.set_cons_zero, List.set_cons_succ, i64_w, i32_w]
             rfl
            refine pure_ (i := 2) (N := (some 23)) (v := ?_) (a' := ?_) #[true, true, true, false, false, false, false, false, false, false, false] rfl rfl (any_of HT_.out (by kernel_rfl)) (fun _ _ _ h => h) (Or.inl ⟨by rfl, ?_⟩) ?_ ?_
            rotate_left
            ·intro w'
             go_simp
             with_reducible rfl
            rotate_left
            ·simp only [Act.put, List.setIfInBounds_toArray, List.set_cons_zero, List.set_cons_succ, i64_w, i32_w]
             rfl
            refine take_ (i := 3) (N := (some 24)) (v := ?_) (a' := ?_) #[true, true, true, true, false, false, false, false, false, false, false] rfl rfl (take_ofW HT_.out HW_.out (by kernel_rfl)) (fun _ _ _ h => h) (Or.inl ⟨by rfl, ?_⟩) hHeld ?_ ?_
            rotate_left
            ·rintro w' ⟨s0, s1⟩
             go_simp
             with_reducible rfl
            rotate_left
            ·simp only [Act.put, List.setIfInBounds_toArray, List.set_cons_zero, List.set_cons_succ, i64_w, i32_w]
             rfl
            refine pure_ (i := 4) (N := (some 25)) (v := ?_) (a' := ?_) #[true, true, true, true, true, false, false, false, false, false, false] rfl rfl (any_of HT_.out (by kernel_rfl)) (fun _ _ _ h => h) (Or.inl ⟨by rfl, ?_⟩) ?_ ?_
            rotate_left
            ·intro w'
             go_simp
             with_reducible rfl
            rotate_left
            ·simp only [Act.put, List.setIfInBounds_toArray, List.set_cons_zero, List.set_cons_succ, i64_w, i32_w]
             rfl
            refine pure_ (i := 5) (N := (some 26)) (v := ?_) (a' := ?_) #[true, true, true, true, true, true, false, false, false, false, false] rfl rfl (any_of HT_.out (by kernel_rfl)) (fun _ _ _ h => h) (Or.inl ⟨by rfl, ?_⟩) ?_ ?_
            rotate_left
            ·intro w'
             go_simp
             with_reducible rfl
            rotate_left
            ·simp only [Act.put, List.setIfInBounds_toArray, List.set_cons_zero, List.set_cons_succ, i64_w, i32_w]
             rfl
            refine pure_ (i := 6) (N := (some 27)) (v := ?_) (a' := ?_) #[true, true, true, true, true, true, true, false, false, false, false] rfl rfl (any_of HT_.out (by kernel_rfl)) (fun _ _ _ h => h) (Or.inl ⟨by rfl, ?_⟩) ?_ ?_
            rotate_left
            ·intro w'
             go_simp
             with_reducible rfl
            rotate_left
            ·simp only [Act.put, List.setIfInBounds_toArray, List.set_cons_zero, List.set_cons_succ, i64_w, i32_w]
             rfl
            refine take_ (i := 7) (N := (some 28)) (v := ?_) (a' := ?_) #[true, true, true, true, true, true, true, true, false, false, false] rfl rfl (take_ofW HT_.out HW_.out (by kernel_rfl)) (fun _ _ _ h => h) (Or.inl ⟨by rfl, ?_⟩) hHeld ?_ ?_
            rotate_left
            ·rintro w' ⟨s0, s1⟩
             go_simp
             with_reducible rfl
            rotate_left
            ·simp only [Act.put, List.setIfInBounds_toArray, List.set_cons_zero, List.set_cons_succ, i64_w, i32_w]
             rfl
            refine pure_ (i := 8) (N := (some 29)) (v := ?_) (a' := ?_) #[true, true, true, true, true, true, true, true, true, false, false] rfl rfl (any_of HT_.out (by kernel_rfl)) (fun _ _ _ h => h) (Or.inl ⟨by rfl, ?_⟩) ?_ ?_
            rotate_left
            ·intro w'
             go_simp
             with_reducible rfl
            rotate_left
            ·simp only [Act.put, List.setIfInBounds_toArray, List.set_cons_zero, List.set_cons_succ, i64_w, i32_w]
             rfl
            refine one_ (i := 9) (N := (some 30)) #[true, true, true, true, true, true, true, true, true, true, false] rfl rfl (one_of HT_.out (by kernel_rfl)) (by decide) (fun K hK => ?_)
            refine goes_ Tryz.func101 (by kernel_rfl) rfl #[.string (s.extract i s.size)] (by rfl) rfl rfl goa_ ?_
            refine (number_Scan.calls _ n _ A1.out).mono ?_
            rintro e w6 ⟨rfl, hb⟩
            refine ⟨_, rfl, ?_⟩
            have HX := Aside0.mk (HX5.out.below hb)
            have HK := Aside0.mk (HK5.out.call hb)
            have K2 := Aside0.mk (K25.out.call hb)
            have K3 := Aside0.mk (K35.out.call hb)
            clear hb HX5 HK5 K25 K35
            refine hK.out _ _ ⟨HX.out.s, HX.out.i⟩ (fun hHeld => ?_)
            clear hK K
            refine norm_ (a' := ?_) ?_ ?_
            rotate_left
            ·show Act.put _ (some 30) _ = _
             simp only [Act.put, List.setIfInBounds_toArray, List.set_cons_zero, List.set_cons_succ, i64_w, i32_w]
             rfl
            refine pure_ (i := 10) (N := (some 6)) (v := ?_) (a' := ?_) #[true, true, true, true, true, true, true, true, true, true, true] rfl rfl (any_of HT_.out (by kernel_rfl)) (fun _ _ _ h => h) (Or.inl ⟨by rfl, ?_⟩) ?_ ?_
            rotate_left
            ·intro w'
             go_simp
             with_reducible rfl
            rotate_left
            ·simp only [Act.put, List.setIfInBounds_toArray, List.set_cons_zero, List.set_cons_succ, i64_w, i32_w]
             rfl
            refine done_ (done_of HT_.out (by kernel_rfl)) ?_
            clear hHeld HT_ HW_
            have hc0 := HX.out.s
            have hc1 := HX.out.i
            have hz1 := HX.out.fz
            have ht0 := K3.out.c0
            have ht1 := K3.out.c1
            have ht2 := K3.out.c2
            have ht3 := K3.out.c3
            have hf0 := K3.out.fz 0
            have hf1 := K3.out.fz 1
            have hf2 := K3.out.fz 2
            have hf3 := K3.out.fz 3
            have hne := N2.out
            have hne2 := N2.out.symm
            have hne3 := N1.out
            have hne4 := N1.out.symm
            have hne5 := N3.out
            have hne6 := N3.out.symm
            go_wp2_with (first | (go_at_call 104; with_reducible refine (begins_calls k s g i HS.out HII.out _ _ ?lx A2.out).mono ?_; (case lx => exact (by repeat (first | (with_reducible first | exact HX.out | apply Lx.drewN | apply Lx.drew | apply Lx.set | apply lx_far N2.out)))); rintro e wb ⟨rfl, hb⟩; have HXn := Aside0.mk (Lx.below (by repeat (first | (with_reducible first | exact HX.out | apply Lx.drewN | apply Lx.drew | apply Lx.set | apply lx_far N2.out))) hb); have HKn := Aside0.mk (Lk.call (by repeat (first | (with_reducible first | exact HK.out | apply Lk.drewN | apply Lk.drew | apply Lk.set | apply lk_setN HB3.out))) hb); have K2n := Aside0.mk (Tk.call (by repeat (first | (with_reducible first | exact K2.out | apply Tk.drewN | apply Tk.drew | apply tk_far N1.out.symm | apply tk_far N3.out))) hb); have K3n := Aside0.mk (Tk.call (by repeat (first | (with_reducible first | exact K3.out | apply Tk.drewN | apply Tk.drew | apply tk_far N2.out.symm))) hb); clear hb; clear HX HK K2 K3; have HX := HXn; have HK := HKn; have K2 := K2n; have K3 := K3n; clear HXn HKn K2n K3n; have hc0 := HX.out.s; have hc1 := HX.out.i; have hz1 := HX.out.fz; have ht0 := K3.out.c0; have ht1 := K3.out.c1; have ht2 := K3.out.c2; have ht3 := K3.out.c3; have hf0 := K3.out.fz 0; have hf1 := K3.out.fz 1; have hf2 := K3.out.fz 2; have hf3 := K3.out.fz 3; have hr0 := K2.out.c0; have hr1 := K2.out.c1; have hr2 := K2.out.c2; have hr3 := K2.out.c3; have hs0 := K2.out.fz 0; have hs1 := K2.out.fz 1; have hs2 := K2.out.fz 2; have hs3 := K2.out.fz 3) | (go_at_call 105; with_reducible refine (ident_calls k s g i _ _ HS.out HII.out _ ?lx A4.out).mono ?_; (case lx => exact (by repeat (first | (with_reducible first | exact HX.out | apply Lx.drewN | apply Lx.drew | apply Lx.set | apply lx_far N2.out)))); rintro e wd ⟨rfl, hx, hk⟩; rw [HTX.out]; have HXn := Aside0.mk hx; have HKn := Aside0.mk (Lk.trans (by repeat (first | (with_reducible first | exact HK.out | apply Lk.drewN | apply Lk.drew | apply Lk.set | apply lk_setN HB3.out))) hk); have K2n := Aside0.mk (Tk.lk (by repeat (first | (with_reducible first | exact K2.out | apply Tk.drewN | apply Tk.drew | apply tk_far N1.out.symm | apply tk_far N3.out))) hk N1.out.symm); have K3n := Aside0.mk (Tk.lk (by repeat (first | (with_reducible first | exact K3.out | apply Tk.drewN | apply Tk.drew | apply tk_far N2.out.symm))) hk N2.out.symm); clear hx hk; clear HX HK K2 K3; have HX := HXn; have HK := HKn; have K2 := K2n; have K3 := K3n; clear HXn HKn K2n K3n; have hc0 := HX.out.s; have hc1 := HX.out.i; have hz1 := HX.out.fz; have ht0 := K3.out.c0; have ht1 := K3.out.c1; have ht2 := K3.out.c2; have ht3 := K3.out.c3; have hf0 := K3.out.fz 0; have hf1 := K3.out.fz 1; have hf2 := K3.out.fz 2; have hf3 := K3.out.fz 3; have hr0 := K2.out.c0; have hr1 := K2.out.c1; have hr2 := K2.out.c2; have hr3 := K2.out.c3; have hs0 := K2.out.fz 0; have hs1 := K2.out.fz 1; have hs2 := K2.out.fz 2; have hs3 := K2.out.fz 3) | (go_at_call 102; with_reducible refine (is_paren0 s g e e HS.out HWE.out _ _ ?lx A5.out).mono ?_; (case lx => exact (by repeat (first | (with_reducible first | exact HX.out | apply Lx.drewN | apply Lx.drew | apply Lx.set | apply lx_far N2.out)))); rintro e wi ⟨rfl, ⟨ni, rfl⟩⟩))
            refine bodyPost_ret (results_cell_row rfl _ _ b2 62 #[.int .i64 1, .int .i64 (i : Int), .string x, .string (⟨#[]⟩ : ByteArray)] (0, 0) _ rfl (show _ from Tk.set3 (Tk.set2 (Tk.set1 (Tk.set0 (by repeat (first | (with_reducible first | exact K2.out | apply Tk.drewN | apply Tk.drew | apply tk_far N1.out.symm | apply tk_far N3.out))) _) _) _) _) huT rfl (by kernel_rfl)) rfl ?_
            exact ⟨rfl, Lx.far (Lx.far (Lx.far (Lx.far (by repeat (first | (with_reducible first | exact HX.out | apply Lx.drewN | apply Lx.drew | apply Lx.set | apply lx_far N2.out))) N1.out _ _) N1.out _ _) N1.out _ _) N1.out _ _, Lk.setN (Lk.setN (Lk.setN (Lk.setN (by repeat (first | (with_reducible first | exact HK.out | apply Lk.drewN | apply Lk.drew | apply Lk.set | apply lk_setN HB3.out))) HS2.out _ _) HS2.out _ _) HS2.out _ _) HS2.out _ _⟩
          · rw [if_pos rfl] at hf
            obtain ⟨rfl, rfl, rfl, rfl⟩ : (2 : Int) = kd ∧ x = tx ∧ (⟨#[]⟩ : ByteArray) = nm ∧ e + 1 = j := by
              have h := Option.some.inj hf
              simp only [Prod.mk.injEq] at h
              exact h
            clear hf
            go_enter Tryz.func85, Tryz.ntmps85
            go_wp2_with (first | ((with_reducible refine gate_dst (N := 2) rfl ?_); (try (refine gate_guard (by rfl) ?_; dsimp only)); refine box_event ?hg (N := 2) ?hd (cs := #[.int .i64 0, .int .i64 0, .string (⟨#[]⟩ : ByteArray), .string (⟨#[]⟩ : ByteArray)]) (t := 62) ?hr ?_; (case hd => rfl); (case hg => rfl); (case hr => first | (go_simp; done) | (go_simp; rfl)); intro b2 hg w2 hbox hb; have HG2 := Aside0.mk hg; have K2 := Aside0.mk (show Tk w2 b2 0 0 ⟨#[]⟩ ⟨#[]⟩ from hbox); have HX2 := Aside0.mk (Lx.below HX.out hb); have HK2 := Aside0.mk (Lk.of_below (g := g) hb); clear hg hbox hb HX; have HX := HX2; have HK := HK2; clear HX2 HK2; have hc0 := HX.out.s; have hc1 := HX.out.i; have hz1 := HX.out.fz) | ((with_reducible refine gate_dst (N := 3) rfl ?_); (try (refine gate_guard (by rfl) ?_; dsimp only)); refine box_event ?hg (N := 3) ?hd (cs := #[.int .i64 0, .int .i64 0, .string (⟨#[]⟩ : ByteArray), .string (⟨#[]⟩ : ByteArray)]) (t := 62) ?hr ?_; (case hd => rfl); (case hg => rfl); (case hr => first | (go_simp; done) | (go_simp; rfl)); intro b3 hg w3 hbox hb; have HG3 := Aside0.mk hg; have K2L := Aside0.mk (Tk.lt K2.out); have K3 := Aside0.mk (show Tk w3 b3 0 0 ⟨#[]⟩ ⟨#[]⟩ from hbox); have HX2 := Aside0.mk (Lx.below HX.out hb); have HK2 := Aside0.mk (Lk.call HK.out hb); have K22 := Aside0.mk (Tk.call K2.out hb); clear hg hbox hb HX HK K2; have HX := HX2; have HK := HK2; have K2 := K22; clear HX2 HK2 K22; have ht0 := K3.out.c0; have ht1 := K3.out.c1; have ht2 := K3.out.c2; have ht3 := K3.out.c3; have hf0 := K3.out.fz 0; have hf1 := K3.out.fz 1; have hf2 := K3.out.fz 2; have hf3 := K3.out.fz 3))
            have HS2 := Aside0.mk (show w.heap.size ≤ b2 by rw [HG2.out]; exact Nat.le_refl _)
            have HS3 := Aside0.mk (show b2 < b3 by rw [HG3.out]; exact K2L.out)
            have N1 := Aside0.mk (show g ≠ b2 by have := HS2.out; have := HG.out; omega)
            have N2 := Aside0.mk (show g ≠ b3 by have := HS2.out; have := HS3.out; have := HG.out; omega)
            have N3 := Aside0.mk (show b2 ≠ b3 by have := HS3.out; omega)
            have HB3 := Aside0.mk (show w.heap.size ≤ b3 by have := HS2.out; have := HS3.out; omega)
            have HX4 : Aside0 (Lx ((((w3.setCell ⟨b3, 0, none⟩ (.int .i64 0)).setCell ⟨b3, 1, none⟩ (.int .i64 (i : Int))).setCell ⟨b3, 2, none⟩ (.string (⟨#[]⟩ : ByteArray))).setCell ⟨b3, 3, none⟩ (.string (⟨#[]⟩ : ByteArray))) g s i) := ⟨Lx.far (Lx.far (Lx.far (Lx.far HX.out N2.out _ _) N2.out _ _) N2.out _ _) N2.out _ _⟩
            have HK4 : Aside0 (Lk g w ((((w3.setCell ⟨b3, 0, none⟩ (.int .i64 0)).setCell ⟨b3, 1, none⟩ (.int .i64 (i : Int))).setCell ⟨b3, 2, none⟩ (.string (⟨#[]⟩ : ByteArray))).setCell ⟨b3, 3, none⟩ (.string (⟨#[]⟩ : ByteArray)))) := ⟨Lk.setN (Lk.setN (Lk.setN (Lk.setN HK.out HB3.out _ _) HB3.out _ _) HB3.out _ _) HB3.out _ _⟩
            have K24 : Aside0 (Tk ((((w3.setCell ⟨b3, 0, none⟩ (.int .i64 0)).setCell ⟨b3, 1, none⟩ (.int .i64 (i : Int))).setCell ⟨b3, 2, none⟩ (.string (⟨#[]⟩ : ByteArray))).setCell ⟨b3, 3, none⟩ (.string (⟨#[]⟩ : ByteArray))) b2 0 0 ⟨#[]⟩ ⟨#[]⟩) := ⟨Tk.far (Tk.far (Tk.far (Tk.far K2.out N3.out _ _) N3.out _ _) N3.out _ _) N3.out _ _⟩
            have K34 : Aside0 (Tk ((((w3.setCell ⟨b3, 0, none⟩ (.int .i64 0)).setCell ⟨b3, 1, none⟩ (.int .i64 (i : Int))).setCell ⟨b3, 2, none⟩ (.string (⟨#[]⟩ : ByteArray))).setCell ⟨b3, 3, none⟩ (.string (⟨#[]⟩ : ByteArray))) b3 0 (i : Int) ⟨#[]⟩ ⟨#[]⟩) := ⟨Tk.set3 (Tk.set2 (Tk.set1 (Tk.set0 K3.out _) _) _) _⟩
            clear HX HK K2 K3 hc0 hc1 hz1 ht0 ht1 ht2 ht3 hf0 hf1 hf2 hf3
            generalize ((((w3.setCell ⟨b3, 0, none⟩ (.int .i64 0)).setCell ⟨b3, 1, none⟩ (.int .i64 (i : Int))).setCell ⟨b3, 2, none⟩ (.string (⟨#[]⟩ : ByteArray))).setCell ⟨b3, 3, none⟩ (.string (⟨#[]⟩ : ByteArray))) = w4 at HX4 HK4 K24 K34 ⊢
            have hc0 := HX4.out.s
            have hc1 := HX4.out.i
            go_wp2
            refine wp_region_quiet_lit (by kernel_rfl) (by kernel_rfl) ?_
            repeat (go_big_quiet_step (fail))
            refine wpQuiet_nil ?_
            intro _ hw'
            obtain ⟨nq, hw''⟩ := hw'
            subst hw''
            go_wp2
            have HX5 : Aside0 (Lx (w4.drewN nq).drew g s i) := ⟨HX4.out⟩
            have HK5 : Aside0 (Lk g w (w4.drewN nq).drew) := ⟨(HK4.out.drewN nq).drew⟩
            have K25 : Aside0 (Tk (w4.drewN nq).drew b2 0 0 ⟨#[]⟩ ⟨#[]⟩) := ⟨K24.out⟩
            have K35 : Aside0 (Tk (w4.drewN nq).drew b3 0 (i : Int) ⟨#[]⟩ ⟨#[]⟩) := ⟨K34.out⟩
            clear HX4 HK4 K24 K34 hc0 hc1
            refine start_ (n := 11) (S := (fun w' => w'.cell? ⟨g, 0, none⟩ = some (.string s) ∧ w'.cell? ⟨g, 1, none⟩ = some (.int .i64 (i : Int)))) (ds := []) #[false, false, false, false, false, false, false, false, false, false, false] (by kernel_rfl) rfl rfl ⟨HX5.out.s, HX5.out.i⟩ (fun hHeld => ?_)
            refine with_tabW lexer_word.tab4 lexer_word.bits4 (fun HT_ HW_ => ?_)
            generalize (w4.drewN nq).drew = w5 at HX5 HK5 K25 K35 hHeld ⊢
            refine pure_ (i := 0) (N := (some 21)) (v := ?_) (a' := ?_) #[true, false, false, false, false, false, false, false, false, false, false] rfl rfl (any_of HT_.out (by kernel_rfl)) (fun _ _ _ h => h) (Or.inl ⟨by rfl, ?_⟩) ?_ ?_
            rotate_left
            ·intro w'
             go_simp
             with_reducible rfl
            rotate_left
            ·simp only [Act.put, List.setIfInBounds_toArray, List.set_cons_zero, List.set_cons_succ, i64_w, i32_w]
             rfl
            refine pure_ (i := 1) (N := (some 22)) (v := ?_) (a' := ?_) #[true, true, false, false, false, false, false, false, false, false, false] rfl rfl (any_of HT_.out (by kernel_rfl)) (fun _ _ _ h => h) (Or.inl ⟨by rfl, ?_⟩) ?_ ?_
            rotate_left
            ·intro w'
             go_simp
             with_reducible rfl
            rotate_left
            ·simp only [Act.put, List.setIfInBounds_toArray, List.set_cons_zero, List.set_cons_succ, i64_w, i32_w]
             rfl
            refine pure_ (i := 2) (N := (some 23)) (v := ?_) (a' := ?_) #[true, true, true, false, false, false, false, false, false, false, false] rfl rfl (any_of HT_.out (by kernel_rfl)) (fun _ _ _ h => h) (Or.inl ⟨by rfl, ?_⟩) ?_ ?_
            rotate_left
            ·intro w'
             go_simp
             with_reducible rfl
            rotate_left
            ·simp only [Act.put, List.setIfInBounds_toArray, List.set_cons_zero, List.set_cons_succ, i64_w, i32_w]
             rfl
            refine take_ (i := 3) (N := (some 24)) (v := ?_) (a' := ?_) #[true, true, true, true, false, false, false, false, false, false, false] rfl rfl (take_ofW HT_.out HW_.out (by kernel_rfl)) (fun _ _ _ h => h) (Or.inl ⟨by rfl, ?_⟩) hHeld ?_ ?_
            rotate_left
            ·rintro w' ⟨s0, s1⟩
             go_simp
             with_reducible rfl
            rotate_left
            ·simp only [Act.put, List.setIfInBounds_toArray, List.set_cons_zero, List.set_cons_succ, i64_w, i32_w]
             rfl
            refine pure_ (i := 4) (N := (some 25)) (v := ?_) (a' := ?_) #[true, true, true, true, true, false, false, false, false, false, false] rfl rfl (any_of HT_.out (by kernel_rfl)) (fun _ _ _ h => h) (Or.inl ⟨by rfl, ?_⟩) ?_ ?_
            rotate_left
            ·intro w'
             go_simp
             with_reducible rfl
            rotate_left
            ·simp only [Act.put, List.setIfInBounds_toArray, List.set_cons_zero, List.set_cons_succ, i64_w, i32_w]
             rfl
            refine pure_ (i := 5) (N := (some 26)) (v := ?_) (a' := ?_) #[true, true, true, true, true, true, false, false, false, false, false] rfl rfl (any_of HT_.out (by kernel_rfl)) (fun _ _ _ h => h) (Or.inl ⟨by rfl, ?_⟩) ?_ ?_
            rotate_left
            ·intro w'
             go_simp
             with_reducible rfl
            rotate_left
            ·simp only [Act.put, List.setIfInBounds_toArray, List.set_cons_zero, List.set_cons_succ, i64_w, i32_w]
             rfl
            refine pure_ (i := 6) (N := (some 27)) (v := ?_) (a' := ?_) #[true, true, true, true, true, true, true, false, false, false, false] rfl rfl (any_of HT_.out (by kernel_rfl)) (fun _ _ _ h => h) (Or.inl ⟨by rfl, ?_⟩) ?_ ?_
            rotate_left
            ·intro w'
             go_simp
             with_reducible rfl
            rotate_left
            ·simp only [Act.put, List.setIfInBounds_toArray, List.set_cons_zero, List.set_cons_succ, i64_w, i32_w]
             rfl
            refine take_ (i := 7) (N := (some 28)) (v := ?_) (a' := ?_) #[true, true, true, true, true, true, true, true, false, false, false] rfl rfl (take_ofW HT_.out HW_.out (by kernel_rfl)) (fun _ _ _ h => h) (Or.inl ⟨by rfl, ?_⟩) hHeld ?_ ?_
            rotate_left
            ·rintro w' ⟨s0, s1⟩
             go_simp
             with_reducible rfl
            rotate_left
            ·simp only [Act.put, List.setIfInBounds_toArray, List.set_cons_zero, List.set_cons_succ, i64_w, i32_w]
             rfl
            refine pure_ (i := 8) (N := (some 29)) (v := ?_) (a' := ?_) #[true, true, true, true, true, true, true, true, true, false, false] rfl rfl (any_of HT_.out (by kernel_rfl)) (fun _ _ _ h => h) (Or.inl ⟨by rfl, ?_⟩) ?_ ?_
            rotate_left
            ·intro w'
             go_simp
             with_reducible rfl
            rotate_left
            ·simp only [Act.put, List.setIfInBounds_toArray, List.set_cons_zero, List.set_cons_succ, i64_w, i32_w]
             rfl
            refine one_ (i := 9) (N := (some 30)) #[true, true, true, true, true, true, true, true, true, true, false] rfl rfl (one_of HT_.out (by kernel_rfl)) (by decide) (fun K hK => ?_)
            refine goes_ Tryz.func101 (by kernel_rfl) rfl #[.string (s.extract i s.size)] (by rfl) rfl rfl goa_ ?_
            refine (number_Scan.calls _ n _ A1.out).mono ?_
            rintro e w6 ⟨rfl, hb⟩
            refine ⟨_, rfl, ?_⟩
            have HX := Aside0.mk (HX5.out.below hb)
            have HK := Aside0.mk (HK5.out.call hb)
            have K2 := Aside0.mk (K25.out.call hb)
            have K3 := Aside0.mk (K35.out.call hb)
            clear hb HX5 HK5 K25 K35
            refine hK.out _ _ ⟨HX.out.s, HX.out.i⟩ (fun hHeld => ?_)
            clear hK K
            refine norm_ (a' := ?_) ?_ ?_
            rotate_left
            ·show Act.put _ (some 30) _ = _
             simp only [Act.put, List.setIfInBounds_toArray, List.set_cons_zero, List.set_cons_succ, i64_w, i32_w]
             rfl
            refine pure_ (i := 10) (N := (some 6)) (v := ?_) (a' := ?_) #[true, true, true, true, true, true, true, true, true, true, true] rfl rfl (any_of HT_.out (by kernel_rfl)) (fun _ _ _ h => h) (Or.inl ⟨by rfl, ?_⟩) ?_ ?_
            rotate_left
            ·intro w'
             go_simp
             with_reducible rfl
            rotate_left
            ·simp only [Act.put, List.setIfInBounds_toArray, List.set_cons_zero, List.set_cons_succ, i64_w, i32_w]
             rfl
            refine done_ (done_of HT_.out (by kernel_rfl)) ?_
            clear hHeld HT_ HW_
            have hc0 := HX.out.s
            have hc1 := HX.out.i
            have hz1 := HX.out.fz
            have ht0 := K3.out.c0
            have ht1 := K3.out.c1
            have ht2 := K3.out.c2
            have ht3 := K3.out.c3
            have hf0 := K3.out.fz 0
            have hf1 := K3.out.fz 1
            have hf2 := K3.out.fz 2
            have hf3 := K3.out.fz 3
            have hne := N2.out
            have hne2 := N2.out.symm
            have hne3 := N1.out
            have hne4 := N1.out.symm
            have hne5 := N3.out
            have hne6 := N3.out.symm
            go_wp2_with (first | (go_at_call 104; with_reducible refine (begins_calls k s g i HS.out HII.out _ _ ?lx A2.out).mono ?_; (case lx => exact (by repeat (first | (with_reducible first | exact HX.out | apply Lx.drewN | apply Lx.drew | apply Lx.set | apply lx_far N2.out)))); rintro e wb ⟨rfl, hb⟩; have HXn := Aside0.mk (Lx.below (by repeat (first | (with_reducible first | exact HX.out | apply Lx.drewN | apply Lx.drew | apply Lx.set | apply lx_far N2.out))) hb); have HKn := Aside0.mk (Lk.call (by repeat (first | (with_reducible first | exact HK.out | apply Lk.drewN | apply Lk.drew | apply Lk.set | apply lk_setN HB3.out))) hb); have K2n := Aside0.mk (Tk.call (by repeat (first | (with_reducible first | exact K2.out | apply Tk.drewN | apply Tk.drew | apply tk_far N1.out.symm | apply tk_far N3.out))) hb); have K3n := Aside0.mk (Tk.call (by repeat (first | (with_reducible first | exact K3.out | apply Tk.drewN | apply Tk.drew | apply tk_far N2.out.symm))) hb); clear hb; clear HX HK K2 K3; have HX := HXn; have HK := HKn; have K2 := K2n; have K3 := K3n; clear HXn HKn K2n K3n; have hc0 := HX.out.s; have hc1 := HX.out.i; have hz1 := HX.out.fz; have ht0 := K3.out.c0; have ht1 := K3.out.c1; have ht2 := K3.out.c2; have ht3 := K3.out.c3; have hf0 := K3.out.fz 0; have hf1 := K3.out.fz 1; have hf2 := K3.out.fz 2; have hf3 := K3.out.fz 3; have hr0 := K2.out.c0; have hr1 := K2.out.c1; have hr2 := K2.out.c2; have hr3 := K2.out.c3; have hs0 := K2.out.fz 0; have hs1 := K2.out.fz 1; have hs2 := K2.out.fz 2; have hs3 := K2.out.fz 3) | (go_at_call 105; with_reducible refine (ident_calls k s g i _ _ HS.out HII.out _ ?lx A4.out).mono ?_; (case lx => exact (by repeat (first | (with_reducible first | exact HX.out | apply Lx.drewN | apply Lx.drew | apply Lx.set | apply lx_far N2.out)))); rintro e wd ⟨rfl, hx, hk⟩; rw [HTX.out]; have HXn := Aside0.mk hx; have HKn := Aside0.mk (Lk.trans (by repeat (first | (with_reducible first | exact HK.out | apply Lk.drewN | apply Lk.drew | apply Lk.set | apply lk_setN HB3.out))) hk); have K2n := Aside0.mk (Tk.lk (by repeat (first | (with_reducible first | exact K2.out | apply Tk.drewN | apply Tk.drew | apply tk_far N1.out.symm | apply tk_far N3.out))) hk N1.out.symm); have K3n := Aside0.mk (Tk.lk (by repeat (first | (with_reducible first | exact K3.out | apply Tk.drewN | apply Tk.drew | apply tk_far N2.out.symm))) hk N2.out.symm); clear hx hk; clear HX HK K2 K3; have HX := HXn; have HK := HKn; have K2 := K2n; have K3 := K3n; clear HXn HKn K2n K3n; have hc0 := HX.out.s; have hc1 := HX.out.i; have hz1 := HX.out.fz; have ht0 := K3.out.c0; have ht1 := K3.out.c1; have ht2 := K3.out.c2; have ht3 := K3.out.c3; have hf0 := K3.out.fz 0; have hf1 := K3.out.fz 1; have hf2 := K3.out.fz 2; have hf3 := K3.out.fz 3; have hr0 := K2.out.c0; have hr1 := K2.out.c1; have hr2 := K2.out.c2; have hr3 := K2.out.c3; have hs0 := K2.out.fz 0; have hs1 := K2.out.fz 1; have hs2 := K2.out.fz 2; have hs3 := K2.out.fz 3) | (go_at_call 102; with_reducible refine (is_paren0 s g e e HS.out HWE.out _ _ ?lx A5.out).mono ?_; (case lx => exact (by repeat (first | (with_reducible first | exact HX.out | apply Lx.drewN | apply Lx.drew | apply Lx.set | apply lx_far N2.out)))); rintro e wi ⟨rfl, ⟨ni, rfl⟩⟩))
            refine bodyPost_ret (results_cell_row rfl _ _ b2 62 #[.int .i64 2, .int .i64 (i : Int), .string x, .string (⟨#[]⟩ : ByteArray)] (0, 0) _ rfl (show _ from Tk.set3 (Tk.set2 (Tk.set1 (Tk.set0 (by repeat (first | (with_reducible first | exact K2.out | apply Tk.drewN | apply Tk.drew | apply tk_far N1.out.symm | apply tk_far N3.out))) _) _) _) _) huT rfl (by kernel_rfl)) rfl ?_
            exact ⟨rfl, Lx.far (Lx.far (Lx.far (Lx.far (Lx.setv (by repeat (first | (with_reducible first | exact HX.out | apply Lx.drewN | apply Lx.drew | apply Lx.set | apply lx_far N2.out))) (by omega)) N1.out _ _) N1.out _ _) N1.out _ _) N1.out _ _, Lk.setN (Lk.setN (Lk.setN (Lk.setN (by repeat (first | (with_reducible first | exact HK.out | apply Lk.drewN | apply Lk.drew | apply Lk.set | apply lk_setN HB3.out))) HS2.out _ _) HS2.out _ _) HS2.out _ _) HS2.out _ _⟩
        · rw [if_neg h3] at hf
          cases hf
  · rw [if_neg hlt] at hf
    cases hf
end Go.Proofs.YtofdhdafabmhmaaGreatDoor.Giv
end
section
namespace Go.Proofs.YtofdhdafabmhmaaGreatDoor.Giv
open Go.RowKit Go.Proofs.YtofdhdafabmhmaaGreatDoorW.PrintWords Go.Proofs.YtofdhdafabmhmaaGreatDoorW.PrintLast Go.Proofs.YtofdhdafabmhmaaGreatDoorW.PrintMore Go.Proofs.YtofdhdafabmhmaaGreatDoor.PLt
open Go.Proofs.YtofdhdafabmhmaaGreatDoor.Opn Go.BigFrame
set_option linter.unusedVariables false
set_option linter.unusedSimpArgs false
/-- The words of bytes, from a place on. -/
def token_Tokens.l0 : Nat → ByteArray → Nat → List S62 → Option (List S62)
  | 0, _, _, _ => none
  | k + 1, s, i, out => if i < s.size then (if out.length < 65536 then ((wordF k s i).bind fun t => if t.2.2.2 ≤ s.size then ((skipF k s t.2.2.2).bind fun j => if j ≤ s.size then token_Tokens.l0 k s j (out ++ [⟨t.1, (i : Int), t.2.1, t.2.2.1⟩]) else none) else none) else none) else some (out ++ [⟨8, (s.size : Int), ⟨#[]⟩, ⟨#[]⟩⟩])
def token_Tokens.f (k : Nat) (l0 : List Int) : Option (List S62 × Int × Int) := if l0.length ≤ 262144 then ((skipF k (strOfNums l0) 0).bind fun i => if i ≤ (strOfNums l0).size then ((token_Tokens.l0 k (strOfNums l0) i []).bind fun r => some (r, 0, 0)) else none) else none
theorem token_Tokens.mono_l : ∀ k, (∀ s i out, LeO (token_Tokens.l0 k s i out) (token_Tokens.l0 (k + 1) s i out))
  | 0 => fun _ _ _ r h => by simp [token_Tokens.l0] at h
  | k + 1 => by
    have ih0 := token_Tokens.mono_l k
    intro s i out
    unfold token_Tokens.l0
    refine LeO.ite (LeO.ite (LeO.bind (wordF.mono _ _ _) (fun t => LeO.ite (LeO.bind (skipF.mono _ _ _) (fun j => LeO.ite (ih0 _ _ _) (LeO.none _))) (LeO.none _))) (LeO.none _)) (LeO.refl _)
theorem token_Tokens.mono : ∀ l0 k, LeO (token_Tokens.f k l0) (token_Tokens.f (k + 1) l0) := by
  intro l0 k
  unfold token_Tokens.f
  refine LeO.ite (LeO.bind (skipF.mono _ _ _) (fun i => LeO.ite (LeO.bind (token_Tokens.mono_l _ _ _ _) (fun _ => LeO.refl _)) (LeO.none _))) (LeO.none _)
/-- The blocks of Tokens: its three results' variables, and the lexer. -/
structure Toks (w w1 : World) (bo ba be g : Nat) (s : ByteArray) (i : Nat) (out : List S62) (v : Value) : Prop where
  o : w1.heap[bo]? = some (.cells #[v] 41 (0, 0))
  a : w1.heap[ba]? = some (.cells #[.int .i64 0] 3 (0, 0))
  e : w1.heap[be]? = some (.cells #[.int .i64 0] 38 (0, 0))
  x : Lx w1 g s i
  r : Kd.R k62 62 w1 w.heap.size (fun k => k ≠ bo ∧ k ≠ ba ∧ k ≠ be ∧ k ≠ g) v out
  b : Below w.heap.size w w1
structure Apart4 (w : World) (bo ba be g : Nat) : Prop where
  l0 : w.heap.size ≤ bo
  l1 : bo < ba
  l2 : ba < be
  l3 : be < g
section
variable {w w1 w2 : World} {bo ba be g i : Nat} {s : ByteArray} {out : List S62} {v : Value}
theorem Toks.below (h : Toks w w1 bo ba be g s i out v) (hb : Below w1.heap.size w1 w2) : Toks w w2 bo ba be g s i out v :=
  ⟨blk_below h.o hb, blk_below h.a hb, blk_below h.e hb, h.x.below hb, Kd.R_below h.r hb, below_step h.b hb⟩
theorem Toks.lk (h : Toks w w1 bo ba be g s i out v) (hp : Apart4 w bo ba be g) {j : Nat} (hk : Lk g w1 w2) (hx : Lx w2 g s j) : Toks w w2 bo ba be g s j out v :=
  ⟨hk.at h.o (by have := hp.l1; have := hp.l2; have := hp.l3; omega), hk.at h.a (by have := hp.l2; have := hp.l3; omega), hk.at h.e (by have := hp.l3; omega), hx,
    Kd.R_step h.r (fun k hok hlt => hk.heap k hlt hok.2.2.2), Lk.below h.b hk (by have := hp.l0; have := hp.l1; have := hp.l2; have := hp.l3; omega) (below_size h.b)⟩
theorem Toks.drewN (h : Toks w w1 bo ba be g s i out v) (n : Nat) : Toks w (w1.drewN n) bo ba be g s i out v := h.below ⟨rfl, rfl, rfl, Nat.le_refl _, fun _ _ => rfl⟩
theorem Toks.drew (h : Toks w w1 bo ba be g s i out v) : Toks w w1.drew bo ba be g s i out v := h.below ⟨rfl, rfl, rfl, Nat.le_refl _, fun _ _ => rfl⟩
/-- A cell of a block that is neither of these, nor the row's. -/
theorem Toks.far (h : Toks w w1 bo ba be g s i out v) {b : Nat} (h0 : w.heap.size ≤ b) (h1 : bo ≠ b) (h2 : ba ≠ b) (h3 : be ≠ b) (h4 : g ≠ b) (h5 : v.ownBlock ≠ some b) (o : Nat) (u : Value) : Toks w (w1.setCell ⟨b, o, none⟩ u) bo ba be g s i out v :=
  ⟨blk_far h.o h1 _, blk_far h.a h2 _, blk_far h.e h3 _, h.x.far h4 _ _, Kd.R_mono (Kd.R_far (Kd.R_reok rfl h.r (ok := fun k => (k ≠ bo ∧ k ≠ ba ∧ k ≠ be ∧ k ≠ g) ∧ k ≠ b) (fun k hk => ⟨h.r.1 k hk, fun e => h5 (by rw [hk, e])⟩)) (fun k hk => hk.2) _) (fun _ hk => hk.1), below_set h.b h0⟩
theorem Toks.set (h : Toks w w1 bo ba be g s i out v) (hp : Apart4 w bo ba be g) {out' : List S62} {v' : Value} (hg : w1.grownBy w2 v.ownBlock) (hr : Kd.R k62 62 w2 w.heap.size (fun k => k ≠ bo ∧ k ≠ ba ∧ k ≠ be ∧ k ≠ g) v' out') (hb : Below w.heap.size w w2) :
    Toks w (w2.setCell ⟨bo, 0, none⟩ v') bo ba be g s i out' v' := by
  have n0 : some bo ≠ v.ownBlock := fun e => (h.r.1 bo e.symm).1 rfl
  have n1 : some ba ≠ v.ownBlock := fun e => (h.r.1 ba e.symm).2.1 rfl
  have n2 : some be ≠ v.ownBlock := fun e => (h.r.1 be e.symm).2.2.1 rfl
  have n3 : some g ≠ v.ownBlock := fun e => (h.r.1 g e.symm).2.2.2 rfl
  have hp1 := hp.l1
  have hp2 := hp.l2
  have hp3 := hp.l3
  refine ⟨blk_set (blk_grown h.o hg n0) 0 _, blk_far (blk_grown h.a hg n1) (by exact (by omega : ba ≠ bo)) _, blk_far (blk_grown h.e hg n2) (by exact (by omega : be ≠ bo)) _, ?_, Kd.R_far hr (fun k hk => hk.1) _, below_set hb hp.l0⟩
  have hx : Lx w2 g s i := blk_grown h.x hg n3
  exact hx.far (by omega : g ≠ bo) _ _
theorem Toks.fin (h : Toks w w1 bo ba be g s i out v) (hp : Apart4 w bo ba be g) :
    let W := ((w1.setCell ⟨ba, 0, none⟩ (.int .i64 0)).setCell ⟨be, 0, none⟩ (.int .i64 0))
    W.cell? ⟨bo, 0, none⟩ = some v ∧ W.cell? ⟨ba, 0, none⟩ = some (.int .i64 0) ∧ W.cell? ⟨be, 0, none⟩ = some (.int .i64 0) ∧ Kd.R k62 62 W w.heap.size (fun _ => True) v out ∧ Below w.heap.size w W := by
  have hp0 := hp.l0
  have hp1 := hp.l1
  have hp2 := hp.l2
  have h0 := blk_far (blk_far h.o (show bo ≠ ba by omega) (p := ⟨ba, 0, none⟩) (.int .i64 0)) (show bo ≠ be by omega) (p := ⟨be, 0, none⟩) (.int .i64 0)
  have h1 := blk_far (blk_set h.a 0 (.int .i64 0)) (show ba ≠ be by omega) (p := ⟨be, 0, none⟩) (.int .i64 0)
  have h2 := blk_set (blk_far h.e (show be ≠ ba by omega) (p := ⟨ba, 0, none⟩) (.int .i64 0)) 0 (.int .i64 0)
  exact ⟨(blk_cell h0 0).trans rfl, (blk_cell h1 0).trans rfl, (blk_cell h2 0).trans rfl, Kd.R_mono (Kd.R_far (Kd.R_far h.r (fun k hk => hk.2.1) _) (fun k hk => hk.2.2.1) _) (fun _ _ => trivial), below_set (below_set h.b (by omega)) (by omega)⟩
end
/-- What comes of a region that ends as it should. -/
def QN (Q : Exit → Act → World → Prop) : Exit → Act → World → Prop
  | .normal, a, w => Q .normal a w
  | _, _, _ => False
theorem QN.to {Q : Exit → Act → World → Prop} : ∀ e a w, QN Q e a w → Q e a w := by
  intro e a w h
  cases e <;> first | exact h | exact h.elim
theorem infoT : (Tryz.prog.info? 62).map (fun i => (i.zero, i.size, i.bytes)) = some (some (.agg #[.int .i64 0, .int .i64 0, .string ⟨#[]⟩, .string ⟨#[]⟩]), 4, 48) := by kernel_rfl
theorem tokens_idle (bo ba be : Nat) (w : World) :
    CallsD Tryz.prog 83 #[.pointer (some ⟨bo, 0, none⟩), .pointer (some ⟨ba, 0, none⟩), .pointer (some ⟨be, 0, none⟩)] .returning w fun e u' w' => e = .returned (.tuple #[]) ∧ u' = .returning ∧ w' = w := by
  refine callsD_of_wpS Tryz.func83 rfl fun c₀ cs hu => ?_
  apply wpS_seq
  apply wpS_region
  simp [wpOpsS, go_sem, recoverD, hu, Tryz.ntmps83, Exit.thenS]
  apply wpS_seq
  apply wpS_region
  simp [wpOpsS, go_sem, recoverD, Tryz.ntmps83, Exit.thenS]
  refine wpS_cond (t := false) (by simp [Act.eval, Array.replicate]) ?_
  simp only [Bool.false_eq_true, if_false]
  refine wpS_of_wp (wp_skip ?_)
  cases c₀
  simp_all [bodyPostS, results, Tryz.results83]
def token_Tokens.T13 : Bool × List (List Nat × List Nat) := (true, [([], []), ([], []), ([1], [1]), ([2], [2]), ([3], [3]), ([4], [4]), ([5], [5]), ([6], [6]), ([0, 7], [0, 7]), ([8, 8, 0, 1, 2, 3, 4, 5, 6, 7, 8], [8]), ([9, 0, 1, 2, 3, 4, 5, 6, 7, 8, 9], []), ([10, 0, 1, 2, 3, 4, 5, 6, 7, 8, 9, 10], [])])
def token_Tokens.B13 : List Nat := [0, 0, 2, 6, 14, 30, 62, 126, 255, 511, 1023, 2047]
theorem token_Tokens.tab13 : rtab .any (opsOf Tryz.f48 13) = token_Tokens.T13 := by kernel_rfl
theorem token_Tokens.bits13 : waitsOk token_Tokens.T13.2 token_Tokens.B13 = true := by kernel_rfl
set_option maxHeartbeats 16000000 in
set_option maxRecDepth 100000 in
theorem token_Tokens.calls (k : Nat) (A0 : Option Addr) (c0 : Nat) (l0 : List Int) (r0 : List S62) (r1 r2 : Int) (w : World) (hr0 : Kd.C (Kd.int .u8) w A0 l0.length l0) (hc0 : l0.length ≤ c0) (h : token_Tokens.f k l0 = some (r0, r1, r2)) :
    Calls Tryz.prog 48 #[.slice A0 l0.length c0] w fun e w' => ∃ v0_ : Value, e = .returned (.tuple #[v0_, .int .i64 r1, .int .i64 r2]) ∧ Kd.R k62 62 w' w.heap.size (fun _ => True) v0_ r0 ∧ Below w.heap.size w w' := by
  have hmf : ∀ (fn : Fn) (first cap : Array Value) (w : World), (Instr.makeFunc fn first cap).run Tryz.prog w = .ok (.func fn first cap) w := fun _ _ _ _ => rfl
  have hu := Tryz.underlying103
  have hut := Tryz.underlying9
  have huT := Tryz.underlying62
  have HR := Aside0.mk hr0
  clear hr0
  unfold token_Tokens.f at h
  by_cases hl : l0.length ≤ 262144
  · rw [if_pos hl] at h
    obtain ⟨i0, hsk, h⟩ := Option.bind_eq_some_iff.mp h
    have hsz : (strOfNums l0).size = l0.length := by
      show ((l0.map fun n => UInt8.ofNat n.toNat).toArray).size = l0.length
      rw [List.size_toArray, List.length_map]
    obtain ⟨s, hs⟩ : ∃ s, strOfNums l0 = s := ⟨_, rfl⟩
    rw [hs] at h hsk hsz
    have ES := Aside0.mk hs
    by_cases hi0 : i0 ≤ s.size
    · rw [if_pos hi0] at h
      obtain ⟨r, hlp, h⟩ := Option.bind_eq_some_iff.mp h
      obtain ⟨rfl, rfl, rfl⟩ : r = r0 ∧ 0 = r1 ∧ 0 = r2 := by
        have h := Option.some.inj h
        simp only [Prod.mk.injEq] at h
        exact h
      clear h
      have HS := Aside0.mk (show s.size ≤ 140737488351232 by omega)
      have HSZ := Aside0.mk (show s.size ≤ 262144 by omega)
      have HSK := Aside0.mk hsk
      have HLP := Aside0.mk hlp
      have HI0 := Aside0.mk hi0
      have H00 := Aside0.mk (Nat.zero_le s.size)
      have p1 : decide ((l0.length : Int) > 262144) = false := decide_eq_false (by omega)
      have p2 : decide (262144 < (l0.length : Int)) = false := decide_eq_false (by omega)
      clear hsk hlp hi0 hs hsz hl
      go_enter_defers Tryz.func48, Tryz.ntmps48
      go_wp2_with (first | ((with_reducible refine gate_dst (N := 2) rfl ?_); (try (refine gate_guard (by rfl) ?_; dsimp only)); refine box_event ?hg (N := 2) ?hd (cs := #[.slice none 0 0]) (t := 41) ?hr ?_; (case hd => rfl); (case hg => rfl); (case hr => first | (go_simp; done) | (go_simp; rfl)); intro bo hg w1 hbox hb; have G0 := Aside0.mk hg; have B0 := Aside0.mk hbox; have BL := Aside0.mk hb; clear hg hbox hb) | ((with_reducible refine gate_dst (N := 3) rfl ?_); (try (refine gate_guard (by rfl) ?_; dsimp only)); refine box_event ?hg (N := 3) ?hd (cs := #[.int .i64 0]) (t := 3) ?hr ?_; (case hd => rfl); (case hg => rfl); (case hr => first | (go_simp; done) | (go_simp; rfl)); intro ba hg w2 hbox hb; have G1 := Aside0.mk hg; have B1 := Aside0.mk hbox; have L0 := Aside0.mk (blk_lt B0.out); have n0 := Aside0.mk (blk_below B0.out hb); have n1 := Aside0.mk (below_step BL.out hb); clear hg hbox hb B0 BL; have B0 := n0; have BL := n1; clear n0 n1) | ((with_reducible refine gate_dst (N := 4) rfl ?_); (try (refine gate_guard (by rfl) ?_; dsimp only)); refine box_event ?hg (N := 4) ?hd (cs := #[.int .i64 0]) (t := 38) ?hr ?_; (case hd => rfl); (case hg => rfl); (case hr => first | (go_simp; done) | (go_simp; rfl)); intro be hg w3 hbox hb; have G2 := Aside0.mk hg; have B2 := Aside0.mk hbox; have L1 := Aside0.mk (blk_lt B1.out); have n0 := Aside0.mk (blk_below B0.out hb); have n2 := Aside0.mk (blk_below B1.out hb); have n1 := Aside0.mk (below_step BL.out hb); clear hg hbox hb B0 BL B1; have B0 := n0; have BL := n1; have B1 := n2; clear n0 n1 n2; have hst := fun c => Kd.C_string (P := Tryz.prog) (c := c) Tryz.underlying67 Tryz.underlying5 Tryz.underlying9 (Kd.C_below HR.out BL.out); rw [ES.out] at hst) | ((with_reducible refine gate_dst (N := 15) rfl ?_); (try (refine gate_guard (by rfl) ?_; dsimp only)); refine box_event ?hg (N := 15) ?hd (cs := #[.string s, .int .i64 0]) (t := 103) ?hr ?_; (case hd => rfl); (case hg => rfl); (case hr => first | (go_simp; done) | (go_simp; rfl)); intro g hg w4 hbox hb; have G3 := Aside0.mk hg; have B3 := Aside0.mk hbox; have L2 := Aside0.mk (blk_lt B2.out); have HT : Aside0 (Toks w w4 bo ba be g s 0 [] (.slice none 0 0)) := ⟨⟨blk_below B0.out hb, blk_below B1.out hb, blk_below B2.out hb, B3.out, Kd.R_nil _ _ _ _ _, below_step BL.out hb⟩⟩; have HP : Aside0 (Apart4 w bo ba be g) := ⟨⟨by rw [G0.out]; exact Nat.le_refl _, by rw [G1.out]; exact L0.out, by rw [G2.out]; exact L1.out, by rw [G3.out]; exact L2.out⟩⟩; clear hg hbox hb B0 B1 B2 B3 BL hst; have hc0 := HT.out.x.s; have hc1 := HT.out.x.i; have hd0 := (blk_cell HT.out.o 0).trans rfl; have hz0 := blk_frozen HT.out.o 0) | (go_at_call 84; with_reducible refine (skip_calls k s g 0 i0 HS.out H00.out _ ?lx HSK.out).mono ?_; (case lx => exact (by repeat (first | (with_reducible first | exact HT.out.x | apply Lx.drewN | apply Lx.drew)))); rintro e wk ⟨rfl, hx, hk⟩; have HT2 := Aside0.mk (Toks.lk (by repeat (first | (with_reducible first | exact HT.out | apply Toks.drewN | apply Toks.drew))) HP.out hk hx); clear hx hk HT; have HT := HT2; clear HT2; have hc0 := HT.out.x.s; have hc1 := HT.out.x.i; have hd0 := (blk_cell HT.out.o 0).trans rfl; have hz0 := blk_frozen HT.out.o 0))
      go_loopg [] k (fun kq wr => ∃ (i : Nat) (out : List S62) (v : Value), Aside0 (out.length ≤ 65536) ∧ Aside0 (i ≤ s.size) ∧ Aside0 (token_Tokens.l0 kq s i out = some r) ∧ Aside0 (Toks w wr bo ba be g s i out v))
      case atStart => exact ⟨i0, [], _, ⟨Nat.zero_le _⟩, HI0, HLP, ⟨by repeat (first | (with_reducible first | exact HT.out | apply Toks.drewN | apply Toks.drew))⟩⟩
      case round =>
        clear HLP HI0 HSK HT hc0 hc1 hd0 hz0
        obtain ⟨i, out, v, HOL, HI, HF, HT⟩ := hrel
        obtain ⟨A1, cc1, rfl⟩ := Kd.R_slice HT.out.r
        have hc0 := HT.out.x.s
        have hc1 := HT.out.x.i
        have hd0 := (blk_cell HT.out.o 0).trans rfl
        have hz0 := blk_frozen HT.out.o 0
        cases gk with
        | zero => exact absurd HF.out (by simp [token_Tokens.l0])
        | succ k2 =>
          have hf := HF.out
          have hs := HS.out
          clear HF
          unfold token_Tokens.l0 at hf
          by_cases hlt : i < s.size
          · rw [if_pos hlt] at hf
            by_cases hol : out.length < 65536
            · rw [if_pos hol] at hf
              obtain ⟨⟨kd, tx, nm, j⟩, hw, hf⟩ := Option.bind_eq_some_iff.mp hf
              have HW := Aside0.mk hw
              clear hw
              try dsimp only at hf
              by_cases hj : j ≤ s.size
              · rw [if_pos hj] at hf
                obtain ⟨j2, hsk, hf⟩ := Option.bind_eq_some_iff.mp hf
                have HSK := Aside0.mk hsk
                clear hsk
                by_cases hj2 : j2 ≤ s.size
                · rw [if_pos hj2] at hf
                  have HF := Aside0.mk hf
                  have HJ := Aside0.mk hj
                  have HJ2 := Aside0.mk hj2
                  have HLIM := Aside0.mk hol
                  have q1 : (((i : Nat) : Int) < (s.size : Int)) = True := eq_true (by omega)
                  have q2 : decide (((i : Nat) : Int) < (s.size : Int)) = true := decide_eq_true (by omega)
                  have q3 : decide (i < s.size) = true := decide_eq_true hlt
                  have p3 : decide ((out.length : Int) ≥ 65536) = false := decide_eq_false (by omega)
                  have p4 : decide (65536 ≤ (out.length : Int)) = false := decide_eq_false (by omega)
                  clear hf hj hj2 hol hlt hs
                  go_wp2
                  refine wp_region_quiet_lit (by kernel_rfl) (by kernel_rfl) ?_
                  repeat (go_big_quiet_step (fail))
                  refine wpQuiet_nil ?_
                  intro _ hw'
                  obtain ⟨nq, hw''⟩ := hw'
                  subst hw''
                  go_upto_region 12 with (first | (go_at_call 85; with_reducible refine (word_calls k2 s g i j kd tx nm HS.out _ ?lx HW.out).mono ?_; (case lx => exact (by repeat (first | (with_reducible first | exact HT.out.x | apply Lx.drewN | apply Lx.drew)))); rintro e wd ⟨rfl, hx, hk⟩; have HT2 := Aside0.mk (Toks.lk (by repeat (first | (with_reducible first | exact HT.out | apply Toks.drewN | apply Toks.drew))) HP.out hk hx); clear hx hk HT hc0 hc1 hd0 hz0; have HT := HT2; clear HT2; have hc0 := HT.out.x.s; have hc1 := HT.out.x.i; have hd0 := (blk_cell HT.out.o 0).trans rfl; have hz0 := blk_frozen HT.out.o 0) | ((with_reducible refine gate_dst (N := 7) rfl ?_); (try (refine gate_guard (by rfl) ?_; dsimp only)); refine box_event ?hg (N := 7) ?hd (cs := #[.int .i64 0, .int .i64 0, .string (⟨#[]⟩ : ByteArray), .string (⟨#[]⟩ : ByteArray)]) (t := 62) ?hr ?_; (case hd => rfl); (case hg => rfl); (case hr => first | (go_simp; done) | (go_simp; rfl)); intro bt hg w7 hbox hb; have G7 := Aside0.mk hg; have K7 := Aside0.mk (show Tk w7 bt 0 0 ⟨#[]⟩ ⟨#[]⟩ from hbox); have LT0 := Aside0.mk (show bo < bt by rw [hg]; exact blk_lt HT.out.o); have LT1 := Aside0.mk (show ba < bt by rw [hg]; exact blk_lt HT.out.a); have LT2 := Aside0.mk (show be < bt by rw [hg]; exact blk_lt HT.out.e); have LT3 := Aside0.mk (show g < bt by rw [hg]; exact blk_lt HT.out.x); have LT4 := Aside0.mk (show (Value.slice A1 out.length cc1).ownBlock ≠ some bt from fun e => by have h1 := Kd.R_lt HT.out.r _ e; rw [hg] at h1; exact Nat.lt_irrefl _ h1); have LT5 := Aside0.mk (show w.heap.size ≤ bt by rw [hg]; exact below_size HT.out.b); have HT2 := Aside0.mk (Toks.below HT.out hb); clear hg hbox hb HT hc0 hc1 hd0 hz0; have HT := HT2; clear HT2; have he0 := LT0.out; have hne : bo ≠ bt := Nat.ne_of_lt LT0.out; have hne2 : bt ≠ bo := Nat.ne_of_gt LT0.out; have hc0 := HT.out.x.s; have hc1 := HT.out.x.i; have hd0 := (blk_cell HT.out.o 0).trans rfl; have hz0 := blk_frozen HT.out.o 0; have ht0 := K7.out.c0; have ht1 := K7.out.c1; have ht2 := K7.out.c2; have ht3 := K7.out.c3; have hf0 := K7.out.fz 0; have hf1 := K7.out.fz 1; have hf2 := K7.out.fz 2; have hf3 := K7.out.fz 3))
                  have HT8 : Aside0 (Toks w ((((w7.setCell ⟨bt, 0, none⟩ (.int .i64 kd)).setCell ⟨bt, 1, none⟩ (.int .i64 (i : Int))).setCell ⟨bt, 2, none⟩ (.string tx)).setCell ⟨bt, 3, none⟩ (.string nm)) bo ba be g s j out (.slice A1 out.length cc1)) := ⟨(Toks.far (Toks.far (Toks.far (Toks.far HT.out LT5.out (Nat.ne_of_lt LT0.out) (Nat.ne_of_lt LT1.out) (Nat.ne_of_lt LT2.out) (Nat.ne_of_lt LT3.out) LT4.out _ _) LT5.out (Nat.ne_of_lt LT0.out) (Nat.ne_of_lt LT1.out) (Nat.ne_of_lt LT2.out) (Nat.ne_of_lt LT3.out) LT4.out _ _) LT5.out (Nat.ne_of_lt LT0.out) (Nat.ne_of_lt LT1.out) (Nat.ne_of_lt LT2.out) (Nat.ne_of_lt LT3.out) LT4.out _ _) LT5.out (Nat.ne_of_lt LT0.out) (Nat.ne_of_lt LT1.out) (Nat.ne_of_lt LT2.out) (Nat.ne_of_lt LT3.out) LT4.out _ _)⟩
                  have K8 : Aside0 (Tk ((((w7.setCell ⟨bt, 0, none⟩ (.int .i64 kd)).setCell ⟨bt, 1, none⟩ (.int .i64 (i : Int))).setCell ⟨bt, 2, none⟩ (.string tx)).setCell ⟨bt, 3, none⟩ (.string nm)) bt kd (i : Int) tx nm) := ⟨Tk.set3 (Tk.set2 (Tk.set1 (Tk.set0 K7.out _) _) _) _⟩
                  clear HT K7 hc0 hc1 hd0 hz0 ht0 ht1 ht2 ht3 hf0 hf1 hf2 hf3 he0
                  generalize ((((w7.setCell ⟨bt, 0, none⟩ (.int .i64 kd)).setCell ⟨bt, 1, none⟩ (.int .i64 (i : Int))).setCell ⟨bt, 2, none⟩ (.string tx)).setCell ⟨bt, 3, none⟩ (.string nm)) = w8 at HT8 K8 ⊢
                  have hd0 := (blk_cell HT8.out.o 0).trans rfl
                  have hz0 := blk_frozen HT8.out.o 0
                  have ht0 := K8.out.c0
                  have ht1 := K8.out.c1
                  have ht2 := K8.out.c2
                  have ht3 := K8.out.c3
                  go_wp2_with (first | ((with_reducible refine gate_builtin (b := .append) (xs := #[.tmp 42, .tmp 44]) rfl ?_); at_builtin; refine Kd.R_append k62 (w0 := w) w.heap.size rfl (.tmp 42) (.tmp 44) 41 62 (.agg #[.int .i64 0, .int .i64 0, .string (⟨#[]⟩ : ByteArray), .string (⟨#[]⟩ : ByteArray)]) 48 rfl Tryz.underlying41 infoT rfl (by decide) (by omega) (.slice A1 out.length cc1) out ⟨kd, (i : Int), tx, nm⟩ [.int .i64 kd, .int .i64 (i : Int), .string tx, .string nm] (fun k => k ≠ bo ∧ k ≠ ba ∧ k ≠ be ∧ k ≠ g) (fun _ => False) rfl rfl ?aP (fun _ hk => hk.elim) ?aF ?aO ?aB ?aS ?aL ?_; (case aP => exact k62_mkM _ _ _ ⟨kd, (i : Int), tx, nm⟩); (case aB => exact HT8.out.b); (case aF => exact (fun k hk => by have := blk_lt HT8.out.o; have := blk_lt HT8.out.a; have := blk_lt HT8.out.e; have := blk_lt HT8.out.x; exact ⟨by omega, by omega, by omega, by omega⟩)); (case aO => exact HT8.out.r); (case aS => exact (below_size HT8.out.b)); (case aL => have := HLIM.out; omega); intro v1 W9 ho hb hg hat; obtain ⟨A2, cc2, rfl⟩ := Kd.R_slice ho; rw [List.length_append, List.length_singleton] at ho; have HT := Aside0.mk (Toks.set HT8.out HP.out hg ho hb); have hn0 : some bo ≠ (Value.slice A1 out.length cc1).ownBlock := fun e => (HT8.out.r.1 bo e.symm).1 rfl; have hz9 := blk_frozen (blk_grown HT8.out.o hg hn0) 0; have hy9 := (blk_cell (blk_grown HT8.out.o hg hn0) 0).trans rfl; clear ho hb hg hat hn0) | (go_at_call 84; with_reducible refine (skip_calls k2 s g j j2 HS.out HJ.out _ ?lx HSK.out).mono ?_; (case lx => exact (by repeat (first | (with_reducible first | exact HT.out.x | apply Lx.drewN | apply Lx.drew)))); rintro e wk ⟨rfl, hx, hk⟩; have HT2 := Aside0.mk (Toks.lk (by repeat (first | (with_reducible first | exact HT.out | apply Toks.drewN | apply Toks.drew))) HP.out hk hx); clear hx hk HT; have HT := HT2; clear HT2; have hc0 := HT.out.x.s; have hc1 := HT.out.x.i; have hd0 := (blk_cell HT.out.o 0).trans rfl; have hz0 := blk_frozen HT.out.o 0))
                  go_roundg k2
                  case measure => omega
                  case rel => exact ⟨j2, out ++ [⟨kd, (i : Int), tx, nm⟩], _, ⟨by rw [List.length_append, List.length_singleton]; have := HLIM.out; omega⟩, HJ2, HF, ⟨by repeat (first | (with_reducible first | exact HT.out | apply Toks.drewN | apply Toks.drew))⟩⟩
                · rw [if_neg hj2] at hf
                  cases hf
              · rw [if_neg hj] at hf
                cases hf
            · rw [if_neg hol] at hf
              cases hf
          · rw [if_neg hlt] at hf
            obtain rfl := Option.some.inj hf
            have HLIM := Aside0.mk (show out.length < 1000000 by have := HOL.out; omega)
            have q1 : (((i : Nat) : Int) < (s.size : Int)) = False := eq_false (by omega)
            have q2 : decide (((i : Nat) : Int) < (s.size : Int)) = false := decide_eq_false (by omega)
            have q3 : decide (i < s.size) = false := decide_eq_false hlt
            clear hf hlt hs
            go_wp2
            refine wp_region_quiet_lit (by kernel_rfl) (by kernel_rfl) ?_
            repeat (go_big_quiet_step (fail))
            refine wpQuiet_nil ?_
            intro _ hw'
            obtain ⟨nq, hw''⟩ := hw'
            subst hw''
            go_wp2
            refine Code.wp_mono QN.to ?_
            have HT3 : Aside0 (Toks w (wr.drewN nq).drew bo ba be g s i out (.slice A1 out.length cc1)) := ⟨(HT.out.drewN nq).drew⟩
            refine start_ (n := 12) (S := (fun w' => w'.cell? ⟨bo, 0, none⟩ = some (.slice A1 out.length cc1) ∧ w'.cell? ⟨g, 0, none⟩ = some (.string s))) (ds := [9, 10, 11]) #[false, false, false, false, false, false, false, false, false, false, false, false] (by kernel_rfl) rfl rfl ⟨(blk_cell HT3.out.o 0).trans rfl, HT3.out.x.s⟩ (fun hHeld => ?_)
            refine with_tabW token_Tokens.tab13 token_Tokens.bits13 (fun HT_ HW_ => ?_)
            generalize (wr.drewN nq).drew = W3 at HT3 hHeld ⊢
            refine take_ (i := 0) (N := (some 46)) (v := ?_) (a' := ?_) #[true, false, false, false, false, false, false, false, false, false, false, false] rfl rfl (take_ofW HT_.out HW_.out (by kernel_rfl)) (fun _ _ _ h => h) (Or.inl ⟨by rfl, ?_⟩) hHeld ?_ ?_
            rotate_left
            ·rintro w' ⟨s0, s1⟩
             go_simp
             with_reducible rfl
            rotate_left
            ·simp only [Act.put, List.setIfInBounds_toArray, List.set_cons_zero, List.set_cons_succ, i64_w, i32_w]
             rfl
            refine pure_ (i := 1) (N := (some 47)) (v := ?_) (a' := ?_) #[true, true, false, false, false, false, false, false, false, false, false, false] rfl rfl (any_of HT_.out (by kernel_rfl)) (fun _ _ _ h => h) (Or.inl ⟨by rfl, ?_⟩) ?_ ?_
            rotate_left
            ·intro w'
             go_simp
             with_reducible rfl
            rotate_left
            ·simp only [Act.put, List.setIfInBounds_toArray, List.set_cons_zero, List.set_cons_succ, i64_w, i32_w]
             rfl
            refine pure_ (i := 2) (N := (some 48)) (v := ?_) (a' := ?_) #[true, true, true, false, false, false, false, false, false, false, false, false] rfl rfl (any_of HT_.out (by kernel_rfl)) (fun _ _ _ h => h) (Or.inl ⟨by rfl, ?_⟩) ?_ ?_
            rotate_left
            ·intro w'
             go_simp
             with_reducible rfl
            rotate_left
            ·simp only [Act.put, List.setIfInBounds_toArray, List.set_cons_zero, List.set_cons_succ, i64_w, i32_w]
             rfl
            refine pure_ (i := 3) (N := (some 49)) (v := ?_) (a' := ?_) #[true, true, true, true, false, false, false, false, false, false, false, false] rfl rfl (any_of HT_.out (by kernel_rfl)) (fun _ _ _ h => h) (Or.inl ⟨by rfl, ?_⟩) ?_ ?_
            rotate_left
            ·intro w'
             go_simp
             with_reducible rfl
            rotate_left
            ·simp only [Act.put, List.setIfInBounds_toArray, List.set_cons_zero, List.set_cons_succ, i64_w, i32_w]
             rfl
            refine take_ (i := 4) (N := (some 50)) (v := ?_) (a' := ?_) #[true, true, true, true, true, false, false, false, false, false, false, false] rfl rfl (take_ofW HT_.out HW_.out (by kernel_rfl)) (fun _ _ _ h => h) (Or.inl ⟨by rfl, ?_⟩) hHeld ?_ ?_
            rotate_left
            ·rintro w' ⟨s0, s1⟩
             go_simp
             with_reducible rfl
            rotate_left
            ·simp only [Act.put, List.setIfInBounds_toArray, List.set_cons_zero, List.set_cons_succ, i64_w, i32_w]
             rfl
            refine pure_ (i := 5) (N := (some 51)) (v := ?_) (a' := ?_) #[true, true, true, true, true, true, false, false, false, false, false, false] rfl rfl (any_of HT_.out (by kernel_rfl)) (fun _ _ _ h => h) (Or.inl ⟨by rfl, ?_⟩) ?_ ?_
            rotate_left
            ·intro w'
             go_simp
             with_reducible rfl
            rotate_left
            ·simp only [Act.put, List.setIfInBounds_toArray, List.set_cons_zero, List.set_cons_succ, i64_w, i32_w]
             rfl
            refine pure_ (i := 6) (N := (some 52)) (v := ?_) (a' := ?_) #[true, true, true, true, true, true, true, false, false, false, false, false] rfl rfl (any_of HT_.out (by kernel_rfl)) (fun _ _ _ h => h) (Or.inl ⟨by rfl, ?_⟩) ?_ ?_
            rotate_left
            ·intro w'
             go_simp
             with_reducible rfl
            rotate_left
            ·simp only [Act.put, List.setIfInBounds_toArray, List.set_cons_zero, List.set_cons_succ, i64_w, i32_w]
             rfl
            refine one_ (i := 7) (N := (some 53)) #[true, true, true, true, true, true, true, true, false, false, false, false] rfl rfl (one_of HT_.out (by kernel_rfl)) (by decide) (fun K hK => ?_)
            refine value_ (w1 := ?_) (v := ?_) (by rfl) rfl ?_ ?_
            rotate_left 2
            ·go_simp
             constructor
             ·rfl
             ·rfl
            refine hK.out _ _ ⟨(blk_cell (blk_alloc HT3.out.o _) 0).trans rfl, (Lx.below HT3.out.x (below_alloc (Below.refl _ _) _)).s⟩ (fun hHeld => ?_)
            clear hK K
            refine norm_ (a' := ?_) ?_ ?_
            rotate_left
            ·show Act.put _ (some 53) _ = _
             simp only [Act.put, List.setIfInBounds_toArray, List.set_cons_zero, List.set_cons_succ, i64_w, i32_w]
             rfl
            refine one_ (i := 8) (N := (some 54)) #[true, true, true, true, true, true, true, true, true, false, false, false] rfl rfl (one_of HT_.out (by kernel_rfl)) (by decide) (fun K hK => ?_)
            refine Kd.R_append_step k62 (w0 := w) w.heap.size (by rfl) (.tmp 46) (.tmp 53) 41 62 (.agg #[.int .i64 0, .int .i64 0, .string (⟨#[]⟩ : ByteArray), .string (⟨#[]⟩ : ByteArray)]) 48 rfl Tryz.underlying41 infoT rfl (by decide) (by omega) (.slice A1 out.length cc1) out ⟨8, (s.size : Int), ⟨#[]⟩, ⟨#[]⟩⟩ [.int .i64 8, .int .i64 (s.size : Int), .string (⟨#[]⟩ : ByteArray), .string (⟨#[]⟩ : ByteArray)] (fun k => k ≠ bo ∧ k ≠ ba ∧ k ≠ be ∧ k ≠ g) (fun _ => False) rfl rfl ?aP (fun _ hk => hk.elim) ?aF ?aO ?aB ?aS ?aL ?_
            (case aP => exact k62_mkM _ _ _ ⟨8, (s.size : Int), ⟨#[]⟩, ⟨#[]⟩⟩)
            (case aB => exact HT3.out.b)
            (case aF => exact (fun k hk => by have := blk_lt HT3.out.o; have := blk_lt HT3.out.a; have := blk_lt HT3.out.e; have := blk_lt HT3.out.x; exact ⟨by omega, by omega, by omega, by omega⟩))
            (case aO => exact HT3.out.r)
            (case aS => exact (below_size HT3.out.b))
            (case aL => have := HLIM.out; omega)
            intro v1 W4 ho hb hg hat
            obtain ⟨A2, cc2, rfl⟩ := Kd.R_slice ho
            rw [List.length_append, List.length_singleton] at ho
            have HO := Aside0.mk ho
            have HT4 := Aside0.mk (Toks.set HT3.out HP.out hg HO.out hb)
            have hn0 : some bo ≠ (Value.slice A1 out.length cc1).ownBlock := fun e => (HT3.out.r.1 bo e.symm).1 rfl
            have hn1 : some ba ≠ (Value.slice A1 out.length cc1).ownBlock := fun e => (HT3.out.r.1 ba e.symm).2.1 rfl
            have hn2 : some be ≠ (Value.slice A1 out.length cc1).ownBlock := fun e => (HT3.out.r.1 be e.symm).2.2.1 rfl
            have hn3 : some g ≠ (Value.slice A1 out.length cc1).ownBlock := fun e => (HT3.out.r.1 g e.symm).2.2.2 rfl
            have HB0 := Aside0.mk (blk_grown HT3.out.o hg hn0)
            have HB1 := Aside0.mk (blk_grown HT3.out.a hg hn1)
            have HB2 := Aside0.mk (blk_grown HT3.out.e hg hn2)
            have HB3 : Aside0 (Lx W4 g s i) := ⟨blk_grown HT3.out.x hg hn3⟩
            have hz0 := blk_frozen HB0.out 0
            have hz1 := blk_frozen HB1.out 0
            have hz2 := blk_frozen HB2.out 0
            have hy0 : W4.cell? ⟨bo, 0, none⟩ = some (.slice A1 out.length cc1) := (blk_cell HB0.out 0).trans rfl
            have hy1 : W4.cell? ⟨ba, 0, none⟩ = some (.int .i64 0) := (blk_cell HB1.out 0).trans rfl
            have hy2 : W4.cell? ⟨be, 0, none⟩ = some (.int .i64 0) := (blk_cell HB2.out 0).trans rfl
            have e0 : ba ≠ bo := by have := HP.out.l1; omega
            have e1 : be ≠ bo := by have := HP.out.l1; have := HP.out.l2; omega
            have e2 : be ≠ ba := by have := HP.out.l2; omega
            have e3 : bo ≠ ba := e0.symm
            have e4 : bo ≠ be := e1.symm
            have e5 : ba ≠ be := e2.symm
            clear hb hg hat hn0 hn1 hn2 hn3 ho
            refine hK.out _ _ ⟨(blk_cell HB0.out 0).trans rfl, HB3.out.s⟩ (fun hHeld => ?_)
            clear hK K
            refine norm_ (a' := ?_) ?_ ?_
            rotate_left
            ·show Act.put _ (some 54) _ = _
             simp only [Act.put, List.setIfInBounds_toArray, List.set_cons_zero, List.set_cons_succ, i64_w, i32_w]
             rfl
            refine last_ (i := 9) (N := none) #[true, true, true, true, true, true, true, true, true, true, false, false] rfl rfl (one_of HT_.out (by kernel_rfl)) (by decide) (fun K hK => ?_)
            refine skip_ (w1 := ?_) (by rfl) rfl ?_ ?_
            rotate_left
            ·go_simp
             rfl
            refine hK.out _ _ ?_
            clear hK K
            refine last_ (i := 10) (N := none) #[true, true, true, true, true, true, true, true, true, true, true, false] rfl rfl (one_of HT_.out (by kernel_rfl)) (by decide) (fun K hK => ?_)
            refine skip_ (w1 := ?_) (by rfl) rfl ?_ ?_
            rotate_left
            ·go_simp
             rfl
            refine hK.out _ _ ?_
            clear hK K
            refine last_ (i := 11) (N := none) #[true, true, true, true, true, true, true, true, true, true, true, true] rfl rfl (one_of HT_.out (by kernel_rfl)) (by decide) (fun K hK => ?_)
            refine skip_ (w1 := ?_) (by rfl) rfl ?_ ?_
            rotate_left
            ·go_simp
             rfl
            refine hK.out _ _ ?_
            clear hK K
            refine done_ (done_of HT_.out (by kernel_rfl)) ?_
            dsimp only [QN]
            go_wp2
            refine leaves_cons (f := 83) (args := #[.pointer (some ⟨bo, 0, none⟩), .pointer (some ⟨ba, 0, none⟩), .pointer (some ⟨be, 0, none⟩)]) (by simp) (by simp [go_sem]) ?_
            refine (tokens_idle bo ba be _).mono ?_
            rintro e u' w'' ⟨rfl, rfl, rfl⟩
            obtain ⟨F0, F1, F2, FR, FB⟩ := Toks.fin HT4.out HP.out
            refine ⟨.tuple #[.slice A2 (out.length + 1) cc2, .int .i64 0, .int .i64 0], ?_, ⟨_, rfl, FR, FB⟩⟩
            simp [results, Tryz.results48, go_sem, F0, F1, F2]
    · rw [if_neg hi0] at h
      cases h
  · rw [if_neg hl] at h
    cases h
end Go.Proofs.YtofdhdafabmhmaaGreatDoor.Giv
end
section
/- Rows of bytes that a conversion has made: they are only read (a conversion marks its row). Conditions: as each theorem says. -/
set_option linter.unusedVariables false
set_option linter.unusedSimpArgs false
namespace Go.Proofs.YtofdhdafabmhmaaGreatDoor.Giv
open Go.RowKit Go.Proofs.YtofdhdafabmhmaaGreatDoorW.PrintWords
namespace Kd
open Go.Proofs.YtofdhdafabmhmaaGreatDoorW.PrintWords.Kd (F F_now F_step int)
/-- A row that is only read, and is the call's own. -/
def Z {α : Type} (d : Go.Proofs.YtofdhdafabmhmaaGreatDoorW.PrintWords.Kd α) (e : Nat) (w : World) (base : Nat) (ok : Nat → Prop) (v : Value) (xs : List α) : Prop :=
  (∀ k, v.ownBlock = some k → ok k ∧ base ≤ k ∧ k < w.heap.size) ∧ ∃ A c, v = .slice A xs.length c ∧ xs.length ≤ c ∧ F d w (fun k => some k = v.ownBlock) A xs.length xs
section
variable {α : Type} {d : Go.Proofs.YtofdhdafabmhmaaGreatDoorW.PrintWords.Kd α} {e base base' n c m N : Nat} {ok ok' : Nat → Prop} {w w1 w' W : World} {A : Option Addr} {u v : Value} {xs : List α}
theorem Z_step (h : Z d e w base ok v xs) (hm : ∀ k, ok k → k < w.heap.size → w1.heap[k]? = w.heap[k]?) : Z d e w1 base ok v xs := by
  obtain ⟨h1, A, c, rfl, hc, hF⟩ := h
  exact ⟨fun k hk => ⟨(h1 k hk).1, (h1 k hk).2.1, Go.Proofs.YtofdhdafabmhmaaGreatDoorW.PrintWords.heap_lt (hm k (h1 k hk).1 (h1 k hk).2.2) (h1 k hk).2.2⟩, A, c, rfl, hc, F_step hF (fun k hk hlt => hm k (h1 k hk.symm).1 hlt)⟩
theorem Z_lower (h : Z d e w base ok v xs) (hb : base' ≤ base) : Z d e w base' ok v xs := ⟨fun k hk => ⟨(h.1 k hk).1, Nat.le_trans hb (h.1 k hk).2.1, (h.1 k hk).2.2⟩, h.2⟩
theorem Z_below (h : Z d e w base ok v xs) (hb : Below w.heap.size w w1) : Z d e w1 base ok v xs := Z_step h (fun k _ hk => hb.block k hk)
theorem Z_alloc (h : Z d e w base ok v xs) (o : Obj) : Z d e (w.alloc o) base ok v xs := Z_below h (below_alloc (Below.refl _ _) o)
theorem Z_drewN (h : Z d e w base ok v xs) (m : Nat) : Z d e (w.drewN m) base ok v xs := Z_below h (pw_below_drewN (Below.refl _ _) m)
theorem Z_drew (h : Z d e w base ok v xs) : Z d e w.drew base ok v xs := Z_below h (below_drew (Below.refl _ _))
theorem Z_slice (h : Z d e w base ok v xs) : ∃ A c, v = .slice A xs.length c := let ⟨A, c, e, _⟩ := h.2; ⟨A, c, e⟩
theorem Z_reads' (h : Z d e w base ok (.slice A n c) xs) : n = xs.length ∧ n ≤ c ∧ d.C w A xs.length xs := by
  obtain ⟨_, A', c', he, hc, hF⟩ := h
  injection he with h1 h2 h3
  subst h1
  subst h2
  subst h3
  exact ⟨rfl, hc, F_now hF⟩
end
/-- What a row's block holds is read, whatever else turns. -/
theorem F_of_row {w : World} {g t n c : Nat} {cs : Array Value} {fz : Nat × Nat} {xs : List Int} (h : w.heap[g]? = some (.cells cs t fz)) (hc : ∀ (j : Nat) (hj : j < xs.length), cs[j]? = some (.int .u8 xs[j])) (hm : xs.length ≤ 9223372036854775807) :
    F (int .u8) w (fun k => some k = (Value.slice (some ⟨g, 0, none⟩) n c).ownBlock) (some ⟨g, 0, none⟩) xs.length xs := by
  intro W' hW
  have h1 := hW g (by simp [Value.ownBlock]) (blk_lt h)
  rw [h] at h1
  refine Go.Proofs.YtofdhdafabmhmaaGreatDoorW.PrintWords.Kd.C_of_reads (enc := Value.int .u8) (d := (0 : Int)) (h1 := fun _ => rfl) ⟨rfl, hm, fun _ => ⟨_, rfl, fun j hj => ?_⟩⟩
  rw [add_plain]
  have h2 := hc j hj
  simp only [World.cell?, h1, Option.bind_some]
  simpa [List.getD_eq_getElem?_getD, List.getElem?_eq_getElem hj] using h2
section
variable {P : Program} {ops : Array Oper} {rest : List Oper} {o : Oper} {a : Act} {Q : Exit → Act → World → Prop}
/-- '[]byte(s)', s a string. -/
theorem Z_bytes {w0 W : World} (base e src dst : Nat) (hgd : o.guard = none) {N : Tmp} (_hd : o.dst = some N) {x : Operand} (s : ByteArray) (hop : o.op = .convert src dst x) (hx : a.eval x = .string s) {u : TypeDesc} (hs : P.underlying src = some u) (hd : P.underlying dst = some (.slice e)) (he : P.underlying e = some (.int .u8))
    (hm : s.size ≤ 9223372036854775807) (HB : Below base w0 W) (hbase : base ≤ W.heap.size)
    (h : ∀ v1 w1, Z (int .u8) e w1 base (fun _ => True) v1 (bytesOf s) → Below base w0 w1 → W.grownBy w1 none → (∃ b, v1.ownBlock = some b ∧ W.heap.size ≤ b) → wpList P ops Q rest (a.put o.dst v1) w1) : wpList P ops Q (o :: rest) a W := by
  have hrun : (execOp a.eval o).run P W = .ok (.value (.slice (some ⟨W.heap.size, 0, none⟩) s.size (grownCap W s.size 0 e))) (Lib.bytesWorld W e s) := by
    unfold execOp
    simp [hop, hx, print_bytes src dst e hs hd he s W, Result.andThen]
  have hn := Lib.bytesWorld_at_new W e s
  refine Go.Proofs.YtofdhdafabmhmaaGreatDoorW.PrintWords.Kd.event_run hgd hrun (h _ _ ⟨fun k hk => ?_, _, _, by rw [bytesOf_length], ?_, ?_⟩ (bytes_below HB hbase e s) ⟨rfl, rfl, rfl, by rw [Lib.bytesWorld_size]; omega, fun k hk _ => Lib.bytesWorld_at_old W e s k hk⟩ ⟨W.heap.size, by simp [Value.ownBlock], Nat.le_refl _⟩)
  · have : W.heap.size = k := by simpa [Value.ownBlock] using hk
    subst this
    exact ⟨trivial, hbase, blk_lt hn⟩
  · rw [bytesOf_length]
    exact grownCap_ge W s.size 0 e
  · rw [← bytesOf_length]
    refine F_of_row hn (fun j hj => ?_) (by rw [bytesOf_length]; exact hm)
    have hj' : j < s.data.size := by rw [bytesOf_length] at hj; exact hj
    rw [Lib.bytesCells, Array.getElem?_append_left (by simpa using hj')]
    simp only [Array.getElem?_map, Array.getElem?_eq_getElem hj', bytesOf, List.getElem_map, Array.getElem_toList, Option.map_some]
end
end Kd
end Go.Proofs.YtofdhdafabmhmaaGreatDoor.Giv
end
section
namespace Go.Proofs.YtofdhdafabmhmaaGreatDoor.PLt
open Go.RowKit Go.Proofs.YtofdhdafabmhmaaGreatDoorW.PrintWords Go.Proofs.YtofdhdafabmhmaaGreatDoorW.PrintLast Go.Proofs.YtofdhdafabmhmaaGreatDoorW.PrintMore
attribute [local go_sem] max2_int min2_int max_two min_two max_three min_three max_four min_four   -- for this text's walks alone
set_option linter.unusedVariables false
set_option linter.unusedSimpArgs false
open Go.Proofs.YtofdhdafabmhmaaGreatDoor.Opn Go.Proofs.YtofdhdafabmhmaaGreatDoor.Giv

/-! ### parterrelaw07_words: function 35 -/
def parterrelaw07_words.f (k : Nat) (a0 : ByteArray) : Option ((List (S62))) := if (a0.size : Int) ≤ 140737488355328 then ((token_Tokens.f k ((bytesOf a0 : List Int))).bind fun bt220 => (some bt220.1)) else (none)
theorem parterrelaw07_words.mono : ∀ a0 k, LeO (parterrelaw07_words.f k a0) (parterrelaw07_words.f (k + 1) a0) := by
 intro a0 k
 unfold parterrelaw07_words.f
 repeat' first
   | (with_reducible exact token_Tokens.mono _ _)
   | (with_reducible exact LeO.refl _)
   | (with_reducible exact LeO.none _)
   | (with_reducible refine LeO.ite ?_ ?_)
   | (with_reducible refine LeO.bind ?_ (fun _ => ?_))
set_option maxHeartbeats 8000000 in
set_option maxRecDepth 100000 in
theorem parterrelaw07_words.calls (k : Nat) (a0 : ByteArray) (r : List (S62)) (w : World) (h : parterrelaw07_words.f k a0 = some r) :
  Calls Tryz.prog 35 #[.string a0] w fun e w' => ∃ v0_ : Value, e = .returned (v0_) ∧ Kd.R k62 62 w' w.heap.size (fun _ => True) v0_ r ∧ Below w.heap.size w w' := by
 have HB := Aside0.mk (Below.refl w.heap.size w)
 have H : (if (a0.size : Int) ≤ 140737488355328 then ((token_Tokens.f k ((bytesOf a0 : List Int))).bind fun bt220 => (some bt220.1)) else (none)) = some r := h
 clear h
 by_cases c2 : (a0.size : Int) ≤ 140737488355328
 ·rw [if_pos c2] at H
  have c2b0 := eq_true c2
  have c2b1 : decide ((a0.size : Int) ≤ 140737488355328) = true := decide_eq_true c2
  clear c2
  obtain ⟨y217, hy217⟩ : ∃ y_ : List Int, y_ = ((bytesOf a0 : List Int)) := ⟨_, rfl⟩
  replace H : ((token_Tokens.f k y217).bind fun bt220 => (some bt220.1)) = some r := by first | (rw [hy217]; with_reducible exact H) | (have H2_ := (Option.bind_some _ _).symm.trans H; rw [hy217]; with_reducible exact H2_) | (have H2_ := (Option.bind_some _ _).symm.trans H; with_reducible exact H2_) | with_reducible exact H | (rw [hy217]; exact H) | exact H
  have Ny217 := Aside0.mk hy217
  clear hy217
  replace H := Option.bind_eq_some_iff.mp H
  obtain ⟨⟨t220, t221, t222⟩, A30, H⟩ := H
  try dsimp only at H
  have A3 := Aside0.mk A30
  clear A30
  obtain rfl := Option.some.inj H
  go_enter Tryz.func35, Tryz.ntmps35
  go_wp2_with (first | ((with_reducible refine gate_dst (N := 8) rfl ?_); refine Kd.Z_bytes _ 5 9 67 ?hg (N := 8) ?hd (x := .tmp 7) a0 ?ho ?hx Tryz.underlying9 Tryz.underlying67 Tryz.underlying5 ?hm (Below.refl _ _) (Nat.le_refl _) ?_; (case hd => rfl); (case hg => rfl); (case ho => rfl); (case hx => first | rfl | (go_simp; done)); (case hm => have h_ : (a0.size : Int) ≤ 140737488355328 := of_decide_eq_true (by first | (with_reducible assumption) | assumption); omega); intro v218 w4 ho5 hb hg_ hnew_; clear hg_ hnew_; (first | rw [← Ny217.out] at ho5 | (simp only [Int.reduceToNat] at ho5; rw [← Ny217.out] at ho5)); have n0_ := Aside0.mk (Kd.Z_lower ho5 (below_size bel_)); have n1_ := Aside0.mk (below_step bel_ hb); clear HB; have HO219 := n0_; have HB := n1_; clear n0_ n1_; clear hb ho5; obtain ⟨Ao6, co6, eo6⟩ := Kd.Z_slice HO219.out; subst eo6) | ((with_reducible refine gate_callee (f := 48) rfl ?_); refine goesL_ (some 9) rfl rfl Tryz.func48 (by kernel_rfl) rfl #[.slice Ao6 y217.length co6] rfl goa_ ?_; (with_reducible refine (token_Tokens.calls k _ _ y217 t220 t221 t222 _ ?side1 ?side2 A3.out).mono ?_); (case side1 => repeat (first | exact (Kd.Z_reads' HO219.out).2.2 | (with_reducible refine Kd.C_alloc ?_ _) | (with_reducible refine Kd.C_drewN ?_ _) | (with_reducible refine Kd.C_drew ?_))); (case side2 => exact (Kd.Z_reads' HO219.out).2.1); rintro e w7 ⟨v223, rfl, ho0, hb⟩; refine ⟨_, rfl, ?_⟩; have n0_ := Aside0.mk (Kd.Z_below (by (with_reducible repeat (first | apply Kd.Z_alloc | apply Kd.Z_drewN | apply Kd.Z_drew)); exact HO219.out) hb); have n1_ := Aside0.mk (Kd.R_lower ho0 (below_size bel_)); have n2_ := Aside0.mk (below_step bel_ hb); clear HO219; clear HB; have HO219 := n0_; have HO224 := n1_; have HB := n2_; clear n0_ n1_ n2_; (try clear hb); (try clear hb2); (try clear hk); (try clear hi); (try clear ho0)))
  go_ret
  exact ⟨_, rsl_, by (with_reducible repeat (first | apply Kd.R_alloc | apply Kd.R_drewN | apply Kd.R_drew)); exact HO224.out, bel_⟩
 ·rw [if_neg c2] at H
  exact absurd H (by simp)

/-! ### line_other: function 44 -/
def line_other.f (a0_0 : Int) (a0_1 : Int) (a0_2 : ByteArray) : Option (Int × Int × ByteArray) := if a0_0 = 3 then (some (a0_0, a0_1, a0_2)) else ((line_auto.f).bind fun bt227 => (some (bt227.1, bt227.2.1, bt227.2.2)))
set_option maxHeartbeats 8000000 in
set_option maxRecDepth 100000 in
theorem line_other.calls (a0_0 : Int) (a0_1 : Int) (a0_2 : ByteArray) (r1 : Int) (r2 : Int) (r3 : ByteArray) (w : World) (h : line_other.f a0_0 a0_1 a0_2 = some (r1, r2, r3)) :
  Calls Tryz.prog 44 #[.agg #[.int .i64 a0_0, .int .i64 a0_1, .string a0_2]] w fun e w' => e = .returned (.agg #[.int .i64 r1, .int .i64 r2, .string r3]) ∧ Below w.heap.size w w' := by
 have hu32 := Tryz.underlying32
 have HB := Aside0.mk (Below.refl w.heap.size w)
 have H : (if a0_0 = 3 then (some (a0_0, a0_1, a0_2)) else ((line_auto.f).bind fun bt227 => (some (bt227.1, bt227.2.1, bt227.2.2)))) = some (r1, r2, r3) := h
 clear h
 by_cases c2 : a0_0 = 3
 ·rw [if_pos c2] at H
  have c2b0 : (a0_0 == 3) = true := beq_iff_eq.mpr c2
  have c2b1 : (a0_0 != 3) = false := bne_eq_false_iff_eq.mpr c2
  clear c2
  simp only [Option.some.injEq, Prod.mk.injEq] at H
  obtain ⟨rfl, rfl, rfl⟩ := H
  go_enter Tryz.func44, Tryz.ntmps44
  go_wp2_with (first | ((with_reducible refine gate_dst (N := 1) rfl ?_); refine box_event ?hg (N := 1) ?hd (cs := #[.int .i64 a0_0, .int .i64 a0_1, .string a0_2]) (t := 32) ?hr ?_; (case hd => rfl); (case hg => rfl); (case hr => first | (go_simp; done) | (go_simp; rfl)); intro gb225 hg w3 hbox hb; have n0_ := Aside0.mk (below_step bel_ hb); have n1_ := Aside0.mk (hbox); have n2_ := Aside0.mk ((bsz_ hg : w.heap.size ≤ gb225)); have n3_ := Aside0.mk ((bsz_ hg : w.heap.size ≤ gb225)); clear HB; have HB := n0_; have BK225 := n1_; have GW225 := n2_; have GE225 := n3_; clear n0_ n1_ n2_ n3_; clear hb hbox hg) | ((with_reducible refine gate_dst (N := 2) rfl ?_); refine box_event ?hg (N := 2) ?hd (cs := #[.int .i64 0, .int .i64 0, .string (⟨#[]⟩ : ByteArray)]) (t := 32) ?hr ?_; (case hd => rfl); (case hg => rfl); (case hr => first | (go_simp; done) | (go_simp; rfl)); intro gb226 hg w4 hbox hb; have n0_ := blb_ BK225 hb; have n1_ := Aside0.mk (below_step bel_ hb); have n2_ := Aside0.mk (hbox); have n3_ := Aside0.mk ((bsz_ hg : w.heap.size ≤ gb226)); have n4_ := Aside0.mk ((bsz_ hg : w.heap.size ≤ gb226)); have n5_ := Aside0.mk (bne_ BK225 hg : gb225 ≠ gb226); have n6_ := Aside0.mk (bng_ BK225 hg : gb226 ≠ gb225); clear BK225; clear HB; have BK225 := n0_; have HB := n1_; have BK226 := n2_; have GW226 := n3_; have GE226 := n4_; have NB225_226 := n5_; have NB226_225 := n6_; clear n0_ n1_ n2_ n3_ n4_ n5_ n6_; clear hb hbox hg; have hnb5 := NB225_226.out; have hnc5 := NB226_225.out; have hcz6_0 : w4.cell? ⟨gb225, 0, none⟩ = some (.int .i64 a0_0) := (blk_cell BK225.out 0).trans rfl; have hcz6_1 : w4.cell? ⟨gb225, 1, none⟩ = some (.int .i64 a0_1) := (blk_cell BK225.out 1).trans rfl; have hcz6_2 : w4.cell? ⟨gb225, 2, none⟩ = some (.string a0_2) := (blk_cell BK225.out 2).trans rfl; have hfz6_0 := blk_frozen BK225.out 0; have hfz6_1 := blk_frozen BK225.out 1; have hfz6_2 := blk_frozen BK225.out 2; have hcz7_0 : w4.cell? ⟨gb226, 0, none⟩ = some (.int .i64 0) := (blk_cell BK226.out 0).trans rfl; have hcz7_1 : w4.cell? ⟨gb226, 1, none⟩ = some (.int .i64 0) := (blk_cell BK226.out 1).trans rfl; have hcz7_2 : w4.cell? ⟨gb226, 2, none⟩ = some (.string (⟨#[]⟩ : ByteArray)) := (blk_cell BK226.out 2).trans rfl; have hfz7_0 := blk_frozen BK226.out 0; have hfz7_1 := blk_frozen BK226.out 1; have hfz7_2 := blk_frozen BK226.out 2))
  refine bodyPost_ret (results_cell_row rfl _ _ gb226 32 #[.int .i64 a0_0, .int .i64 a0_1, .string a0_2] (0, 0) _ rfl (by (with_reducible repeat (first | refine blk_drewN ?_ _ | refine blk_drew ?_ | refine blk_alloc ?_ _)); refine blk_put (cs := #[.int .i64 a0_0, .int .i64 a0_1, .string (⟨#[]⟩ : ByteArray)]) ?_ 2 _ rfl; (with_reducible repeat (first | refine blk_drewN ?_ _ | refine blk_drew ?_ | refine blk_alloc ?_ _)); refine blk_put (cs := #[.int .i64 a0_0, .int .i64 0, .string (⟨#[]⟩ : ByteArray)]) ?_ 1 _ rfl; (with_reducible repeat (first | refine blk_drewN ?_ _ | refine blk_drew ?_ | refine blk_alloc ?_ _)); refine blk_put (cs := #[.int .i64 0, .int .i64 0, .string (⟨#[]⟩ : ByteArray)]) ?_ 0 _ rfl; (with_reducible repeat (first | refine blk_drewN ?_ _ | refine blk_drew ?_ | refine blk_alloc ?_ _)); exact BK226.out) Tryz.underlying32 rfl (by kernel_rfl)) rfl ?_
  exact ⟨rsl_, bel_⟩
 ·rw [if_neg c2] at H
  have c2b0 : (a0_0 == 3) = false := beq_eq_false_iff_ne.mpr c2
  have c2b1 : (a0_0 != 3) = true := bne_iff_ne.mpr c2
  replace H := Option.bind_eq_some_iff.mp H
  obtain ⟨⟨t227, t228, t229⟩, A80, H⟩ := H
  try dsimp only at H
  have A8 := Aside0.mk A80
  clear A80
  simp only [Option.some.injEq, Prod.mk.injEq] at H
  obtain ⟨rfl, rfl, rfl⟩ := H
  go_enter Tryz.func44, Tryz.ntmps44
  go_wp2_with (first | ((with_reducible refine gate_dst (N := 1) rfl ?_); refine box_event ?hg (N := 1) ?hd (cs := #[.int .i64 a0_0, .int .i64 a0_1, .string a0_2]) (t := 32) ?hr ?_; (case hd => rfl); (case hg => rfl); (case hr => first | (go_simp; done) | (go_simp; rfl)); intro gb225 hg w9 hbox hb; have n0_ := Aside0.mk (below_step bel_ hb); have n1_ := Aside0.mk (hbox); have n2_ := Aside0.mk ((bsz_ hg : w.heap.size ≤ gb225)); have n3_ := Aside0.mk ((bsz_ hg : w.heap.size ≤ gb225)); clear HB; have HB := n0_; have BK225 := n1_; have GW225 := n2_; have GE225 := n3_; clear n0_ n1_ n2_ n3_; clear hb hbox hg) | ((with_reducible refine gate_dst (N := 2) rfl ?_); refine box_event ?hg (N := 2) ?hd (cs := #[.int .i64 0, .int .i64 0, .string (⟨#[]⟩ : ByteArray)]) (t := 32) ?hr ?_; (case hd => rfl); (case hg => rfl); (case hr => first | (go_simp; done) | (go_simp; rfl)); intro gb226 hg w10 hbox hb; have n0_ := blb_ BK225 hb; have n1_ := Aside0.mk (below_step bel_ hb); have n2_ := Aside0.mk (hbox); have n3_ := Aside0.mk ((bsz_ hg : w.heap.size ≤ gb226)); have n4_ := Aside0.mk ((bsz_ hg : w.heap.size ≤ gb226)); have n5_ := Aside0.mk (bne_ BK225 hg : gb225 ≠ gb226); have n6_ := Aside0.mk (bng_ BK225 hg : gb226 ≠ gb225); clear BK225; clear HB; have BK225 := n0_; have HB := n1_; have BK226 := n2_; have GW226 := n3_; have GE226 := n4_; have NB225_226 := n5_; have NB226_225 := n6_; clear n0_ n1_ n2_ n3_ n4_ n5_ n6_; clear hb hbox hg; have hnb11 := NB225_226.out; have hnc11 := NB226_225.out; have hcz12_0 : w10.cell? ⟨gb225, 0, none⟩ = some (.int .i64 a0_0) := (blk_cell BK225.out 0).trans rfl; have hcz12_1 : w10.cell? ⟨gb225, 1, none⟩ = some (.int .i64 a0_1) := (blk_cell BK225.out 1).trans rfl; have hcz12_2 : w10.cell? ⟨gb225, 2, none⟩ = some (.string a0_2) := (blk_cell BK225.out 2).trans rfl; have hfz12_0 := blk_frozen BK225.out 0; have hfz12_1 := blk_frozen BK225.out 1; have hfz12_2 := blk_frozen BK225.out 2) | ((with_reducible refine gate_callee (f := 38) rfl ?_); refine goesL_ (some 7) rfl rfl Tryz.func38 (by kernel_rfl) rfl #[] rfl goa_ ?_; (with_reducible refine (line_auto.calls  t227 t228 t229 _ A8.out).mono ?_); rintro e w13 ⟨rfl, hb⟩; refine ⟨_, rfl, ?_⟩; have n0_ := blb_ BK225 hb; have n1_ := blb_ BK226 hb; have n2_ := Aside0.mk (below_step bel_ hb); clear BK225; clear BK226; clear HB; have BK225 := n0_; have BK226 := n1_; have HB := n2_; clear n0_ n1_ n2_; clear hb; have hcz14_0 : w13.cell? ⟨gb226, 0, none⟩ = some (.int .i64 0) := (blk_cell BK226.out 0).trans rfl; have hcz14_1 : w13.cell? ⟨gb226, 1, none⟩ = some (.int .i64 0) := (blk_cell BK226.out 1).trans rfl; have hcz14_2 : w13.cell? ⟨gb226, 2, none⟩ = some (.string (⟨#[]⟩ : ByteArray)) := (blk_cell BK226.out 2).trans rfl; have hfz14_0 := blk_frozen BK226.out 0; have hfz14_1 := blk_frozen BK226.out 1; have hfz14_2 := blk_frozen BK226.out 2))
  refine bodyPost_ret (results_cell_row rfl _ _ gb226 32 #[.int .i64 t227, .int .i64 t228, .string t229] (0, 0) _ rfl (by (with_reducible repeat (first | refine blk_drewN ?_ _ | refine blk_drew ?_ | refine blk_alloc ?_ _)); refine blk_put (cs := #[.int .i64 t227, .int .i64 t228, .string (⟨#[]⟩ : ByteArray)]) ?_ 2 _ rfl; (with_reducible repeat (first | refine blk_drewN ?_ _ | refine blk_drew ?_ | refine blk_alloc ?_ _)); refine blk_put (cs := #[.int .i64 t227, .int .i64 0, .string (⟨#[]⟩ : ByteArray)]) ?_ 1 _ rfl; (with_reducible repeat (first | refine blk_drewN ?_ _ | refine blk_drew ?_ | refine blk_alloc ?_ _)); refine blk_put (cs := #[.int .i64 0, .int .i64 0, .string (⟨#[]⟩ : ByteArray)]) ?_ 0 _ rfl; (with_reducible repeat (first | refine blk_drewN ?_ _ | refine blk_drew ?_ | refine blk_alloc ?_ _)); exact BK226.out) Tryz.underlying32 rfl (by kernel_rfl)) rfl ?_
  exact ⟨rsl_, bel_⟩

/-! ### value_Sign: function 93 -/
def value_Sign.f (l0 : List (S62)) (a1 : Int) (a2 : ByteArray) : Option (Bool) := (value_word.f l0 a1).bind fun bt230 => (if bt230.1 = 7 then (some (bt230.2.2.1.toList == a2.toList)) else (some false))
set_option maxHeartbeats 8000000 in
set_option maxRecDepth 100000 in
theorem value_Sign.calls (A0 : Option Addr) (c0 : Nat) (l0 : List (S62)) (a1 : Int) (a2 : ByteArray) (r : Bool) (w : World) (hr0 : Kd.C k62 w A0 l0.length l0) (hc0 : l0.length ≤ c0) (h : value_Sign.f l0 a1 a2 = some r) :
  Calls Tryz.prog 93 #[.slice A0 l0.length c0, .int .i64 a1, .string a2] w fun e w' => e = .returned (.bool r) ∧ Below w.heap.size w w' := by
 have hu62 := Tryz.underlying62
 have HR0 := Aside0.mk hr0
 have HC0 := Aside0.mk hc0
 clear hr0 hc0
 have HB := Aside0.mk (Below.refl w.heap.size w)
 have H : ((value_word.f l0 a1).bind fun bt230 => (if bt230.1 = 7 then (some (bt230.2.2.1.toList == a2.toList)) else (some false))) = some r := h
 clear h
 replace H := Option.bind_eq_some_iff.mp H
 obtain ⟨⟨t230, t231, t232, t233⟩, A40, H⟩ := H
 try dsimp only at H
 have A4 := Aside0.mk A40
 clear A40
 by_cases c5 : t230 = 7
 ·rw [if_pos c5] at H
  have c5b0 : (t230 == 7) = true := beq_iff_eq.mpr c5
  have c5b1 : (t230 != 7) = false := bne_eq_false_iff_eq.mpr c5
  clear c5
  obtain rfl := Option.some.inj H
  go_enter Tryz.func93, Tryz.ntmps93
  go_wp2_with (first | ((with_reducible refine gate_callee (f := 80) rfl ?_); refine goesL_ (some 10) rfl rfl Tryz.func80 (by kernel_rfl) rfl #[.slice A0 l0.length c0, .int .i64 a1] rfl goa_ ?_; (with_reducible refine (value_word.calls _ _ l0 a1 t230 t231 t232 t233 _ ?side1 ?side2 A4.out).mono ?_); (case side1 => repeat (first | exact HR0.out | (with_reducible refine Kd.C_alloc ?_ _) | (with_reducible refine Kd.C_drewN ?_ _) | (with_reducible refine Kd.C_drew ?_))); (case side2 => exact HC0.out); rintro e w6 ⟨rfl, hb⟩; refine ⟨_, rfl, ?_⟩; have n0_ := Aside0.mk (below_step bel_ hb); clear HB; have HB := n0_; clear n0_; clear hb) | ((with_reducible refine gate_dst (N := 7) rfl ?_); refine box_event ?hg (N := 7) ?hd (cs := #[.int .i64 0, .int .i64 0, .string (⟨#[]⟩ : ByteArray), .string (⟨#[]⟩ : ByteArray)]) (t := 62) ?hr ?_; (case hd => rfl); (case hg => rfl); (case hr => first | (go_simp; done) | (go_simp; rfl)); intro gb234 hg w7 hbox hb; have n0_ := Aside0.mk (below_step bel_ hb); have n1_ := Aside0.mk (hbox); have n2_ := Aside0.mk ((bsz_ hg : w.heap.size ≤ gb234)); have n3_ := Aside0.mk ((bsz_ hg : w.heap.size ≤ gb234)); clear HB; have HB := n0_; have BK234 := n1_; have GW234 := n2_; have GE234 := n3_; clear n0_ n1_ n2_ n3_; clear hb hbox hg; have hcz8_0 : w7.cell? ⟨gb234, 0, none⟩ = some (.int .i64 0) := (blk_cell BK234.out 0).trans rfl; have hcz8_1 : w7.cell? ⟨gb234, 1, none⟩ = some (.int .i64 0) := (blk_cell BK234.out 1).trans rfl; have hcz8_2 : w7.cell? ⟨gb234, 2, none⟩ = some (.string (⟨#[]⟩ : ByteArray)) := (blk_cell BK234.out 2).trans rfl; have hcz8_3 : w7.cell? ⟨gb234, 3, none⟩ = some (.string (⟨#[]⟩ : ByteArray)) := (blk_cell BK234.out 3).trans rfl; have hfz8_0 := blk_frozen BK234.out 0; have hfz8_1 := blk_frozen BK234.out 1; have hfz8_2 := blk_frozen BK234.out 2; have hfz8_3 := blk_frozen BK234.out 3))
  go_ret
  exact ⟨rsl_, bel_⟩
 ·rw [if_neg c5] at H
  have c5b0 : (t230 == 7) = false := beq_eq_false_iff_ne.mpr c5
  have c5b1 : (t230 != 7) = true := bne_iff_ne.mpr c5
  obtain rfl := Option.some.inj H
  go_enter Tryz.func93, Tryz.ntmps93
  go_wp2_with (first | ((with_reducible refine gate_callee (f := 80) rfl ?_); refine goesL_ (some 10) rfl rfl Tryz.func80 (by kernel_rfl) rfl #[.slice A0 l0.length c0, .int .i64 a1] rfl goa_ ?_; (with_reducible refine (value_word.calls _ _ l0 a1 t230 t231 t232 t233 _ ?side1 ?side2 A4.out).mono ?_); (case side1 => repeat (first | exact HR0.out | (with_reducible refine Kd.C_alloc ?_ _) | (with_reducible refine Kd.C_drewN ?_ _) | (with_reducible refine Kd.C_drew ?_))); (case side2 => exact HC0.out); rintro e w9 ⟨rfl, hb⟩; refine ⟨_, rfl, ?_⟩; have n0_ := Aside0.mk (below_step bel_ hb); clear HB; have HB := n0_; clear n0_; clear hb) | ((with_reducible refine gate_dst (N := 7) rfl ?_); refine box_event ?hg (N := 7) ?hd (cs := #[.int .i64 0, .int .i64 0, .string (⟨#[]⟩ : ByteArray), .string (⟨#[]⟩ : ByteArray)]) (t := 62) ?hr ?_; (case hd => rfl); (case hg => rfl); (case hr => first | (go_simp; done) | (go_simp; rfl)); intro gb234 hg w10 hbox hb; have n0_ := Aside0.mk (below_step bel_ hb); have n1_ := Aside0.mk (hbox); have n2_ := Aside0.mk ((bsz_ hg : w.heap.size ≤ gb234)); have n3_ := Aside0.mk ((bsz_ hg : w.heap.size ≤ gb234)); clear HB; have HB := n0_; have BK234 := n1_; have GW234 := n2_; have GE234 := n3_; clear n0_ n1_ n2_ n3_; clear hb hbox hg; have hcz11_0 : w10.cell? ⟨gb234, 0, none⟩ = some (.int .i64 0) := (blk_cell BK234.out 0).trans rfl; have hcz11_1 : w10.cell? ⟨gb234, 1, none⟩ = some (.int .i64 0) := (blk_cell BK234.out 1).trans rfl; have hcz11_2 : w10.cell? ⟨gb234, 2, none⟩ = some (.string (⟨#[]⟩ : ByteArray)) := (blk_cell BK234.out 2).trans rfl; have hcz11_3 : w10.cell? ⟨gb234, 3, none⟩ = some (.string (⟨#[]⟩ : ByteArray)) := (blk_cell BK234.out 3).trans rfl; have hfz11_0 := blk_frozen BK234.out 0; have hfz11_1 := blk_frozen BK234.out 1; have hfz11_2 := blk_frozen BK234.out 2; have hfz11_3 := blk_frozen BK234.out 3))
  go_ret
  exact ⟨rsl_, bel_⟩

end Go.Proofs.YtofdhdafabmhmaaGreatDoor.PLt
end
section
namespace Go.Proofs.YtofdhdafabmhmaaGreatDoor.PLt
open Go.RowKit Go.Proofs.YtofdhdafabmhmaaGreatDoorW.PrintWords Go.Proofs.YtofdhdafabmhmaaGreatDoorW.PrintLast Go.Proofs.YtofdhdafabmhmaaGreatDoorW.PrintMore
attribute [local go_sem] max2_int min2_int max_two min_two max_three min_three max_four min_four   -- for this text's walks alone
set_option linter.unusedVariables false
set_option linter.unusedSimpArgs false
open Go.Proofs.YtofdhdafabmhmaaGreatDoor.Opn Go.Proofs.YtofdhdafabmhmaaGreatDoor.Giv

/-! ### number_isScale: function 131 -/
def number_isScale.f (a0 : Int) : Option (Bool) := if a0 = 1 then (some true) else (if a0 = 64 then (some true) else (some (a0 == 1000)))
set_option maxHeartbeats 8000000 in
set_option maxRecDepth 100000 in
theorem number_isScale.calls (a0 : Int) (r : Bool) (w : World) (h : number_isScale.f a0 = some r) :
  Calls Tryz.prog 131 #[.int .i64 a0] w fun e w' => e = .returned (.bool r) ∧ Drawn0 w w' := by
 have H : (if a0 = 1 then (some true) else (if a0 = 64 then (some true) else (some (a0 == 1000)))) = some r := h
 clear h
 by_cases c2 : a0 = 1
 ·rw [if_pos c2] at H
  have c2b0 : (a0 == 1) = true := beq_iff_eq.mpr c2
  have c2b1 : (a0 != 1) = false := bne_eq_false_iff_eq.mpr c2
  clear c2
  obtain rfl := Option.some.inj H
  go_enter Tryz.func131, Tryz.ntmps131
  go_wp2
  go_ret
  exact ⟨by first | rfl | (simp; done) | (simp [*]; done), by repeat (first | exact Drawn0.refl _ | apply Drawn0.step)⟩
 ·rw [if_neg c2] at H
  have c2b0 : (a0 == 1) = false := beq_eq_false_iff_ne.mpr c2
  have c2b1 : (a0 != 1) = true := bne_iff_ne.mpr c2
  by_cases c3 : a0 = 64
  ·rw [if_pos c3] at H
   have c3b0 : (a0 == 64) = true := beq_iff_eq.mpr c3
   have c3b1 : (a0 != 64) = false := bne_eq_false_iff_eq.mpr c3
   clear c3
   obtain rfl := Option.some.inj H
   go_enter Tryz.func131, Tryz.ntmps131
   go_wp2
   go_ret
   exact ⟨by first | rfl | (simp; done) | (simp [*]; done), by repeat (first | exact Drawn0.refl _ | apply Drawn0.step)⟩
  ·rw [if_neg c3] at H
   have c3b0 : (a0 == 64) = false := beq_eq_false_iff_ne.mpr c3
   have c3b1 : (a0 != 64) = true := bne_iff_ne.mpr c3
   obtain rfl := Option.some.inj H
   go_enter Tryz.func131, Tryz.ntmps131
   go_wp2
   go_ret
   exact ⟨by first | rfl | (simp; done) | (simp [*]; done), by repeat (first | exact Drawn0.refl _ | apply Drawn0.step)⟩

end Go.Proofs.YtofdhdafabmhmaaGreatDoor.PLt
end
