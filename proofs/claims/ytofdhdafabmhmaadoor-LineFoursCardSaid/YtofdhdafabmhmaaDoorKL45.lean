/- LineFoursCardSaid, part 6 of 13: contracts of the program's functions, the words that they use, and the plain laws on what they compute. Conditions: none beyond what the statements say. -/
import Derived.Test.YtofdhdafabmhmaaDoorKL40
import Derived.Test.YtofdhdafabmhmaaDoorKL41
import Derived.Test.YtofdhdafabmhmaaDoorKL43
import Derived.Test.YtofdhdafabmhmaaDoorKL44
import Derived.BigRegion
import Derived.BigQuiet
import Derived.Deep.QuietTactic
import Derived.Test.YtofdhdafabmhmaaDoorProg
import Derived.Lib.Strings
import Derived.Lib.Slices
import Derived.Lib.Walk
import Derived.Lib.Builder
import Derived.Lib.AppendStr
import Derived.Lib.UnsafeStr
import Derived.WalkKit
import Derived.Tactics
import Derived.OwnWalk
import Derived.Laws.Externs
import Derived.KernelRfl
import Derived.Outline
set_option linter.unusedVariables false
set_option linter.unusedSimpArgs false
section
namespace Go.Proofs.YtofdhdafabmhmaaDoor.PLf4
open Go.RowKit Go.Proofs.YtofdhdafabmhmaaDoorW.PrintWords Go.Proofs.YtofdhdafabmhmaaDoorW.PrintLast Go.Proofs.YtofdhdafabmhmaaDoorW.PrintMore
attribute [local go_sem] max2_int min2_int max_two min_two max_three min_three max_four min_four
open Go.Proofs.YtofdhdafabmhmaaDoor.Opn Go.Proofs.YtofdhdafabmhmaaDoor.Giv
set_option maxRecDepth 100000

/-! ### token_Hex: function 112 -/
mutual
def token_Hex.j0 : Nat → ByteArray → Int → Bool → Option (ByteArray × Int)
 | 0, _, _, _ => none
 | k + 1, x0, x1, x31 => if x31 = true then (some ((⟨#[]⟩ : ByteArray), 0)) else (token_Hex.l0 k x0 x1 0 0 0)
def token_Hex.j2 : Nat → ByteArray → Int → Int → Int → Option (ByteArray × Int)
 | 0, _, _, _, _ => none
 | k + 1, x0, x1, x6, x7 => if x7 = 0 then (if 0 ≤ (wrap64 (x1 + 1)) then (if (wrap64 (x1 + 1)) ≤ (wrap64 (x1 + 2)) then (if (wrap64 (x1 + 2)) ≤ (x0.size : Int) then (some (x0.extract ((wrap64 (x1 + 1)) : Int).toNat ((wrap64 (x1 + 2)) : Int).toNat, 2)) else (none)) else (none)) else (none)) else (if (wrap64 ((wrap64 (x1 + 1)) + x7)) < (x0.size : Int) then (if 0 ≤ (wrap64 ((wrap64 (x1 + 1)) + x7)) then ((token_blank.f (bt x0 (wrap64 ((wrap64 (x1 + 1)) + x7)))).bind fun t171 => (if t171 = true then ((token_character.f k x6).bind fun t172 => (some (t172, wrap64 ((wrap64 ((wrap64 ((wrap64 (x1 + 1)) + x7)) + 1)) - x1)))) else ((token_character.f k x6).bind fun t173 => (some (t173, wrap64 ((wrap64 ((wrap64 (x1 + 1)) + x7)) - x1)))))) else (none)) else ((token_character.f k x6).bind fun t174 => (some (t174, wrap64 ((wrap64 ((wrap64 (x1 + 1)) + x7)) - x1)))))
def token_Hex.l0 : Nat → ByteArray → Int → Int → Int → Int → Option (ByteArray × Int)
 | 0, _, _, _, _, _ => none
 | k + 1, x0, x1, x6, x7, x32 => if x32 < 6 then (if (wrap64 ((wrap64 (x1 + 1)) + x32)) ≥ (x0.size : Int) then (token_Hex.j2 k x0 x1 x6 x7) else (if 0 ≤ (wrap64 ((wrap64 (x1 + 1)) + x32)) then (if (wrap64 ((wrap64 (x1 + 1)) + x32)) < (x0.size : Int) then ((token_hex.f k (bt x0 (wrap64 ((wrap64 (x1 + 1)) + x32)))).bind fun t169 => (if t169 < 0 then (token_Hex.j2 k x0 x1 x6 x7) else ((token_hex.f k (bt x0 (wrap64 ((wrap64 (x1 + 1)) + x32)))).bind fun t170 => (token_Hex.l0 k x0 x1 (wrap64 ((wrap64 (x6 * 16)) + t170)) (wrap64 (x7 + 1)) (wrap64 (x32 + 1)))))) else (none)) else (none))) else (token_Hex.j2 k x0 x1 x6 x7)
end
def token_Hex.f (k : Nat) (a0 : ByteArray) (a1 : Int) : Option (ByteArray × Int) := if a1 < 0 then (token_Hex.j0 k a0 a1 true) else (if a1 > (wrap64 ((a0.size : Int) - 2)) then (token_Hex.j0 k a0 a1 true) else (if 0 ≤ a1 then (if a1 < (a0.size : Int) then (if (bt a0 a1) = 92 then (if 0 ≤ (wrap64 (a1 + 1)) then (if (wrap64 (a1 + 1)) < (a0.size : Int) then ((token_feed.f (bt a0 (wrap64 (a1 + 1)))).bind fun t168 => (token_Hex.j0 k a0 a1 t168)) else (none)) else (none)) else (token_Hex.j0 k a0 a1 true)) else (none)) else (none)))
theorem token_Hex.mono_l : ∀ k, (∀ y0 y1 y2, LeO (token_Hex.j0 k y0 y1 y2) (token_Hex.j0 (k + 1) y0 y1 y2)) ∧ (∀ y0 y1 y2 y3, LeO (token_Hex.j2 k y0 y1 y2 y3) (token_Hex.j2 (k + 1) y0 y1 y2 y3)) ∧ (∀ y0 y1 y2 y3 y4, LeO (token_Hex.l0 k y0 y1 y2 y3 y4) (token_Hex.l0 (k + 1) y0 y1 y2 y3 y4))
 | 0 => ⟨fun _ _ _ r h => by simp [token_Hex.j0] at h, fun _ _ _ _ r h => by simp [token_Hex.j2] at h, fun _ _ _ _ _ r h => by simp [token_Hex.l0] at h⟩
 | k + 1 => by
  obtain ⟨ih0, ih1, ih2⟩ := token_Hex.mono_l k; refine ⟨?_, ?_, ?_⟩
  ·intro y0 y1 y2; unfold token_Hex.j0; repeat' first
   | (with_reducible exact ih0 _ _ _)
   | (with_reducible exact ih1 _ _ _ _)
   | (with_reducible exact ih2 _ _ _ _ _)
   | (with_reducible exact token_character.mono _ _)
   | (with_reducible exact token_hex.mono _ _)
   | (with_reducible first | exact LeO.refl _ | exact LeO.none _ | refine LeO.ite ?_ ?_ | refine LeO.bind ?_ (fun _ => ?_))
  ·intro y0 y1 y2 y3; unfold token_Hex.j2; repeat' first
   | (with_reducible exact ih0 _ _ _)
   | (with_reducible exact ih1 _ _ _ _)
   | (with_reducible exact ih2 _ _ _ _ _)
   | (with_reducible exact token_character.mono _ _)
   | (with_reducible exact token_hex.mono _ _)
   | (with_reducible first | exact LeO.refl _ | exact LeO.none _ | refine LeO.ite ?_ ?_ | refine LeO.bind ?_ (fun _ => ?_))
  intro y0 y1 y2 y3 y4; unfold token_Hex.l0; repeat' first
  | (with_reducible exact ih0 _ _ _)
  | (with_reducible exact ih1 _ _ _ _)
  | (with_reducible exact ih2 _ _ _ _ _)
  | (with_reducible exact token_character.mono _ _)
  | (with_reducible exact token_hex.mono _ _)
  | (with_reducible first | exact LeO.refl _ | exact LeO.none _ | refine LeO.ite ?_ ?_ | refine LeO.bind ?_ (fun _ => ?_))
theorem token_Hex.mono : ∀ a0 a1 k, LeO (token_Hex.f k a0 a1) (token_Hex.f (k + 1) a0 a1) := by
 intro a0 a1 k; obtain ⟨ih0, ih1, ih2⟩ := token_Hex.mono_l k; unfold token_Hex.f; repeat' first
   | (with_reducible exact ih0 _ _ _)
   | (with_reducible exact ih1 _ _ _ _)
   | (with_reducible exact ih2 _ _ _ _ _)
   | (with_reducible exact token_character.mono _ _)
   | (with_reducible exact token_hex.mono _ _)
   | (with_reducible first | exact LeO.refl _ | exact LeO.none _ | refine LeO.ite ?_ ?_ | refine LeO.bind ?_ (fun _ => ?_))
set_option maxHeartbeats 8000000 in
theorem token_Hex.calls (k : Nat) (a0 : ByteArray) (a1 : Int) (r1 : ByteArray) (r2 : Int) (w : World) (h : token_Hex.f k a0 a1 = some (r1, r2)) :
  Calls Tryd.prog 112 #[.string a0, .int .i64 a1] w fun e w' => e = .returned (.tuple #[.string r1, .int .i64 r2]) ∧ Below w.heap.size w w' := by
 have HB := am_ (Below.refl w.heap.size w); have H : (if a1 < 0 then (token_Hex.j0 k a0 a1 true) else (if a1 > (wrap64 ((a0.size : Int) - 2)) then (token_Hex.j0 k a0 a1 true) else (if 0 ≤ a1 then (if a1 < (a0.size : Int) then (if (bt a0 a1) = 92 then (if 0 ≤ (wrap64 (a1 + 1)) then (if (wrap64 (a1 + 1)) < (a0.size : Int) then ((token_feed.f (bt a0 (wrap64 (a1 + 1)))).bind fun t168 => (token_Hex.j0 k a0 a1 t168)) else (none)) else (none)) else (token_Hex.j0 k a0 a1 true)) else (none)) else (none)))) = some (r1, r2) := h; clear h; have HC3 := am_ H; clear H; go_enter Tryd.func112, Tryd.ntmps112
 go_upto_region 1 with (fail)
 go_cut [31] (fun v31 wc => ∃ (kq : Nat) (x31_2 : Bool), v31 = .bool x31_2 ∧ Aside0 (token_Hex.j0 kq a0 a1 x31_2 = some (r1, r2)) ∧ Aside0 (kq ≤ k) ∧ Aside0 (Below w.heap.size w wc))
 case first =>
  have H := HC3.out; clear HC3; by_cases c4 : a1 < 0
  ·rw [if_pos c4] at H; have c4b0 : decide (a1 < 0) = true := dt_ c4; clear c4; (first | rw [c4b0] | (simp only [i64_w, i32_w]; rw [c4b0]) | skip)
   have H' := am_ H; clear H; go_wp2; go_meet
   case rel => exact ⟨_, (true), rfs_, (by first | exact H' | (subst_vars; exact H')), ⟨ole_⟩, ⟨bel_⟩⟩
  rw [if_neg c4] at H; have c4b0 : decide (a1 < 0) = false := df_ c4; clear c4; (first | rw [c4b0] | (simp only [i64_w, i32_w]; rw [c4b0]) | skip)
  by_cases c5 : a1 > (wrap64 ((a0.size : Int) - 2))
  ·rw [if_pos c5] at H; have c5b0 : decide ((wrap64 ((a0.size : Int) - 2)) < a1) = true := dt_ c5; clear c5; have H' := am_ H; clear H; go_wp2; go_meet
   case rel => exact ⟨_, (true), rfs_, (by first | exact H' | (subst_vars; exact H')), ⟨ole_⟩, ⟨bel_⟩⟩
  rw [if_neg c5] at H; have c5b0 : decide ((wrap64 ((a0.size : Int) - 2)) < a1) = false := df_ c5; clear c5; by_cases c6 : 0 ≤ a1
  ·rw [if_pos c6] at H; have c6b0 : decide (0 ≤ a1) = true := dt_ c6; clear c6; by_cases c7 : a1 < (a0.size : Int)
   ·rw [if_pos c7] at H; have c7b0 : decide (a1 < (a0.size : Int)) = true := dt_ c7; clear c7; by_cases c9 : (bt a0 a1) = 92
    ·rw [if_pos c9] at H; have c9b0 : ((bt a0 a1) == 92) = true := beq_iff_eq.mpr c9; have c9b1 : ((bt a0 a1) != 92) = false := bne_eq_false_iff_eq.mpr c9; clear c9; obtain ⟨ji10, hji10⟩ : ∃ j_ : Int, (wrap64 (a1 + 1)) = j_ := ⟨_, rfl⟩
     replace H : (if 0 ≤ (ji10) then (if (ji10) < (a0.size : Int) then ((token_feed.f (bt a0 (ji10))).bind fun t168 => (token_Hex.j0 k a0 a1 t168)) else (none)) else (none)) = some (r1, r2) := by first | (rw [hji10] at H; exact H) | (simp only [hji10] at H ⊢; exact H)
     have hji10w : (IntKind.i64.wrap (a1 + 1)) = ji10 := (i64_w _).trans hji10; by_cases c11 : 0 ≤ (ji10)
     ·rw [if_pos c11] at H; have c11b0 : decide (0 ≤ (ji10)) = true := dt_ c11; clear c11; by_cases c12 : (ji10) < (a0.size : Int)
      ·rw [if_pos c12] at H; have c12b0 : decide ((ji10) < (a0.size : Int)) = true := dt_ c12; clear c12; replace H := bs_ H; obtain ⟨t168, A140, H⟩ := H; try dsimp only at H
       have A14 := am_ A140; clear A140; have H' := am_ H; clear H; have p8 : 0 ≤ (a1 : Int) := od_ (by first | (with_reducible assumption) | assumption); have q8 : a1 < (a0.size : Int) := od_ (by first | (with_reducible assumption) | assumption); have hx8 := bt_at a0 a1; replace p8 := eq_true p8; replace q8 := eq_true q8; have p13 : 0 ≤ ((ji10) : Int) := od_ (by first | (with_reducible assumption) | assumption); have q13 : (ji10) < (a0.size : Int) := od_ (by first | (with_reducible assumption) | assumption); have hx13 := bt_at a0 (ji10); replace p13 := eq_true p13; replace q13 := eq_true q13; go_wp2_with (first | (go_at_call 103; (with_reducible refine (token_feed.calls (bt a0 (ji10)) t168 _ A14.out).mono ?_); rintro e w' ⟨rfl, ⟨nd, rfl⟩⟩))
       go_meet
       case rel => exact ⟨_, (t168), rfs_, (by first | exact H' | (subst_vars; exact H')), ⟨ole_⟩, ⟨bel_⟩⟩
      rw [if_neg c12] at H; exact absurd H (by simp)
     rw [if_neg c11] at H; exact absurd H (by simp)
    rw [if_neg c9] at H; have c9b0 : ((bt a0 a1) == 92) = false := beq_eq_false_iff_ne.mpr c9; have c9b1 : ((bt a0 a1) != 92) = true := bne_iff_ne.mpr c9; have H' := am_ H; clear H; have p8 : 0 ≤ (a1 : Int) := od_ (by first | (with_reducible assumption) | assumption); have q8 : a1 < (a0.size : Int) := od_ (by first | (with_reducible assumption) | assumption); have hx8 := bt_at a0 a1; replace p8 := eq_true p8; replace q8 := eq_true q8; go_wp2; go_meet
    case rel => exact ⟨_, (true), rfs_, (by first | exact H' | (subst_vars; exact H')), ⟨ole_⟩, ⟨bel_⟩⟩
   rw [if_neg c7] at H; exact absurd H (by simp)
  rw [if_neg c6] at H; exact absurd H (by simp)
 clear HC3; obtain ⟨kq, x31_2, rfl, HA, HJ2, HB⟩ := hcut
 cases kq with
 | zero => exact absurd HA.out (by simp [token_Hex.j0])
 | succ kj2 =>
  have H := HA.out; clear HA; simp only [token_Hex.j0] at H; by_cases c15 : x31_2 = true
  ·subst c15; rw [if_pos rfl] at H; simp only [Option.some.injEq, Prod.mk.injEq] at H; obtain ⟨rfl, rfl⟩ := H; go_wp2; go_ret2
   exact ⟨rsl_, bel_⟩
  replace c15 := Bool.eq_false_iff.mpr c15; subst c15; rw [if_neg (show ¬ (false = true) by decide)] at H; have HC16 := am_ H; clear H; go_upto_block 0 with (fail)
  go_cut [6, 7] (fun v6 v7 wc => ∃ (kq : Nat) (x6_15 : Int) (x7_15 : Int), v6 = .int .i64 x6_15 ∧ v7 = .int .i64 x7_15 ∧ Aside0 (token_Hex.j2 kq a0 a1 x6_15 x7_15 = some (r1, r2)) ∧ Aside0 (kq ≤ kj2) ∧ Aside0 (Below w.heap.size w wc))
  case first =>
   have H := HC16.out; clear HC16; have H' := am_ H; clear H; go_wp2; go_loopg [6, 7, 32] kj2 (fun kq v6 v7 v32 w' => ∃ (x6_2 : Int) (x7_2 : Int) (x32_2 : Int), v6 = .int .i64 x6_2 ∧ v7 = .int .i64 x7_2 ∧ v32 = .int .i64 x32_2 ∧ Aside0 (token_Hex.l0 kq a0 a1 x6_2 x7_2 x32_2 = some (r1, r2)) ∧ Aside0 (kq ≤ kj2) ∧ Aside0 (Below w.heap.size w w'))
   case atStart => exact ⟨(0), (0), (0), rfs_, rfs_, rfs_, H', ⟨Nat.le_refl _⟩, ⟨bel_⟩⟩
   case round =>
    clear H'; try clear c15
    obtain ⟨x6_2, x7_2, x32_2, rfl, rfl, rfl, HA, HK2, HB⟩ := hrel
    cases gk with
    | zero => exact absurd HA.out (by simp [token_Hex.l0])
    | succ k2 =>
     have H := HA.out; clear HA; simp only [token_Hex.l0] at H; by_cases c17 : x32_2 < 6
     ·rw [if_pos c17] at H; have c17b0 : decide (x32_2 < 6) = true := dt_ c17; clear c17; (first | rw [c17b0] | (simp only [i64_w, i32_w]; rw [c17b0]) | skip)
      by_cases c18 : (wrap64 ((wrap64 (a1 + 1)) + x32_2)) ≥ (a0.size : Int)
      ·rw [if_pos c18] at H; have c18b0 : decide ((a0.size : Int) ≤ (wrap64 ((wrap64 (a1 + 1)) + x32_2))) = true := dt_ c18; clear c18; have H' := am_ H; clear H; go_wp2; go_meet
       case rel => exact ⟨_, (x6_2), (x7_2), rfs_, rfs_, H', ⟨by have := HJ2.out; have := HK2.out; first | omega | exact Nat.le_refl _⟩, ⟨bel_⟩⟩
      rw [if_neg c18] at H; have c18b0 : decide ((a0.size : Int) ≤ (wrap64 ((wrap64 (a1 + 1)) + x32_2))) = false := df_ c18; clear c18; obtain ⟨ji19, hji19⟩ : ∃ j_ : Int, (wrap64 ((wrap64 (a1 + 1)) + x32_2)) = j_ := ⟨_, rfl⟩
      replace H : (if 0 ≤ (ji19) then (if (ji19) < (a0.size : Int) then ((token_hex.f k2 (bt a0 (ji19))).bind fun t169 => (if t169 < 0 then (token_Hex.j2 k2 a0 a1 x6_2 x7_2) else ((token_hex.f k2 (bt a0 (ji19))).bind fun t170 => (token_Hex.l0 k2 a0 a1 (wrap64 ((wrap64 (x6_2 * 16)) + t170)) (wrap64 (x7_2 + 1)) (wrap64 (x32_2 + 1)))))) else (none)) else (none)) = some (r1, r2) := by first | (rw [hji19] at H; exact H) | (simp only [hji19] at H ⊢; exact H)
      (try rw [hji19] at c18b0)
      have hji19w : (IntKind.i64.wrap ((wrap64 (a1 + 1)) + x32_2)) = ji19 := (i64_w _).trans hji19; by_cases c20 : 0 ≤ (ji19)
      ·rw [if_pos c20] at H; have c20b0 : decide (0 ≤ (ji19)) = true := dt_ c20; clear c20; by_cases c21 : (ji19) < (a0.size : Int)
       ·rw [if_pos c21] at H; have c21b0 : decide ((ji19) < (a0.size : Int)) = true := dt_ c21; clear c21; replace H := bs_ H; obtain ⟨t169, A230, H⟩ := H; try dsimp only at H
        have A23 := am_ A230; clear A230; by_cases c24 : t169 < 0
        ·rw [if_pos c24] at H; have c24b0 : decide (t169 < 0) = true := dt_ c24; clear c24; have H' := am_ H; clear H; have p22 : 0 ≤ ((ji19) : Int) := od_ (by first | (with_reducible assumption) | assumption); have q22 : (ji19) < (a0.size : Int) := od_ (by first | (with_reducible assumption) | assumption); have hx22 := bt_at a0 (ji19); replace p22 := eq_true p22; replace q22 := eq_true q22; go_wp2_with (first | (go_at_call 128; (with_reducible refine (token_hex.calls k2 (bt a0 (ji19)) t169 _ A23.out).mono ?_); rintro e w' ⟨rfl, ⟨nd, rfl⟩⟩))
         go_meet
         case rel => exact ⟨_, (x6_2), (x7_2), rfs_, rfs_, H', ⟨by have := HJ2.out; have := HK2.out; first | omega | exact Nat.le_refl _⟩, ⟨bel_⟩⟩
        rw [if_neg c24] at H; have c24b0 : decide (t169 < 0) = false := df_ c24; clear c24; replace H := bs_ H; obtain ⟨t170, A260, H⟩ := H; try dsimp only at H
        have A26 := am_ A260; clear A260; have H' := am_ H; clear H; have p22 : 0 ≤ ((ji19) : Int) := od_ (by first | (with_reducible assumption) | assumption); have q22 : (ji19) < (a0.size : Int) := od_ (by first | (with_reducible assumption) | assumption); have hx22 := bt_at a0 (ji19); replace p22 := eq_true p22; replace q22 := eq_true q22; go_wp2_with (first | (go_at_call 128; (with_reducible refine (token_hex.calls k2 (bt a0 (ji19)) t169 _ A23.out).mono ?_); rintro e w' ⟨rfl, ⟨nd, rfl⟩⟩; have p25 : 0 ≤ ((ji19) : Int) := od_ (by first | (with_reducible assumption) | assumption); have q25 : (ji19) < (a0.size : Int) := od_ (by first | (with_reducible assumption) | assumption); have hx25 := bt_at a0 (ji19); replace p25 := eq_true p25; replace q25 := eq_true q25) | ((with_reducible refine gate_callee (f := 128) rfl ?_); refine goesL_ (some 60) rfl rfl Tryd.func128 (by kernel_rfl) rfl #[.int .u8 (bt a0 (ji19))] rfl (by (try simp only [List.map_toArray, List.map_cons, List.map_nil]); first | done | (simp only [hji19]; rfl) | rfl | (simp only [List.length_drop, List.length_take]; rfl)) ?_; (with_reducible refine (token_hex.calls k2 (bt a0 (ji19)) t170 _ A26.out).mono ?_); rintro e w' ⟨rfl, ⟨nd, rfl⟩⟩; refine ⟨_, rfl, ?_⟩))
        go_roundg k2
        case measure => have := HJ2.out; have := HK2.out; omega
        case rel => exact ⟨(wrap64 ((wrap64 (x6_2 * 16)) + t170)), (wrap64 (x7_2 + 1)), (wrap64 (x32_2 + 1)), rfs_, rfs_, rfs_, H', ⟨by have := HJ2.out; have := HK2.out; omega⟩, ⟨bel_⟩⟩
       rw [if_neg c21] at H; exact absurd H (by simp)
      rw [if_neg c20] at H; exact absurd H (by simp)
     rw [if_neg c17] at H; have c17b0 : decide (x32_2 < 6) = false := df_ c17; clear c17; (first | rw [c17b0] | (simp only [i64_w, i32_w]; rw [c17b0]) | skip)
     have H' := am_ H; clear H; go_wp2; go_meet
     case rel => exact ⟨_, (x6_2), (x7_2), rfs_, rfs_, H', ⟨by have := HJ2.out; have := HK2.out; first | omega | exact Nat.le_refl _⟩, ⟨bel_⟩⟩
  clear HC16; try clear c15
  obtain ⟨kq, x6_15, x7_15, rfl, rfl, HA, HJ15, HB⟩ := hcut
  cases kq with
  | zero => exact absurd HA.out (by simp [token_Hex.j2])
  | succ kj15 =>
   have H := HA.out; clear HA; simp only [token_Hex.j2] at H; by_cases c27 : x7_15 = 0
   ·rw [if_pos c27] at H; have c27b0 : (x7_15 == 0) = true := beq_iff_eq.mpr c27; have c27b1 : (x7_15 != 0) = false := bne_eq_false_iff_eq.mpr c27; clear c27; obtain ⟨ji28, hji28⟩ : ∃ j_ : Int, (wrap64 (a1 + 1)) = j_ := ⟨_, rfl⟩
    replace H : (if 0 ≤ (ji28) then (if (ji28) ≤ (wrap64 (a1 + 2)) then (if (wrap64 (a1 + 2)) ≤ (a0.size : Int) then (some (a0.extract ((ji28) : Int).toNat ((wrap64 (a1 + 2)) : Int).toNat, 2)) else (none)) else (none)) else (none)) = some (r1, r2) := by first | (rw [hji28] at H; exact H) | (simp only [hji28] at H ⊢; exact H)
    have hji28w : (IntKind.i64.wrap (a1 + 1)) = ji28 := (i64_w _).trans hji28; by_cases c29 : 0 ≤ (ji28)
    ·rw [if_pos c29] at H; have c29b0 := eq_true c29; have c29b1 : decide (0 ≤ (ji28)) = true := dt_ c29; clear c29; by_cases c30 : (ji28) ≤ (wrap64 (a1 + 2))
     ·rw [if_pos c30] at H; have c30b0 := eq_true c30; have c30b1 : decide ((ji28) ≤ (wrap64 (a1 + 2))) = true := dt_ c30; by_cases c31 : (wrap64 (a1 + 2)) ≤ (a0.size : Int)
      ·rw [if_pos c31] at H; have c31b0 := eq_true c31; have c31b1 : decide ((wrap64 (a1 + 2)) ≤ (a0.size : Int)) = true := dt_ c31; simp only [Option.some.injEq, Prod.mk.injEq] at H; obtain ⟨rfl, rfl⟩ := H; go_wp2; go_ret2
       exact ⟨by first | rfl | (simp [errW_none, errW_some] <;> rfl) | (simp only [← hji28]; first | rfl | (simp [errW_none, errW_some] <;> rfl)) | (simp [*, errW_none, errW_some] <;> rfl), bel_⟩
      rw [if_neg c31] at H; exact absurd H (by simp)
     rw [if_neg c30] at H; exact absurd H (by simp)
    rw [if_neg c29] at H; exact absurd H (by simp)
   rw [if_neg c27] at H; have c27b0 : (x7_15 == 0) = false := beq_eq_false_iff_ne.mpr c27; have c27b1 : (x7_15 != 0) = true := bne_iff_ne.mpr c27; by_cases c32 : (wrap64 ((wrap64 (a1 + 1)) + x7_15)) < (a0.size : Int)
   ·rw [if_pos c32] at H; have c32b0 : decide ((wrap64 ((wrap64 (a1 + 1)) + x7_15)) < (a0.size : Int)) = true := dt_ c32; clear c32; obtain ⟨ji33, hji33⟩ : ∃ j_ : Int, (wrap64 ((wrap64 (a1 + 1)) + x7_15)) = j_ := ⟨_, rfl⟩
    replace H : (if 0 ≤ (ji33) then ((token_blank.f (bt a0 (ji33))).bind fun t171 => (if t171 = true then ((token_character.f kj15 x6_15).bind fun t172 => (some (t172, wrap64 ((wrap64 ((ji33) + 1)) - a1)))) else ((token_character.f kj15 x6_15).bind fun t173 => (some (t173, wrap64 ((ji33) - a1)))))) else (none)) = some (r1, r2) := by first | (rw [hji33] at H; exact H) | (simp only [hji33] at H ⊢; exact H)
    (try rw [hji33] at c32b0)
    have hji33w : (IntKind.i64.wrap ((wrap64 (a1 + 1)) + x7_15)) = ji33 := (i64_w _).trans hji33; by_cases c34 : 0 ≤ (ji33)
    ·rw [if_pos c34] at H; have c34b0 : decide (0 ≤ (ji33)) = true := dt_ c34; clear c34; replace H := bs_ H; obtain ⟨t171, A360, H⟩ := H; try dsimp only at H
     have A36 := am_ A360; clear A360; by_cases c37 : t171 = true
     ·subst c37; rw [if_pos rfl] at H; replace H := bs_ H; obtain ⟨t172, A380, H⟩ := H; try dsimp only at H
      have A38 := am_ A380; clear A380; simp only [Option.some.injEq, Prod.mk.injEq] at H; obtain ⟨rfl, rfl⟩ := H; have p35 : 0 ≤ ((ji33) : Int) := od_ (by first | (with_reducible assumption) | assumption); have q35 : (ji33) < (a0.size : Int) := od_ (by first | (with_reducible assumption) | assumption); have hx35 := bt_at a0 (ji33); replace p35 := eq_true p35; replace q35 := eq_true q35; go_wp2_with (first | (go_at_call 86; (with_reducible refine (token_blank.calls (bt a0 (ji33)) true _ A36.out).mono ?_); rintro e w' ⟨rfl, ⟨nd, rfl⟩⟩) | ((with_reducible refine gate_callee (f := 129) rfl ?_); refine goesL_ (some 90) rfl rfl Tryd.func129 (by kernel_rfl) rfl #[.int .i64 x6_15] rfl goa_ ?_; (with_reducible refine (token_character.calls kj15 x6_15 t172 _ A38.out).mono ?_); rintro e w39 ⟨rfl, hb⟩; refine ⟨_, rfl, ?_⟩; replace HB := am_ (below_step bel_ hb); clear hb))
      go_ret2
      exact ⟨by first | rfl | (simp [errW_none, errW_some] <;> rfl) | (simp only [← hji33]; first | rfl | (simp [errW_none, errW_some] <;> rfl)) | (simp [*, errW_none, errW_some] <;> rfl), bel_⟩
     replace c37 := Bool.eq_false_iff.mpr c37; subst c37; rw [if_neg (show ¬ (false = true) by decide)] at H; replace H := bs_ H; obtain ⟨t173, A400, H⟩ := H; try dsimp only at H
     have A40 := am_ A400; clear A400; simp only [Option.some.injEq, Prod.mk.injEq] at H; obtain ⟨rfl, rfl⟩ := H; have p35 : 0 ≤ ((ji33) : Int) := od_ (by first | (with_reducible assumption) | assumption); have q35 : (ji33) < (a0.size : Int) := od_ (by first | (with_reducible assumption) | assumption); have hx35 := bt_at a0 (ji33); replace p35 := eq_true p35; replace q35 := eq_true q35; go_wp2_with (first | (go_at_call 86; (with_reducible refine (token_blank.calls (bt a0 (ji33)) false _ A36.out).mono ?_); rintro e w' ⟨rfl, ⟨nd, rfl⟩⟩) | ((with_reducible refine gate_callee (f := 129) rfl ?_); refine goesL_ (some 90) rfl rfl Tryd.func129 (by kernel_rfl) rfl #[.int .i64 x6_15] rfl goa_ ?_; (with_reducible refine (token_character.calls kj15 x6_15 t173 _ A40.out).mono ?_); rintro e w41 ⟨rfl, hb⟩; refine ⟨_, rfl, ?_⟩; replace HB := am_ (below_step bel_ hb); clear hb))
     go_ret2
     exact ⟨by first | rfl | (simp [errW_none, errW_some] <;> rfl) | (simp only [← hji33]; first | rfl | (simp [errW_none, errW_some] <;> rfl)) | (simp [*, errW_none, errW_some] <;> rfl), bel_⟩
    rw [if_neg c34] at H; exact absurd H (by simp)
   rw [if_neg c32] at H; have c32b0 : decide ((wrap64 ((wrap64 (a1 + 1)) + x7_15)) < (a0.size : Int)) = false := df_ c32; clear c32; replace H := bs_ H; obtain ⟨t174, A420, H⟩ := H; try dsimp only at H
   have A42 := am_ A420; clear A420; simp only [Option.some.injEq, Prod.mk.injEq] at H; obtain ⟨rfl, rfl⟩ := H; go_wp2_with (first | ((with_reducible refine gate_callee (f := 129) rfl ?_); refine goesL_ (some 90) rfl rfl Tryd.func129 (by kernel_rfl) rfl #[.int .i64 x6_15] rfl goa_ ?_; (with_reducible refine (token_character.calls kj15 x6_15 t174 _ A42.out).mono ?_); rintro e w43 ⟨rfl, hb⟩; refine ⟨_, rfl, ?_⟩; replace HB := am_ (below_step bel_ hb); clear hb))
   go_ret2
   exact ⟨rsl_, bel_⟩


/-! ### token_lexer_quoted_1: function 113 -/
def token_lexer_quoted_1.f (a0 : Int) : Option (Bool) := some (a0 == 10)
set_option maxHeartbeats 8000000 in
theorem token_lexer_quoted_1.calls (a0 : Int) (r : Bool) (w : World) (h : token_lexer_quoted_1.f a0 = some r) :
  Calls Tryd.prog 113 #[.int .u8 a0] w fun e w' => e = .returned (.bool r) ∧ Drawn0 w w' := by
 have H : (some (a0 == 10)) = some r := h; clear h; obtain rfl := si_ H; go_enter Tryd.func113, Tryd.ntmps113
 go_wp2; go_ret
 exact ⟨by first | rfl | (simp; done) | (simp [*]; done), drs_⟩

end Go.Proofs.YtofdhdafabmhmaaDoor.PLf4
end
section
namespace Go.Proofs.YtofdhdafabmhmaaDoor.Giv
open Go.RowKit Go.Proofs.YtofdhdafabmhmaaDoorW.PrintWords Go.Proofs.YtofdhdafabmhmaaDoorW.PrintLast Go.Proofs.YtofdhdafabmhmaaDoorW.PrintMore Go.Proofs.YtofdhdafabmhmaaDoor.PLf4
open Go.Proofs.YtofdhdafabmhmaaDoor.Opn Go.BigFrame
section
variable {P : Program} {ops : Array Oper} {C : World → Prop} {Q : Act → Prop}
/-- A call of a function that is held in a variable, in a quiet walk. -/
theorem qcall_fn {o : Oper} {rest : List Oper} {a : Act} {f : FuncId} {fn : Func} {t : Tmp} {xs : Array Operand} {ts : Array TypeId} (N : Option Tmp) (hd : o.dst = N) (hf : P.funcs[f]? = some fn) (hname : (fn.name == "runtime.NumGoroutine") = false) (hb : fn.body.isSome = true)
    (args : Array Value) (v : Value) (hw : Region.wanted o (yielded ops a.tmps) = true) (hop : o.op = .call { callee := .value (.tmp t), args := xs, argTypes := ts }) (ht : a.tmps[t]? = some (.func (.func f) #[] #[])) (hargs : xs.map a.eval = args)
    (hc : ∀ w, C w → Calls P f args w fun e w' => e = .returned v ∧ C w') (h : wpQuiet P ops C Q rest (a.put N v)) : wpQuiet P ops C Q (o :: rest) a := by
  subst hd; refine wpQuiet_step fun K hK => ?_
  rw [if_pos hw]; refine ⟨v, fun w hC => ?_, hK _ h⟩
  have he := enters_ hf hname hb args w; have hrun : (execOp a.eval o).run P w = .ok (.enter f args) w := by
    unfold execOp; simp [hop, resolve, Deferred.ofValue, invoke, Act.eval, hargs, ht, he]
  unfold Oper.quietAt; rw [hrun]; exact ⟨rfl, hc w hC⟩
/-- A call of a function, in a quiet walk. -/
theorem qcall {o : Oper} {rest : List Oper} {a : Act} {f : FuncId} {fn : Func} {xs : Array Operand} {ts : Array TypeId} (N : Option Tmp) (hd : o.dst = N) (hf : P.funcs[f]? = some fn) (hname : (fn.name == "runtime.NumGoroutine") = false) (hb : fn.body.isSome = true)
    (args : Array Value) (v : Value) (hw : Region.wanted o (yielded ops a.tmps) = true) (hop : o.op = .call { callee := .value (.func f), args := xs, argTypes := ts }) (hargs : xs.map a.eval = args)
    (hc : ∀ w, C w → Calls P f args w fun e w' => e = .returned v ∧ C w') (h : wpQuiet P ops C Q rest (a.put N v)) : wpQuiet P ops C Q (o :: rest) a := by
  subst hd; refine wpQuiet_step fun K hK => ?_
  rw [if_pos hw]; refine ⟨v, fun w hC => ?_, hK _ h⟩
  have he := enters_ hf hname hb args w; have hrun : (execOp a.eval o).run P w = .ok (.enter f args) w := by
    unfold execOp; simp [hop, resolve, Deferred.ofValue, invoke, Act.eval, hargs, he]
  unfold Oper.quietAt; rw [hrun]; exact ⟨rfl, hc w hC⟩
end
/-- The lexer's block: its bytes, and its place. -/
def Lx (W : World) (g : Nat) (s : ByteArray) (i : Nat) : Prop := W.heap[g]? = some (.cells #[.string s, .int .i64 (i : Int)] 111 (0, 0))
theorem Lx.s {W : World} {g : Nat} {s : ByteArray} {i : Nat} (h : Lx W g s i) : W.cell? ⟨g, 0, none⟩ = some (.string s) := (blk_cell h 0).trans rfl
theorem Lx.i {W : World} {g : Nat} {s : ByteArray} {i : Nat} (h : Lx W g s i) : W.cell? ⟨g, 1, none⟩ = some (.int .i64 (i : Int)) := (blk_cell h 1).trans rfl
theorem Lx.below {W W' : World} {g : Nat} {s : ByteArray} {i : Nat} (h : Lx W g s i) (hb : Below W.heap.size W W') : Lx W' g s i := blk_below h hb
theorem Lx.set {W : World} {g : Nat} {s : ByteArray} {i : Nat} (h : Lx W g s i) (j : Nat) : Lx (W.setCell ⟨g, 1, none⟩ (.int .i64 (j : Int))) g s j := blk_put h 1 _ rfl
theorem Lx.drewN {W : World} {g : Nat} {s : ByteArray} {i : Nat} (h : Lx W g s i) (n : Nat) : Lx (W.drewN n) g s i := h
theorem Lx.drew {W : World} {g : Nat} {s : ByteArray} {i : Nat} (h : Lx W g s i) : Lx W.drew g s i := h
def isF (p : Int → Option Bool) (s : ByteArray) (i : Nat) : Option Bool := if i < s.size then p (bt s (i : Nat)) else some false
theorem wrapE (i k : Nat) (h : i + k ≤ 9223372036854775807) : IntKind.i64.wrap ((i : Int) + (k : Int)) = ((i + k : Nat) : Int) := by
  rw [i64_w]; unfold wrap64; omega
set_option maxHeartbeats 8000000 in
set_option maxRecDepth 100000 in
theorem is_minus0 (s : ByteArray) (g i j : Nat) (hs : s.size ≤ 140737488351232) (hw : IntKind.i64.wrap ((i : Int)) = (j : Int)) (r : Bool) (w : World) (h : Lx w g s i) (hf : isF token_lexer_begins_1.f s j = some r) :
    Calls Tryd.prog 90 #[.pointer (some ⟨g, 0, none⟩), .int .i64 0, .func (.func 107) #[] #[]] w fun e w' => e = .returned (.bool r) ∧ Drawn0 w w' := by
  have hu := Tryd.underlying111; have hc0 := h.s; have hc1 := h.i; unfold isF at hf; by_cases hlt : j < s.size
  · rw [if_pos hlt] at hf
    have A1 := am_ hf; have q0 : (0 ≤ (j : Int)) = True := eq_true (by omega); have q1 : ((j : Int) < (s.size : Int)) = True := eq_true (by omega); have q2 : decide ((j : Int) < (s.size : Int)) = true := dt_ (by omega); have q3 : decide (j < s.size) = true := dt_ hlt; have q4 : (j < s.size) = True := eq_true hlt; have hx : ∀ h : j < s.size, ((s[j].toNat : Nat) : Int) = bt s (j : Nat) := fun h => bt_at s (j : Int) (by simpa using h)
    clear hf hlt hs h; go_enter Tryd.func90, Tryd.ntmps90
    go_wp2; refine wp_region_quiet_lit (by kernel_rfl) (by kernel_rfl) ?_
    repeat (go_big_quiet_step (fail))
    refine qcall_fn (some 32) rfl Tryd.func107 (by kernel_rfl) rfl #[.int .u8 (bt s (j : Nat))] (.bool r) (by rfl) rfl (by rfl) goa_ (fun w1 hw1 => ?_) ?_
    · obtain ⟨n1, rfl⟩ := hw1
      refine (token_lexer_begins_1.calls _ _ _ A1.out).mono ?_
      rintro e w2 ⟨rfl, ⟨m1, rfl⟩⟩
      exact ⟨rfl, ⟨n1 + m1, by simp [World.drewN, Nat.add_assoc]⟩⟩
    simp only [Act.put, List.setIfInBounds_toArray, List.set_cons_zero, List.set_cons_succ]; repeat (go_big_quiet_step (fail))
    refine wpQuiet_nil ?_
    intro _ hw'; obtain ⟨nq, hw''⟩ := hw'; subst hw''; go_wp2; go_ret
    exact ⟨rfl, drs_⟩
  rw [if_neg hlt] at hf; obtain rfl := si_ hf; have q1 : ((j : Int) < (s.size : Int)) = False := eq_false (by omega); have q2 : decide ((j : Int) < (s.size : Int)) = false := df_ (by omega); have q3 : decide (j < s.size) = false := df_ hlt; have q4 : (j < s.size) = False := eq_false hlt; clear hf hlt hs h; go_enter Tryd.func90, Tryd.ntmps90
  go_wp2; refine wp_region_quiet_lit (by kernel_rfl) (by kernel_rfl) ?_
  repeat (go_big_quiet_step (fail))
  refine wpQuiet_nil ?_
  intro _ hw'; obtain ⟨nq, hw''⟩ := hw'; subst hw''; go_wp2; go_ret
  exact ⟨rfl, drs_⟩
set_option maxHeartbeats 8000000 in
set_option maxRecDepth 100000 in
theorem is_minus1 (s : ByteArray) (g i j : Nat) (hs : s.size ≤ 140737488351232) (hw : IntKind.i64.wrap ((i : Int) + 1) = (j : Int)) (r : Bool) (w : World) (h : Lx w g s i) (hf : isF token_lexer_begins_1.f s j = some r) :
    Calls Tryd.prog 90 #[.pointer (some ⟨g, 0, none⟩), .int .i64 1, .func (.func 107) #[] #[]] w fun e w' => e = .returned (.bool r) ∧ Drawn0 w w' := by
  have hu := Tryd.underlying111; have hc0 := h.s; have hc1 := h.i; unfold isF at hf; by_cases hlt : j < s.size
  · rw [if_pos hlt] at hf
    have A1 := am_ hf; have q0 : (0 ≤ (j : Int)) = True := eq_true (by omega); have q1 : ((j : Int) < (s.size : Int)) = True := eq_true (by omega); have q2 : decide ((j : Int) < (s.size : Int)) = true := dt_ (by omega); have q3 : decide (j < s.size) = true := dt_ hlt; have q4 : (j < s.size) = True := eq_true hlt; have hx : ∀ h : j < s.size, ((s[j].toNat : Nat) : Int) = bt s (j : Nat) := fun h => bt_at s (j : Int) (by simpa using h)
    clear hf hlt hs h; go_enter Tryd.func90, Tryd.ntmps90
    go_wp2; refine wp_region_quiet_lit (by kernel_rfl) (by kernel_rfl) ?_
    repeat (go_big_quiet_step (fail))
    refine qcall_fn (some 32) rfl Tryd.func107 (by kernel_rfl) rfl #[.int .u8 (bt s (j : Nat))] (.bool r) (by rfl) rfl (by rfl) goa_ (fun w1 hw1 => ?_) ?_
    · obtain ⟨n1, rfl⟩ := hw1
      refine (token_lexer_begins_1.calls _ _ _ A1.out).mono ?_
      rintro e w2 ⟨rfl, ⟨m1, rfl⟩⟩
      exact ⟨rfl, ⟨n1 + m1, by simp [World.drewN, Nat.add_assoc]⟩⟩
    simp only [Act.put, List.setIfInBounds_toArray, List.set_cons_zero, List.set_cons_succ]; repeat (go_big_quiet_step (fail))
    refine wpQuiet_nil ?_
    intro _ hw'; obtain ⟨nq, hw''⟩ := hw'; subst hw''; go_wp2; go_ret
    exact ⟨rfl, drs_⟩
  rw [if_neg hlt] at hf; obtain rfl := si_ hf; have q1 : ((j : Int) < (s.size : Int)) = False := eq_false (by omega); have q2 : decide ((j : Int) < (s.size : Int)) = false := df_ (by omega); have q3 : decide (j < s.size) = false := df_ hlt; have q4 : (j < s.size) = False := eq_false hlt; clear hf hlt hs h; go_enter Tryd.func90, Tryd.ntmps90
  go_wp2; refine wp_region_quiet_lit (by kernel_rfl) (by kernel_rfl) ?_
  repeat (go_big_quiet_step (fail))
  refine wpQuiet_nil ?_
  intro _ hw'; obtain ⟨nq, hw''⟩ := hw'; subst hw''; go_wp2; go_ret
  exact ⟨rfl, drs_⟩
set_option maxHeartbeats 8000000 in
set_option maxRecDepth 100000 in
theorem is_letter0 (s : ByteArray) (g i j : Nat) (hs : s.size ≤ 140737488351232) (hw : IntKind.i64.wrap ((i : Int)) = (j : Int)) (r : Bool) (w : World) (h : Lx w g s i) (hf : isF token_Letter.f s j = some r) :
    Calls Tryd.prog 90 #[.pointer (some ⟨g, 0, none⟩), .int .i64 0, .func (.func 54) #[] #[]] w fun e w' => e = .returned (.bool r) ∧ Drawn0 w w' := by
  have hu := Tryd.underlying111; have hc0 := h.s; have hc1 := h.i; unfold isF at hf; by_cases hlt : j < s.size
  · rw [if_pos hlt] at hf
    have A1 := am_ hf; have q0 : (0 ≤ (j : Int)) = True := eq_true (by omega); have q1 : ((j : Int) < (s.size : Int)) = True := eq_true (by omega); have q2 : decide ((j : Int) < (s.size : Int)) = true := dt_ (by omega); have q3 : decide (j < s.size) = true := dt_ hlt; have q4 : (j < s.size) = True := eq_true hlt; have hx : ∀ h : j < s.size, ((s[j].toNat : Nat) : Int) = bt s (j : Nat) := fun h => bt_at s (j : Int) (by simpa using h)
    clear hf hlt hs h; go_enter Tryd.func90, Tryd.ntmps90
    go_wp2; refine wp_region_quiet_lit (by kernel_rfl) (by kernel_rfl) ?_
    repeat (go_big_quiet_step (fail))
    refine qcall_fn (some 32) rfl Tryd.func54 (by kernel_rfl) rfl #[.int .u8 (bt s (j : Nat))] (.bool r) (by rfl) rfl (by rfl) goa_ (fun w1 hw1 => ?_) ?_
    · obtain ⟨n1, rfl⟩ := hw1
      refine (token_Letter.calls _ _ _ A1.out).mono ?_
      rintro e w2 ⟨rfl, ⟨m1, rfl⟩⟩
      exact ⟨rfl, ⟨n1 + m1, by simp [World.drewN, Nat.add_assoc]⟩⟩
    simp only [Act.put, List.setIfInBounds_toArray, List.set_cons_zero, List.set_cons_succ]; repeat (go_big_quiet_step (fail))
    refine wpQuiet_nil ?_
    intro _ hw'; obtain ⟨nq, hw''⟩ := hw'; subst hw''; go_wp2; go_ret
    exact ⟨rfl, drs_⟩
  rw [if_neg hlt] at hf; obtain rfl := si_ hf; have q1 : ((j : Int) < (s.size : Int)) = False := eq_false (by omega); have q2 : decide ((j : Int) < (s.size : Int)) = false := df_ (by omega); have q3 : decide (j < s.size) = false := df_ hlt; have q4 : (j < s.size) = False := eq_false hlt; clear hf hlt hs h; go_enter Tryd.func90, Tryd.ntmps90
  go_wp2; refine wp_region_quiet_lit (by kernel_rfl) (by kernel_rfl) ?_
  repeat (go_big_quiet_step (fail))
  refine wpQuiet_nil ?_
  intro _ hw'; obtain ⟨nq, hw''⟩ := hw'; subst hw''; go_wp2; go_ret
  exact ⟨rfl, drs_⟩
set_option maxHeartbeats 8000000 in
set_option maxRecDepth 100000 in
theorem is_letter1 (s : ByteArray) (g i j : Nat) (hs : s.size ≤ 140737488351232) (hw : IntKind.i64.wrap ((i : Int) + 1) = (j : Int)) (r : Bool) (w : World) (h : Lx w g s i) (hf : isF token_Letter.f s j = some r) :
    Calls Tryd.prog 90 #[.pointer (some ⟨g, 0, none⟩), .int .i64 1, .func (.func 54) #[] #[]] w fun e w' => e = .returned (.bool r) ∧ Drawn0 w w' := by
  have hu := Tryd.underlying111; have hc0 := h.s; have hc1 := h.i; unfold isF at hf; by_cases hlt : j < s.size
  · rw [if_pos hlt] at hf
    have A1 := am_ hf; have q0 : (0 ≤ (j : Int)) = True := eq_true (by omega); have q1 : ((j : Int) < (s.size : Int)) = True := eq_true (by omega); have q2 : decide ((j : Int) < (s.size : Int)) = true := dt_ (by omega); have q3 : decide (j < s.size) = true := dt_ hlt; have q4 : (j < s.size) = True := eq_true hlt; have hx : ∀ h : j < s.size, ((s[j].toNat : Nat) : Int) = bt s (j : Nat) := fun h => bt_at s (j : Int) (by simpa using h)
    clear hf hlt hs h; go_enter Tryd.func90, Tryd.ntmps90
    go_wp2; refine wp_region_quiet_lit (by kernel_rfl) (by kernel_rfl) ?_
    repeat (go_big_quiet_step (fail))
    refine qcall_fn (some 32) rfl Tryd.func54 (by kernel_rfl) rfl #[.int .u8 (bt s (j : Nat))] (.bool r) (by rfl) rfl (by rfl) goa_ (fun w1 hw1 => ?_) ?_
    · obtain ⟨n1, rfl⟩ := hw1
      refine (token_Letter.calls _ _ _ A1.out).mono ?_
      rintro e w2 ⟨rfl, ⟨m1, rfl⟩⟩
      exact ⟨rfl, ⟨n1 + m1, by simp [World.drewN, Nat.add_assoc]⟩⟩
    simp only [Act.put, List.setIfInBounds_toArray, List.set_cons_zero, List.set_cons_succ]; repeat (go_big_quiet_step (fail))
    refine wpQuiet_nil ?_
    intro _ hw'; obtain ⟨nq, hw''⟩ := hw'; subst hw''; go_wp2; go_ret
    exact ⟨rfl, drs_⟩
  rw [if_neg hlt] at hf; obtain rfl := si_ hf; have q1 : ((j : Int) < (s.size : Int)) = False := eq_false (by omega); have q2 : decide ((j : Int) < (s.size : Int)) = false := df_ (by omega); have q3 : decide (j < s.size) = false := df_ hlt; have q4 : (j < s.size) = False := eq_false hlt; clear hf hlt hs h; go_enter Tryd.func90, Tryd.ntmps90
  go_wp2; refine wp_region_quiet_lit (by kernel_rfl) (by kernel_rfl) ?_
  repeat (go_big_quiet_step (fail))
  refine wpQuiet_nil ?_
  intro _ hw'; obtain ⟨nq, hw''⟩ := hw'; subst hw''; go_wp2; go_ret
  exact ⟨rfl, drs_⟩
set_option maxHeartbeats 8000000 in
set_option maxRecDepth 100000 in
theorem is_inner0 (s : ByteArray) (g i j : Nat) (hs : s.size ≤ 140737488351232) (hw : IntKind.i64.wrap ((i : Int)) = (j : Int)) (r : Bool) (w : World) (h : Lx w g s i) (hf : isF token_lexer_ident_1.f s j = some r) :
    Calls Tryd.prog 90 #[.pointer (some ⟨g, 0, none⟩), .int .i64 0, .func (.func 109) #[] #[]] w fun e w' => e = .returned (.bool r) ∧ Drawn0 w w' := by
  have hu := Tryd.underlying111; have hc0 := h.s; have hc1 := h.i; unfold isF at hf; by_cases hlt : j < s.size
  · rw [if_pos hlt] at hf
    have A1 := am_ hf; have q0 : (0 ≤ (j : Int)) = True := eq_true (by omega); have q1 : ((j : Int) < (s.size : Int)) = True := eq_true (by omega); have q2 : decide ((j : Int) < (s.size : Int)) = true := dt_ (by omega); have q3 : decide (j < s.size) = true := dt_ hlt; have q4 : (j < s.size) = True := eq_true hlt; have hx : ∀ h : j < s.size, ((s[j].toNat : Nat) : Int) = bt s (j : Nat) := fun h => bt_at s (j : Int) (by simpa using h)
    clear hf hlt hs h; go_enter Tryd.func90, Tryd.ntmps90
    go_wp2; refine wp_region_quiet_lit (by kernel_rfl) (by kernel_rfl) ?_
    repeat (go_big_quiet_step (fail))
    refine qcall_fn (some 32) rfl Tryd.func109 (by kernel_rfl) rfl #[.int .u8 (bt s (j : Nat))] (.bool r) (by rfl) rfl (by rfl) goa_ (fun w1 hw1 => ?_) ?_
    · obtain ⟨n1, rfl⟩ := hw1
      refine (token_lexer_ident_1.calls _ _ _ A1.out).mono ?_
      rintro e w2 ⟨rfl, ⟨m1, rfl⟩⟩
      exact ⟨rfl, ⟨n1 + m1, by simp [World.drewN, Nat.add_assoc]⟩⟩
    simp only [Act.put, List.setIfInBounds_toArray, List.set_cons_zero, List.set_cons_succ]; repeat (go_big_quiet_step (fail))
    refine wpQuiet_nil ?_
    intro _ hw'; obtain ⟨nq, hw''⟩ := hw'; subst hw''; go_wp2; go_ret
    exact ⟨rfl, drs_⟩
  rw [if_neg hlt] at hf; obtain rfl := si_ hf; have q1 : ((j : Int) < (s.size : Int)) = False := eq_false (by omega); have q2 : decide ((j : Int) < (s.size : Int)) = false := df_ (by omega); have q3 : decide (j < s.size) = false := df_ hlt; have q4 : (j < s.size) = False := eq_false hlt; clear hf hlt hs h; go_enter Tryd.func90, Tryd.ntmps90
  go_wp2; refine wp_region_quiet_lit (by kernel_rfl) (by kernel_rfl) ?_
  repeat (go_big_quiet_step (fail))
  refine wpQuiet_nil ?_
  intro _ hw'; obtain ⟨nq, hw''⟩ := hw'; subst hw''; go_wp2; go_ret
  exact ⟨rfl, drs_⟩
set_option maxHeartbeats 8000000 in
set_option maxRecDepth 100000 in
theorem is_pct0 (s : ByteArray) (g i j : Nat) (hs : s.size ≤ 140737488351232) (hw : IntKind.i64.wrap ((i : Int)) = (j : Int)) (r : Bool) (w : World) (h : Lx w g s i) (hf : isF token_lexer_word_1.f s j = some r) :
    Calls Tryd.prog 90 #[.pointer (some ⟨g, 0, none⟩), .int .i64 0, .func (.func 91) #[] #[]] w fun e w' => e = .returned (.bool r) ∧ Drawn0 w w' := by
  have hu := Tryd.underlying111; have hc0 := h.s; have hc1 := h.i; unfold isF at hf; by_cases hlt : j < s.size
  · rw [if_pos hlt] at hf
    have A1 := am_ hf; have q0 : (0 ≤ (j : Int)) = True := eq_true (by omega); have q1 : ((j : Int) < (s.size : Int)) = True := eq_true (by omega); have q2 : decide ((j : Int) < (s.size : Int)) = true := dt_ (by omega); have q3 : decide (j < s.size) = true := dt_ hlt; have q4 : (j < s.size) = True := eq_true hlt; have hx : ∀ h : j < s.size, ((s[j].toNat : Nat) : Int) = bt s (j : Nat) := fun h => bt_at s (j : Int) (by simpa using h)
    clear hf hlt hs h; go_enter Tryd.func90, Tryd.ntmps90
    go_wp2; refine wp_region_quiet_lit (by kernel_rfl) (by kernel_rfl) ?_
    repeat (go_big_quiet_step (fail))
    refine qcall_fn (some 32) rfl Tryd.func91 (by kernel_rfl) rfl #[.int .u8 (bt s (j : Nat))] (.bool r) (by rfl) rfl (by rfl) goa_ (fun w1 hw1 => ?_) ?_
    · obtain ⟨n1, rfl⟩ := hw1
      refine (token_lexer_word_1.calls _ _ _ A1.out).mono ?_
      rintro e w2 ⟨rfl, ⟨m1, rfl⟩⟩
      exact ⟨rfl, ⟨n1 + m1, by simp [World.drewN, Nat.add_assoc]⟩⟩
    simp only [Act.put, List.setIfInBounds_toArray, List.set_cons_zero, List.set_cons_succ]; repeat (go_big_quiet_step (fail))
    refine wpQuiet_nil ?_
    intro _ hw'; obtain ⟨nq, hw''⟩ := hw'; subst hw''; go_wp2; go_ret
    exact ⟨rfl, drs_⟩
  rw [if_neg hlt] at hf; obtain rfl := si_ hf; have q1 : ((j : Int) < (s.size : Int)) = False := eq_false (by omega); have q2 : decide ((j : Int) < (s.size : Int)) = false := df_ (by omega); have q3 : decide (j < s.size) = false := df_ hlt; have q4 : (j < s.size) = False := eq_false hlt; clear hf hlt hs h; go_enter Tryd.func90, Tryd.ntmps90
  go_wp2; refine wp_region_quiet_lit (by kernel_rfl) (by kernel_rfl) ?_
  repeat (go_big_quiet_step (fail))
  refine wpQuiet_nil ?_
  intro _ hw'; obtain ⟨nq, hw''⟩ := hw'; subst hw''; go_wp2; go_ret
  exact ⟨rfl, drs_⟩
set_option maxHeartbeats 8000000 in
set_option maxRecDepth 100000 in
theorem is_paren0 (s : ByteArray) (g i j : Nat) (hs : s.size ≤ 140737488351232) (hw : IntKind.i64.wrap ((i : Int)) = (j : Int)) (r : Bool) (w : World) (h : Lx w g s i) (hf : isF token_lexer_word_2.f s j = some r) :
    Calls Tryd.prog 90 #[.pointer (some ⟨g, 0, none⟩), .int .i64 0, .func (.func 94) #[] #[]] w fun e w' => e = .returned (.bool r) ∧ Drawn0 w w' := by
  have hu := Tryd.underlying111; have hc0 := h.s; have hc1 := h.i; unfold isF at hf; by_cases hlt : j < s.size
  · rw [if_pos hlt] at hf
    have A1 := am_ hf; have q0 : (0 ≤ (j : Int)) = True := eq_true (by omega); have q1 : ((j : Int) < (s.size : Int)) = True := eq_true (by omega); have q2 : decide ((j : Int) < (s.size : Int)) = true := dt_ (by omega); have q3 : decide (j < s.size) = true := dt_ hlt; have q4 : (j < s.size) = True := eq_true hlt; have hx : ∀ h : j < s.size, ((s[j].toNat : Nat) : Int) = bt s (j : Nat) := fun h => bt_at s (j : Int) (by simpa using h)
    clear hf hlt hs h; go_enter Tryd.func90, Tryd.ntmps90
    go_wp2; refine wp_region_quiet_lit (by kernel_rfl) (by kernel_rfl) ?_
    repeat (go_big_quiet_step (fail))
    refine qcall_fn (some 32) rfl Tryd.func94 (by kernel_rfl) rfl #[.int .u8 (bt s (j : Nat))] (.bool r) (by rfl) rfl (by rfl) goa_ (fun w1 hw1 => ?_) ?_
    · obtain ⟨n1, rfl⟩ := hw1
      refine (token_lexer_word_2.calls _ _ _ A1.out).mono ?_
      rintro e w2 ⟨rfl, ⟨m1, rfl⟩⟩
      exact ⟨rfl, ⟨n1 + m1, by simp [World.drewN, Nat.add_assoc]⟩⟩
    simp only [Act.put, List.setIfInBounds_toArray, List.set_cons_zero, List.set_cons_succ]; repeat (go_big_quiet_step (fail))
    refine wpQuiet_nil ?_
    intro _ hw'; obtain ⟨nq, hw''⟩ := hw'; subst hw''; go_wp2; go_ret
    exact ⟨rfl, drs_⟩
  rw [if_neg hlt] at hf; obtain rfl := si_ hf; have q1 : ((j : Int) < (s.size : Int)) = False := eq_false (by omega); have q2 : decide ((j : Int) < (s.size : Int)) = false := df_ (by omega); have q3 : decide (j < s.size) = false := df_ hlt; have q4 : (j < s.size) = False := eq_false hlt; clear hf hlt hs h; go_enter Tryd.func90, Tryd.ntmps90
  go_wp2; refine wp_region_quiet_lit (by kernel_rfl) (by kernel_rfl) ?_
  repeat (go_big_quiet_step (fail))
  refine wpQuiet_nil ?_
  intro _ hw'; obtain ⟨nq, hw''⟩ := hw'; subst hw''; go_wp2; go_ret
  exact ⟨rfl, drs_⟩
end Go.Proofs.YtofdhdafabmhmaaDoor.Giv
end
section
namespace Go.Proofs.YtofdhdafabmhmaaDoor.Giv
open Go.RowKit Go.Proofs.YtofdhdafabmhmaaDoorW.PrintWords Go.Proofs.YtofdhdafabmhmaaDoorW.PrintLast Go.Proofs.YtofdhdafabmhmaaDoorW.PrintMore Go.Proofs.YtofdhdafabmhmaaDoor.PLf4
open Go.Proofs.YtofdhdafabmhmaaDoor.Opn Go.BigFrame
/-- Does an escape stand at a place (that is not of a byte 0)? -/
def escF (k : Nat) (s : ByteArray) (j : Nat) : Option Bool := (token_Hex.f k s (j : Int)).bind fun t => if t.2 > 0 then (if j + 1 < s.size then some (bt s ((j + 1 : Nat) : Int) != 0) else none) else some false
theorem escF.mono : ∀ s j k, LeO (escF k s j) (escF (k + 1) s j) := by
  intro s j k; unfold escF; repeat' first
      | (with_reducible exact token_Hex.mono _ _ _)
      | (with_reducible first | exact LeO.refl _ | exact LeO.none _ | refine LeO.ite ?_ ?_ | refine LeO.bind ?_ (fun _ => ?_))
theorem below_drewN0 {B : Nat} {a w : World} (h : Below B a w) (n : Nat) : Below B a (w.drewN n) := h.trans ⟨rfl, rfl, rfl, Nat.le_refl _, fun _ _ => rfl⟩
def lexer_escape.T1 : Bool × List (List Nat × List Nat) := (true, [([], []), ([0], [0]), ([1], [1]), ([2], [2]), ([], []), ([4], [4]), ([5], [5]), ([6], [6]), ([], []), ([7, 8], [7, 8]), ([3, 9], [3, 9]), ([10], [10]), ([11], [11]), ([11], [11]), ([12, 10, 0, 1, 2, 3, 4, 5, 6, 7, 8, 9, 10, 11, 12], [12]), ([13, 14, 0, 1, 2, 3, 4, 5, 6, 7, 8, 9, 10, 11, 12, 13, 14], [13])])
def lexer_escape.B1 : List Nat := [0, 1, 3, 7, 0, 16, 48, 112, 0, 496, 1023, 2047, 4095, 4095, 8191, 32767]
theorem lexer_escape.tab1 : rtab .any (opsOf Tryd.f108 1) = lexer_escape.T1 := by kernel_rfl
theorem lexer_escape.bits1 : waitsOk lexer_escape.T1.2 lexer_escape.B1 = true := by kernel_rfl
set_option maxHeartbeats 8000000 in
set_option maxRecDepth 100000 in
theorem escape_0 (k : Nat) (s : ByteArray) (g i j : Nat) (hs : s.size ≤ 140737488351232) (hj : j ≤ 140737488351300) (hw : IntKind.i64.wrap ((i : Int)) = (j : Int)) (r : Bool) (w : World) (h : Lx w g s i) (hf : escF k s j = some r) :
    Calls Tryd.prog 108 #[.pointer (some ⟨g, 0, none⟩), .int .i64 0] w fun e w' => e = .returned (.bool r) ∧ Below w.heap.size w w' := by
  have hu := Tryd.underlying111; unfold escF at hf; obtain ⟨⟨x, n⟩, hx0, hf⟩ := bs_ hf; have A1 := am_ hx0; have H1 := am_ h.drew; have HB1 := am_ (below_drew1 (Below.refl w.heap.size w)); have hc0 := h.s; have hc1 := h.i; clear hx0 h; go_enter Tryd.func108, Tryd.ntmps108
  go_wp2; refine start_ (n := 16) (S := (fun w' => w'.cell? ⟨g, 0, none⟩ = some (.string s) ∧ w'.cell? ⟨g, 1, none⟩ = some (.int .i64 (i : Int)))) (ds := []) #[false, false, false, false, false, false, false, false, false, false, false, false, false, false, false, false] (by kernel_rfl) rfl rfl ⟨H1.out.s, H1.out.i⟩ (fun hHeld => ?_)
  refine with_tabW lexer_escape.tab1 lexer_escape.bits1 (fun HT_ HW_ => ?_)
  generalize w.drew = w4 at H1 HB1 hHeld ⊢
  refine pus_ 0 (some 8) #[true, false, false, false, false, false, false, false, false, false, false, false, false, false, false, false] rfl rfl HT_.out ?_
  refine pus_ 1 (some 9) #[true, true, false, false, false, false, false, false, false, false, false, false, false, false, false, false] rfl rfl HT_.out ?_
  refine pus_ 2 (some 10) #[true, true, true, false, false, false, false, false, false, false, false, false, false, false, false, false] rfl rfl HT_.out ?_
  refine tas_ 3 (some 11) #[true, true, true, true, false, false, false, false, false, false, false, false, false, false, false, false] rfl rfl HT_.out HW_.out hHeld ?_
  refine pus_ 4 (some 12) #[true, true, true, true, true, false, false, false, false, false, false, false, false, false, false, false] rfl rfl HT_.out ?_
  refine pus_ 5 (some 13) #[true, true, true, true, true, true, false, false, false, false, false, false, false, false, false, false] rfl rfl HT_.out ?_
  refine pus_ 6 (some 14) #[true, true, true, true, true, true, true, false, false, false, false, false, false, false, false, false] rfl rfl HT_.out ?_
  refine tas_ 7 (some 15) #[true, true, true, true, true, true, true, true, false, false, false, false, false, false, false, false] rfl rfl HT_.out HW_.out hHeld ?_
  refine pus_ 8 (some 16) #[true, true, true, true, true, true, true, true, true, false, false, false, false, false, false, false] rfl rfl HT_.out ?_
  refine pus_ 9 (some 17) #[true, true, true, true, true, true, true, true, true, true, false, false, false, false, false, false] rfl rfl HT_.out ?_
  refine one_ (i := 10) (N := (some 18)) #[true, true, true, true, true, true, true, true, true, true, true, false, false, false, false, false] rfl rfl (one_of HT_.out (by kernel_rfl)) (by decide) (fun K hK => ?_)
  refine goes_ Tryd.func112 (by kernel_rfl) rfl #[.string s, .int .i64 (j : Int)] (by rfl) rfl rfl goa_ ?_
  with_reducible refine (token_Hex.calls k s (j : Int) x n _ A1.out).mono ?_
  rintro e w5 ⟨rfl, hb⟩
  refine ⟨_, rfl, ?_⟩
  have H2 := am_ (H1.out.below hb); have HB2 := am_ (below_step HB1.out hb); clear hb; refine hK.out _ _ ⟨H2.out.s, H2.out.i⟩ (fun hHeld => ?_)
  clear hK K; refine norm_ (a' := ?_) ?_ ?_
  rotate_left
  ·show Act.put _ (some 18) _ = _
   simp only [Act.put, List.setIfInBounds_toArray, List.set_cons_zero, List.set_cons_succ, i64_w, i32_w]; rfl
  refine pus_ 11 (some 7) #[true, true, true, true, true, true, true, true, true, true, true, true, false, false, false, false] rfl rfl HT_.out ?_
  refine pus_ 12 (some 19) #[true, true, true, true, true, true, true, true, true, true, true, true, true, false, false, false] rfl rfl HT_.out ?_
  refine pus_ 13 (some 20) #[true, true, true, true, true, true, true, true, true, true, true, true, true, true, false, false] rfl rfl HT_.out ?_
  refine pus_ 14 (some 5) #[true, true, true, true, true, true, true, true, true, true, true, true, true, true, true, false] rfl rfl HT_.out ?_
  refine pus_ 15 (some 6) #[true, true, true, true, true, true, true, true, true, true, true, true, true, true, true, true] rfl rfl HT_.out ?_
  refine done_ (done_of HT_.out (by kernel_rfl)) ?_
  have hd0 := H2.out.s; have hd1 := H2.out.i; have hw2 : IntKind.i64.wrap ((j : Int) + 1) = ((j + 1 : Nat) : Int) := wrapE j 1 (by omega); obtain ⟨m, hm⟩ : ∃ m, j + 1 = m := ⟨_, rfl⟩
  rw [hm] at hw2 hf; try dsimp only at hf
  by_cases hn : n > 0
  · rw [if_pos hn] at hf
    have p1 : decide (n > 0) = true := dt_ hn; have p2 : decide (0 < n) = true := dt_ hn; by_cases hlt : m < s.size
    · rw [if_pos hlt] at hf
      obtain rfl := si_ hf; have q0 : (0 ≤ (m : Int)) = True := eq_true (by omega); have q1 : ((m : Int) < (s.size : Int)) = True := eq_true (by omega); have q2 : decide ((m : Int) < (s.size : Int)) = true := dt_ (by omega); have q3 : decide (m < s.size) = true := dt_ hlt; have q4 : (m < s.size) = True := eq_true hlt; have hx : ∀ h : m < s.size, ((s[m].toNat : Nat) : Int) = bt s (m : Nat) := fun h => bt_at s (m : Int) (by simpa using h)
      clear hf hlt hs hj hn hm hc0 hc1 hHeld HT_ HW_; go_wp2; refine wp_region_quiet_lit (by kernel_rfl) (by kernel_rfl) ?_
      repeat (go_big_quiet_step (fail))
      refine wpQuiet_nil ?_
      intro _ hw'; obtain ⟨nq, hw''⟩ := hw'; subst hw''; go_wp2; go_ret
      exact ⟨rfl, below_drewN0 HB2.out _⟩
    rw [if_neg hlt] at hf; cases hf
  rw [if_neg hn] at hf; obtain rfl := si_ hf; have p1 : decide (n > 0) = false := df_ hn; have p2 : decide (0 < n) = false := df_ hn; clear hf hs hj hn hm hc0 hc1 hHeld HT_ HW_; go_wp2; refine wp_region_quiet_lit (by kernel_rfl) (by kernel_rfl) ?_
  repeat (go_big_quiet_step (fail))
  refine wpQuiet_nil ?_
  intro _ hw'; obtain ⟨nq, hw''⟩ := hw'; subst hw''; go_wp2; go_ret
  exact ⟨rfl, below_drewN0 HB2.out _⟩
set_option maxHeartbeats 8000000 in
set_option maxRecDepth 100000 in
theorem escape_1 (k : Nat) (s : ByteArray) (g i j : Nat) (hs : s.size ≤ 140737488351232) (hj : j ≤ 140737488351300) (hw : IntKind.i64.wrap ((i : Int) + 1) = (j : Int)) (r : Bool) (w : World) (h : Lx w g s i) (hf : escF k s j = some r) :
    Calls Tryd.prog 108 #[.pointer (some ⟨g, 0, none⟩), .int .i64 1] w fun e w' => e = .returned (.bool r) ∧ Below w.heap.size w w' := by
  have hu := Tryd.underlying111; unfold escF at hf; obtain ⟨⟨x, n⟩, hx0, hf⟩ := bs_ hf; have A1 := am_ hx0; have H1 := am_ h.drew; have HB1 := am_ (below_drew1 (Below.refl w.heap.size w)); have hc0 := h.s; have hc1 := h.i; clear hx0 h; go_enter Tryd.func108, Tryd.ntmps108
  go_wp2; refine start_ (n := 16) (S := (fun w' => w'.cell? ⟨g, 0, none⟩ = some (.string s) ∧ w'.cell? ⟨g, 1, none⟩ = some (.int .i64 (i : Int)))) (ds := []) #[false, false, false, false, false, false, false, false, false, false, false, false, false, false, false, false] (by kernel_rfl) rfl rfl ⟨H1.out.s, H1.out.i⟩ (fun hHeld => ?_)
  refine with_tabW lexer_escape.tab1 lexer_escape.bits1 (fun HT_ HW_ => ?_)
  generalize w.drew = w4 at H1 HB1 hHeld ⊢
  refine pus_ 0 (some 8) #[true, false, false, false, false, false, false, false, false, false, false, false, false, false, false, false] rfl rfl HT_.out ?_
  refine pus_ 1 (some 9) #[true, true, false, false, false, false, false, false, false, false, false, false, false, false, false, false] rfl rfl HT_.out ?_
  refine pus_ 2 (some 10) #[true, true, true, false, false, false, false, false, false, false, false, false, false, false, false, false] rfl rfl HT_.out ?_
  refine tas_ 3 (some 11) #[true, true, true, true, false, false, false, false, false, false, false, false, false, false, false, false] rfl rfl HT_.out HW_.out hHeld ?_
  refine pus_ 4 (some 12) #[true, true, true, true, true, false, false, false, false, false, false, false, false, false, false, false] rfl rfl HT_.out ?_
  refine pus_ 5 (some 13) #[true, true, true, true, true, true, false, false, false, false, false, false, false, false, false, false] rfl rfl HT_.out ?_
  refine pus_ 6 (some 14) #[true, true, true, true, true, true, true, false, false, false, false, false, false, false, false, false] rfl rfl HT_.out ?_
  refine tas_ 7 (some 15) #[true, true, true, true, true, true, true, true, false, false, false, false, false, false, false, false] rfl rfl HT_.out HW_.out hHeld ?_
  refine pus_ 8 (some 16) #[true, true, true, true, true, true, true, true, true, false, false, false, false, false, false, false] rfl rfl HT_.out ?_
  refine pus_ 9 (some 17) #[true, true, true, true, true, true, true, true, true, true, false, false, false, false, false, false] rfl rfl HT_.out ?_
  refine one_ (i := 10) (N := (some 18)) #[true, true, true, true, true, true, true, true, true, true, true, false, false, false, false, false] rfl rfl (one_of HT_.out (by kernel_rfl)) (by decide) (fun K hK => ?_)
  refine goes_ Tryd.func112 (by kernel_rfl) rfl #[.string s, .int .i64 (j : Int)] (by rfl) rfl rfl goa_ ?_
  with_reducible refine (token_Hex.calls k s (j : Int) x n _ A1.out).mono ?_
  rintro e w5 ⟨rfl, hb⟩
  refine ⟨_, rfl, ?_⟩
  have H2 := am_ (H1.out.below hb); have HB2 := am_ (below_step HB1.out hb); clear hb; refine hK.out _ _ ⟨H2.out.s, H2.out.i⟩ (fun hHeld => ?_)
  clear hK K; refine norm_ (a' := ?_) ?_ ?_
  rotate_left
  ·show Act.put _ (some 18) _ = _
   simp only [Act.put, List.setIfInBounds_toArray, List.set_cons_zero, List.set_cons_succ, i64_w, i32_w]; rfl
  refine pus_ 11 (some 7) #[true, true, true, true, true, true, true, true, true, true, true, true, false, false, false, false] rfl rfl HT_.out ?_
  refine pus_ 12 (some 19) #[true, true, true, true, true, true, true, true, true, true, true, true, true, false, false, false] rfl rfl HT_.out ?_
  refine pus_ 13 (some 20) #[true, true, true, true, true, true, true, true, true, true, true, true, true, true, false, false] rfl rfl HT_.out ?_
  refine pus_ 14 (some 5) #[true, true, true, true, true, true, true, true, true, true, true, true, true, true, true, false] rfl rfl HT_.out ?_
  refine pus_ 15 (some 6) #[true, true, true, true, true, true, true, true, true, true, true, true, true, true, true, true] rfl rfl HT_.out ?_
  refine done_ (done_of HT_.out (by kernel_rfl)) ?_
  have hd0 := H2.out.s; have hd1 := H2.out.i; have hw2 : IntKind.i64.wrap ((j : Int) + 1) = ((j + 1 : Nat) : Int) := wrapE j 1 (by omega); obtain ⟨m, hm⟩ : ∃ m, j + 1 = m := ⟨_, rfl⟩
  rw [hm] at hw2 hf; try dsimp only at hf
  by_cases hn : n > 0
  · rw [if_pos hn] at hf
    have p1 : decide (n > 0) = true := dt_ hn; have p2 : decide (0 < n) = true := dt_ hn; by_cases hlt : m < s.size
    · rw [if_pos hlt] at hf
      obtain rfl := si_ hf; have q0 : (0 ≤ (m : Int)) = True := eq_true (by omega); have q1 : ((m : Int) < (s.size : Int)) = True := eq_true (by omega); have q2 : decide ((m : Int) < (s.size : Int)) = true := dt_ (by omega); have q3 : decide (m < s.size) = true := dt_ hlt; have q4 : (m < s.size) = True := eq_true hlt; have hx : ∀ h : m < s.size, ((s[m].toNat : Nat) : Int) = bt s (m : Nat) := fun h => bt_at s (m : Int) (by simpa using h)
      clear hf hlt hs hj hn hm hc0 hc1 hHeld HT_ HW_; go_wp2; refine wp_region_quiet_lit (by kernel_rfl) (by kernel_rfl) ?_
      repeat (go_big_quiet_step (fail))
      refine wpQuiet_nil ?_
      intro _ hw'; obtain ⟨nq, hw''⟩ := hw'; subst hw''; go_wp2; go_ret
      exact ⟨rfl, below_drewN0 HB2.out _⟩
    rw [if_neg hlt] at hf; cases hf
  rw [if_neg hn] at hf; obtain rfl := si_ hf; have p1 : decide (n > 0) = false := df_ hn; have p2 : decide (0 < n) = false := df_ hn; clear hf hs hj hn hm hc0 hc1 hHeld HT_ HW_; go_wp2; refine wp_region_quiet_lit (by kernel_rfl) (by kernel_rfl) ?_
  repeat (go_big_quiet_step (fail))
  refine wpQuiet_nil ?_
  intro _ hw'; obtain ⟨nq, hw''⟩ := hw'; subst hw''; go_wp2; go_ret
  exact ⟨rfl, below_drewN0 HB2.out _⟩
end Go.Proofs.YtofdhdafabmhmaaDoor.Giv
end
section
namespace Go.Proofs.YtofdhdafabmhmaaDoor.Giv
open Go.RowKit Go.Proofs.YtofdhdafabmhmaaDoorW.PrintWords Go.Proofs.YtofdhdafabmhmaaDoorW.PrintLast Go.Proofs.YtofdhdafabmhmaaDoorW.PrintMore Go.Proofs.YtofdhdafabmhmaaDoor.PLf4
open Go.Proofs.YtofdhdafabmhmaaDoor.Opn Go.BigFrame
/-- Does an identifier begin at a place? -/
def begF (k : Nat) (s : ByteArray) (i : Nat) : Option Bool := (isF token_lexer_begins_1.f s i).bind fun m => if m = true then ((isF token_lexer_begins_1.f s (i + 1)).bind fun a => if a = true then some true else ((isF token_Letter.f s (i + 1)).bind fun b => if b = true then some true else escF k s (i + 1)))
    else ((isF token_Letter.f s i).bind fun a => if a = true then some true else escF k s i)
theorem begF.mono : ∀ s i k, LeO (begF k s i) (begF (k + 1) s i) := by
  intro s i k; unfold begF; repeat' first
      | (with_reducible exact escF.mono _ _ _)
      | (with_reducible first | exact LeO.refl _ | exact LeO.none _ | refine LeO.ite ?_ ?_ | refine LeO.bind ?_ (fun _ => ?_))
set_option maxHeartbeats 8000000 in
set_option maxRecDepth 100000 in
theorem begins_calls (k : Nat) (s : ByteArray) (g i : Nat) (hs : s.size ≤ 140737488351232) (hi : i ≤ s.size) (r : Bool) (w : World) (h : Lx w g s i) (hf : begF k s i = some r) :
    Calls Tryd.prog 92 #[.pointer (some ⟨g, 0, none⟩)] w fun e w' => e = .returned (.bool r) ∧ Below w.heap.size w w' := by
  have HS := am_ hs; have HX := am_ h; have HB := am_ (Below.refl w.heap.size w); have HJ0 := am_ (show i ≤ 140737488351300 by omega); have HJ1 := am_ (show i + 1 ≤ 140737488351300 by omega); have HW0 := am_ (show IntKind.i64.wrap (i : Int) = (i : Int) from wrapE i 0 (by omega)); have HW1 := am_ (show IntKind.i64.wrap ((i : Int) + 1) = ((i + 1 : Nat) : Int) from wrapE i 1 (by omega)); unfold begF at hf; obtain ⟨m, hm, hf⟩ := bs_ hf; have A1 := am_ hm; clear hm h hs hi; cases m
  · rw [if_neg (by decide)] at hf
    obtain ⟨a, ha, hf⟩ := bs_ hf; have A2 := am_ ha; clear ha; cases a
    · rw [if_neg (by decide)] at hf
      have A3 := am_ hf; clear hf; go_enter Tryd.func92, Tryd.ntmps92
      go_wp2_with (first | (go_at_call 90; with_reducible refine (is_minus0 s g i i HS.out HW0.out _ _ ?lx A1.out).mono ?_; (case lx => exact (by repeat (first | (with_reducible first | exact HX.out | apply Lx.drewN | apply Lx.drew)))); rintro e wi ⟨rfl, ⟨ni, rfl⟩⟩) | (go_at_call 90; with_reducible refine (is_letter0 s g i i HS.out HW0.out _ _ ?lx A2.out).mono ?_; (case lx => exact (by repeat (first | (with_reducible first | exact HX.out | apply Lx.drewN | apply Lx.drew)))); rintro e wi ⟨rfl, ⟨ni, rfl⟩⟩) | (go_at_call 108; with_reducible refine (escape_0 k s g i i HS.out HJ0.out HW0.out _ _ ?lx A3.out).mono ?_; (case lx => exact (by repeat (first | (with_reducible first | exact HX.out | apply Lx.drewN | apply Lx.drew)))); rintro e wi ⟨rfl, hb⟩; have HX2 := am_ (Lx.below (by repeat (first | (with_reducible first | exact HX.out | apply Lx.drewN | apply Lx.drew))) hb); have HB2 := am_ (below_step (by repeat (first | (with_reducible first | exact HB.out | apply below_drewN0 | apply below_drew1))) hb); clear hb HX HB; have HX := HX2; have HB := HB2; clear HX2 HB2))
      go_ret
      exact ⟨rfl, (by repeat (first | (with_reducible first | exact HB.out | apply below_drewN0 | apply below_drew1)))⟩
    rw [if_pos rfl] at hf; obtain rfl := si_ hf; clear hf; go_enter Tryd.func92, Tryd.ntmps92
    go_wp2_with (first | (go_at_call 90; with_reducible refine (is_minus0 s g i i HS.out HW0.out _ _ ?lx A1.out).mono ?_; (case lx => exact (by repeat (first | (with_reducible first | exact HX.out | apply Lx.drewN | apply Lx.drew)))); rintro e wi ⟨rfl, ⟨ni, rfl⟩⟩) | (go_at_call 90; with_reducible refine (is_letter0 s g i i HS.out HW0.out _ _ ?lx A2.out).mono ?_; (case lx => exact (by repeat (first | (with_reducible first | exact HX.out | apply Lx.drewN | apply Lx.drew)))); rintro e wi ⟨rfl, ⟨ni, rfl⟩⟩))
    go_ret
    exact ⟨rfl, (by repeat (first | (with_reducible first | exact HB.out | apply below_drewN0 | apply below_drew1)))⟩
  rw [if_pos rfl] at hf; obtain ⟨a, ha, hf⟩ := bs_ hf; have A2 := am_ ha; clear ha; cases a
  · rw [if_neg (by decide)] at hf
    obtain ⟨b, hb, hf⟩ := bs_ hf; have A3 := am_ hb; clear hb; cases b
    · rw [if_neg (by decide)] at hf
      have A4 := am_ hf; clear hf; go_enter Tryd.func92, Tryd.ntmps92
      go_wp2_with (first | (go_at_call 90; with_reducible refine (is_minus0 s g i i HS.out HW0.out _ _ ?lx A1.out).mono ?_; (case lx => exact (by repeat (first | (with_reducible first | exact HX.out | apply Lx.drewN | apply Lx.drew)))); rintro e wi ⟨rfl, ⟨ni, rfl⟩⟩) | (go_at_call 90; with_reducible refine (is_minus1 s g i (i + 1) HS.out HW1.out _ _ ?lx A2.out).mono ?_; (case lx => exact (by repeat (first | (with_reducible first | exact HX.out | apply Lx.drewN | apply Lx.drew)))); rintro e wi ⟨rfl, ⟨ni, rfl⟩⟩) | (go_at_call 90; with_reducible refine (is_letter1 s g i (i + 1) HS.out HW1.out _ _ ?lx A3.out).mono ?_; (case lx => exact (by repeat (first | (with_reducible first | exact HX.out | apply Lx.drewN | apply Lx.drew)))); rintro e wi ⟨rfl, ⟨ni, rfl⟩⟩) | (go_at_call 108; with_reducible refine (escape_1 k s g i (i + 1) HS.out HJ1.out HW1.out _ _ ?lx A4.out).mono ?_; (case lx => exact (by repeat (first | (with_reducible first | exact HX.out | apply Lx.drewN | apply Lx.drew)))); rintro e wi ⟨rfl, hb⟩; have HX2 := am_ (Lx.below (by repeat (first | (with_reducible first | exact HX.out | apply Lx.drewN | apply Lx.drew))) hb); have HB2 := am_ (below_step (by repeat (first | (with_reducible first | exact HB.out | apply below_drewN0 | apply below_drew1))) hb); clear hb HX HB; have HX := HX2; have HB := HB2; clear HX2 HB2))
      go_ret
      exact ⟨rfl, (by repeat (first | (with_reducible first | exact HB.out | apply below_drewN0 | apply below_drew1)))⟩
    rw [if_pos rfl] at hf; obtain rfl := si_ hf; clear hf; go_enter Tryd.func92, Tryd.ntmps92
    go_wp2_with (first | (go_at_call 90; with_reducible refine (is_minus0 s g i i HS.out HW0.out _ _ ?lx A1.out).mono ?_; (case lx => exact (by repeat (first | (with_reducible first | exact HX.out | apply Lx.drewN | apply Lx.drew)))); rintro e wi ⟨rfl, ⟨ni, rfl⟩⟩) | (go_at_call 90; with_reducible refine (is_minus1 s g i (i + 1) HS.out HW1.out _ _ ?lx A2.out).mono ?_; (case lx => exact (by repeat (first | (with_reducible first | exact HX.out | apply Lx.drewN | apply Lx.drew)))); rintro e wi ⟨rfl, ⟨ni, rfl⟩⟩) | (go_at_call 90; with_reducible refine (is_letter1 s g i (i + 1) HS.out HW1.out _ _ ?lx A3.out).mono ?_; (case lx => exact (by repeat (first | (with_reducible first | exact HX.out | apply Lx.drewN | apply Lx.drew)))); rintro e wi ⟨rfl, ⟨ni, rfl⟩⟩))
    go_ret
    exact ⟨rfl, (by repeat (first | (with_reducible first | exact HB.out | apply below_drewN0 | apply below_drew1)))⟩
  rw [if_pos rfl] at hf; obtain rfl := si_ hf; clear hf; go_enter Tryd.func92, Tryd.ntmps92
  go_wp2_with (first | (go_at_call 90; with_reducible refine (is_minus0 s g i i HS.out HW0.out _ _ ?lx A1.out).mono ?_; (case lx => exact (by repeat (first | (with_reducible first | exact HX.out | apply Lx.drewN | apply Lx.drew)))); rintro e wi ⟨rfl, ⟨ni, rfl⟩⟩) | (go_at_call 90; with_reducible refine (is_minus1 s g i (i + 1) HS.out HW1.out _ _ ?lx A2.out).mono ?_; (case lx => exact (by repeat (first | (with_reducible first | exact HX.out | apply Lx.drewN | apply Lx.drew)))); rintro e wi ⟨rfl, ⟨ni, rfl⟩⟩))
  go_ret
  exact ⟨rfl, (by repeat (first | (with_reducible first | exact HB.out | apply below_drewN0 | apply below_drew1)))⟩
end Go.Proofs.YtofdhdafabmhmaaDoor.Giv
end
section
namespace Go.Proofs.YtofdhdafabmhmaaDoor.Giv
open Go.RowKit Go.Proofs.YtofdhdafabmhmaaDoorW.PrintWords Go.Proofs.YtofdhdafabmhmaaDoorW.PrintLast Go.Proofs.YtofdhdafabmhmaaDoorW.PrintMore Go.Proofs.YtofdhdafabmhmaaDoor.PLf4
open Go.Proofs.YtofdhdafabmhmaaDoor.Opn Go.BigFrame
/-- All is kept but the lexer's block. -/
structure Lk (g : Nat) (w w' : World) : Prop where
  os : w'.os = w.os
  tape : w'.tape = w.tape
  output : w'.output = w.output
  size : w.heap.size ≤ w'.heap.size
  heap : ∀ k, k < w.heap.size → k ≠ g → w'.heap[k]? = w.heap[k]?
theorem Lx.setv {W : World} {g : Nat} {s : ByteArray} {i : Nat} (h : Lx W g s i) {v : Int} {j : Nat} (hv : v = (j : Int)) : Lx (W.setCell ⟨g, 1, none⟩ (.int .i64 v)) g s j := by
  subst hv; exact h.set j
theorem Lk.refl (g : Nat) (w : World) : Lk g w w := ⟨rfl, rfl, rfl, Nat.le_refl _, fun _ _ _ => rfl⟩
theorem Lk.trans {g : Nat} {w w1 w2 : World} (h : Lk g w w1) (k : Lk g w1 w2) : Lk g w w2 :=
  ⟨k.os.trans h.os, k.tape.trans h.tape, k.output.trans h.output, Nat.le_trans h.size k.size, fun i hi hg => (k.heap i (Nat.lt_of_lt_of_le hi h.size) hg).trans (h.heap i hi hg)⟩
theorem Lk.of_below {g : Nat} {w w' : World} (h : Below w.heap.size w w') : Lk g w w' := ⟨h.os, h.tape, h.output, h.size, fun k hk _ => h.block k hk⟩
theorem Lk.call {g : Nat} {w w1 w2 : World} (h : Lk g w w1) (k : Below w1.heap.size w1 w2) : Lk g w w2 := h.trans (Lk.of_below k)
theorem Lk.drewN {g : Nat} {w w1 : World} (h : Lk g w w1) (n : Nat) : Lk g w (w1.drewN n) := h.trans ⟨rfl, rfl, rfl, Nat.le_refl _, fun _ _ _ => rfl⟩
theorem Lk.drew {g : Nat} {w w1 : World} (h : Lk g w w1) : Lk g w w1.drew := h.trans ⟨rfl, rfl, rfl, Nat.le_refl _, fun _ _ _ => rfl⟩
theorem Lk.set {g : Nat} {w w1 : World} (h : Lk g w w1) (o : Nat) (v : Value) : Lk g w (w1.setCell ⟨g, o, none⟩ v) :=
  h.trans ⟨rfl, rfl, rfl, by simp [World.setCell], fun k hk hg => Below.heap_setCell w1 _ v k hg⟩
theorem Lk.below {g B : Nat} {a w w' : World} (hb : Below B a w) (h : Lk g w w') (hg : B ≤ g) (hB : B ≤ w.heap.size) : Below B a w' :=
  hb.trans ⟨h.os, h.tape, h.output, h.size, fun k hk => h.heap k (Nat.lt_of_lt_of_le hk hB) (by omega)⟩
theorem Lk.at {g k : Nat} {w w' : World} {o : Obj} (h : Lk g w w') (hk : w.heap[k]? = some o) (hg : k ≠ g) : w'.heap[k]? = some o := (h.heap k (Array.getElem?_eq_some_iff.1 hk).1 hg).trans hk
/-- Where the blanks end (a comment: none). -/
def skipF : Nat → ByteArray → Nat → Option Nat
  | 0, _, _ => none
  | k + 1, s, i => if i < s.size then ((token_blank.f (bt s (i : Nat))).bind fun b => if b = true then skipF k s (i + 1) else ((strings_HasPrefix.f (s.extract i s.size) (⟨#[47, 42]⟩ : ByteArray)).bind fun p => if p = true then none else some i)) else some i
theorem skipF.mono : ∀ k s i, LeO (skipF k s i) (skipF (k + 1) s i)
  | 0, s, i => LeO.none _
  | k + 1, s, i => by
    unfold skipF; repeat' first
      | exact skipF.mono k _ _
      | (with_reducible first | exact LeO.refl _ | exact LeO.none _ | refine LeO.ite ?_ ?_ | refine LeO.bind ?_ (fun _ => ?_))
set_option maxHeartbeats 8000000 in
set_option maxRecDepth 100000 in
theorem skip_calls (k : Nat) (s : ByteArray) (g i r : Nat) (hs : s.size ≤ 140737488351232) (hi : i ≤ s.size) (w : World) (h : Lx w g s i) (hf : skipF k s i = some r) :
    Calls Tryd.prog 66 #[.pointer (some ⟨g, 0, none⟩)] w fun e w' => e = .returned (.tuple #[]) ∧ Lx w' g s r ∧ Lk g w w' := by
  have hu := Tryd.underlying111; have hut := Tryd.underlying9; have HS := am_ hs; have HF := am_ hf; have H1 := am_ h; have HI := am_ hi; clear hf h hs hi; go_enter Tryd.func66, Tryd.ntmps66
  go_wp2; go_loopg [] k (fun kq wr => ∃ i : Nat, Aside0 (i ≤ s.size) ∧ Aside0 (skipF kq s i = some r) ∧ Aside0 (Lx wr g s i) ∧ Aside0 (Lk g w wr))
  case atStart => exact ⟨i, HI, HF, H1, ⟨Lk.refl g w⟩⟩
  case round =>
    clear HF H1 HI; obtain ⟨i, HI, HF, HX, HK⟩ := hrel
    cases gk with
    | zero => exact absurd HF.out (by simp [skipF])
    | succ k2 =>
      have hf := HF.out; have hi := HI.out; have hs := HS.out; have hc0 := HX.out.s; have hc1 := HX.out.i; have hz1 := blk_frozen HX.out 1; clear HF; unfold skipF at hf; by_cases hlt : i < s.size
      · rw [if_pos hlt] at hf
        obtain ⟨b, hb, hf⟩ := bs_ hf; have A1 := am_ hb; have HLT := am_ hlt; have hw1 : IntKind.i64.wrap ((i : Int) + 1) = ((i + 1 : Nat) : Int) := wrapE i 1 (by omega); have hw2 : wrap64 ((i : Int) + 1) = ((i + 1 : Nat) : Int) := by rw [← i64_w]; exact hw1
        have q0 : (0 ≤ (i : Int)) = True := eq_true (by omega); have q1 : ((i : Int) < (s.size : Int)) = True := eq_true (by omega); have q2 : decide ((i : Int) < (s.size : Int)) = true := dt_ (by omega); have q3 : decide (i < s.size) = true := dt_ hlt; have q4 : (i < s.size) = True := eq_true hlt; have hx : ∀ h : i < s.size, ((s[i].toNat : Nat) : Int) = bt s (i : Nat) := fun h => bt_at s (i : Int) (by simpa using h)
        clear hb; cases b
        · rw [if_neg (by decide)] at hf
          obtain ⟨p, hp, hf⟩ := bs_ hf; have A2 := am_ hp; clear hp; cases p
          · rw [if_neg (by decide)] at hf
            obtain rfl := si_ hf; have hcut : ∀ W, (Instr.slice 9 (.string s) (some (.int .i64 (i : Int))) none none).run Tryd.prog W = .ok (.string (s.extract i s.size)) W := fun W => by
              have q5 : ((i : Int) ≤ (s.size : Int)) = True := eq_true (by omega); simp [go_sem, hut, q0, q5]
            clear hf hi hs hlt; go_wp2; refine wp_region_quiet_lit (by kernel_rfl) (by kernel_rfl) ?_
            repeat (go_big_quiet_step (fail))
            refine wpQuiet_nil ?_
            intro _ hw'; obtain ⟨nq, hw''⟩ := hw'; subst hw''; go_wp2; refine wp_region_quiet_lit (by kernel_rfl) (by kernel_rfl) ?_
            repeat (go_big_quiet_step (fail))
            refine qcall (some 23) rfl Tryd.func86 (by kernel_rfl) rfl #[.int .u8 (bt s (i : Nat))] (.bool false) (by rfl) rfl goa_ (fun w1 hw1 => ?_) ?_
            · obtain ⟨n1, rfl⟩ := hw1
              refine (token_blank.calls _ _ _ A1.out).mono ?_
              rintro e w2 ⟨rfl, ⟨m1, rfl⟩⟩
              exact ⟨rfl, ⟨n1 + m1, by simp [World.drewN, Nat.add_assoc]⟩⟩
            simp only [Act.put, List.setIfInBounds_toArray, List.set_cons_zero, List.set_cons_succ]; repeat (go_big_quiet_step (fail))
            refine wpQuiet_nil ?_
            intro _ hw'; obtain ⟨nq, hw''⟩ := hw'; subst hw''; go_wp2; refine wp_region_quiet_lit (by kernel_rfl) (by kernel_rfl) ?_
            repeat (go_big_quiet_step (fail))
            refine qcall (some 41) rfl Tryd.func87 (by kernel_rfl) rfl #[.string (s.extract i s.size), .string (⟨#[47, 42]⟩ : ByteArray)] (.bool false) (by rfl) rfl goa_ (fun w1 hw1 => ?_) ?_
            · obtain ⟨n1, rfl⟩ := hw1
              refine (strings_HasPrefix.calls _ _ _ _ A2.out).mono ?_
              rintro e w2 ⟨rfl, ⟨m1, rfl⟩⟩
              exact ⟨rfl, ⟨n1 + m1, by simp [World.drewN, Nat.add_assoc]⟩⟩
            simp only [Act.put, List.setIfInBounds_toArray, List.set_cons_zero, List.set_cons_succ]; repeat (go_big_quiet_step (fail))
            refine wpQuiet_nil ?_
            intro _ hw'; obtain ⟨nq, hw''⟩ := hw'; subst hw''; go_wp2; refine bodyPost_ret (results_none rfl _ _ _) rfl ?_
            exact ⟨rfl, (by repeat (first | (with_reducible first | exact HX.out | apply Lx.drewN | apply Lx.drew | apply Lx.set))), (by repeat (first | (with_reducible first | exact HK.out | apply Lk.drewN | apply Lk.drew | apply Lk.set)))⟩
          rw [if_pos rfl] at hf; cases hf
        rw [if_pos rfl] at hf; have A2 := am_ hf; clear hf hi hs hlt; go_wp2; refine wp_region_quiet_lit (by kernel_rfl) (by kernel_rfl) ?_
        repeat (go_big_quiet_step (fail))
        refine wpQuiet_nil ?_
        intro _ hw'; obtain ⟨nq, hw''⟩ := hw'; subst hw''; go_wp2; refine wp_region_quiet_lit (by kernel_rfl) (by kernel_rfl) ?_
        repeat (go_big_quiet_step (fail))
        refine qcall (some 23) rfl Tryd.func86 (by kernel_rfl) rfl #[.int .u8 (bt s (i : Nat))] (.bool true) (by rfl) rfl goa_ (fun w1 hw1 => ?_) ?_
        · obtain ⟨n1, rfl⟩ := hw1
          refine (token_blank.calls _ _ _ A1.out).mono ?_
          rintro e w2 ⟨rfl, ⟨m1, rfl⟩⟩
          exact ⟨rfl, ⟨n1 + m1, by simp [World.drewN, Nat.add_assoc]⟩⟩
        simp only [Act.put, List.setIfInBounds_toArray, List.set_cons_zero, List.set_cons_succ]; repeat (go_big_quiet_step (fail))
        refine wpQuiet_nil ?_
        intro _ hw'; obtain ⟨nq, hw''⟩ := hw'; subst hw''; go_wp2; go_roundg k2
        case measure => omega
        case rel => exact ⟨i + 1, ⟨HLT.out⟩, A2, ⟨Lx.setv (by repeat (first | (with_reducible first | exact HX.out | apply Lx.drewN | apply Lx.drew | apply Lx.set))) (by omega)⟩, ⟨(by repeat (first | (with_reducible first | exact HK.out | apply Lk.drewN | apply Lk.drew | apply Lk.set)))⟩⟩
      rw [if_neg hlt] at hf; obtain rfl := si_ hf; have q1 : ((i : Int) < (s.size : Int)) = False := eq_false (by omega); have q2 : decide ((i : Int) < (s.size : Int)) = false := df_ (by omega); have q3 : decide (i < s.size) = false := df_ hlt; have q4 : (i < s.size) = False := eq_false hlt; clear hf hi hs hlt; go_wp2; refine wp_region_quiet_lit (by kernel_rfl) (by kernel_rfl) ?_
      repeat (go_big_quiet_step (fail))
      refine wpQuiet_nil ?_
      intro _ hw'; obtain ⟨nq, hw''⟩ := hw'; subst hw''; go_wp2; go_end0
      exact ⟨rfl, (by repeat (first | (with_reducible first | exact HX.out | apply Lx.drewN | apply Lx.drew | apply Lx.set))), (by repeat (first | (with_reducible first | exact HK.out | apply Lk.drewN | apply Lk.drew | apply Lk.set)))⟩
end Go.Proofs.YtofdhdafabmhmaaDoor.Giv
end
section
/- The contracts of (*strings.Builder).copyCheck and WriteString, by hand, of a builder that the call itself has made. Condition: what is held and what is written is at most 2^47 bytes. -/
namespace Go.Proofs.YtofdhdafabmhmaaDoor.Giv
open Go.RowKit

theorem builder_size : (Tryd.prog.info? 100).map (·.size) = some 2 := by kernel_rfl
theorem builder_lies : liesAt Tryd.prog Tryd.prog.depth 100 (2 / Tryd.prog.cellsOf 100) 0 100 1 = true := by kernel_rfl
theorem byte_info : (Tryd.prog.info? 5).map (fun i => (i.zero, i.size, i.bytes)) = some (some (.int .u8 0), 1, 1) := by kernel_rfl

set_option maxHeartbeats 1000000 in
set_option maxRecDepth 100000 in
theorem copyCheck_used (b : Nat) (w : World) (h0 : w.cell? ⟨b, 0, none⟩ = some (.pointer (some ⟨b, 0, none⟩))) :
    Calls Tryd.prog 84 #[.pointer (some ⟨b, 0, none⟩)] w fun e w' => e = .returned (.tuple #[]) ∧ w' = w := by
  obtain ⟨j, hj, _⟩ := Option.map_eq_some_iff.1 builder_size; have ht := Tryd.underlying98; have hs := Lib.run_neq_ptr_same w (⟨b, 0, none⟩ : Addr) ht hj; go_enter Tryd.func84, Tryd.ntmps84
  go_wp2; go_end0
  exact ⟨rfl, rfl⟩

set_option maxHeartbeats 1000000 in
set_option maxRecDepth 100000 in
theorem copyCheck_fresh (b : Nat) (w : World) (h0 : w.cell? ⟨b, 0, none⟩ = some (.pointer none)) (hsh : w.shape? b = some (100, 2)) (hfz : w.frozen? ⟨b, 0, none⟩ = false) :
    Calls Tryd.prog 84 #[.pointer (some ⟨b, 0, none⟩)] w fun e w' => e = .returned (.tuple #[]) ∧ w' = w.setCell ⟨b, 0, none⟩ (.pointer (some ⟨b, 0, none⟩)) := by
  obtain ⟨j, hj, hjs⟩ := Option.map_eq_some_iff.1 builder_size; have ht := Tryd.underlying98; have hu := Tryd.underlying129; go_enter Tryd.func84, Tryd.ntmps84
  go_wp2; rw [Lib.run_to_unsafe w ⟨b, 0, none⟩ ht hu hj (by rw [hjs]; decide) hsh (Nat.zero_lt_succ 1)]
  simp only [Result.andThen]; rw [Oper.upon_value]; go_wp2; rw [run_callFunc_extern Tryd.func101 (by kernel_rfl) (by kernel_rfl) (by kernel_rfl) (e := Extern.AbiNoEscape.same) (by kernel_rfl)]; rw [Lib.run_noEscape]; simp only [Result.andThen]; rw [Oper.upon_value]; go_wp2; rw [Lib.run_from_unsafe w ⟨b, 0, none⟩ hu ht hj hsh builder_lies]; simp only [Result.andThen]; rw [Oper.upon_value]; go_wp2; go_end0
  exact ⟨rfl, rfl⟩

theorem copyCheck_calls (B b : Nat) (bs : List Value) (w : World) (h : Lib.IsBuilder 100 5 B b bs w) :
    Calls Tryd.prog 84 #[.pointer (some ⟨b, 0, none⟩)] w fun e w' => e = .returned (.tuple #[]) ∧ (Lib.BuilderAt 100 5 B b (.pointer (some ⟨b, 0, none⟩)) bs w' ∧ Below B w w') := by
  rcases h with h | h
  · refine (copyCheck_fresh b w h.cell0 h.shape h.frozen0).mono ?_
    rintro e w' ⟨rfl, rfl⟩
    exact ⟨rfl, h.used _, (Below.refl B w).setCell (p := ⟨b, 0, none⟩) h.1 _⟩
  refine (copyCheck_used b w h.cell0).mono ?_
  rintro e w' ⟨rfl, rfl⟩
  exact ⟨rfl, h, Below.refl B _⟩

set_option maxHeartbeats 2000000 in
set_option maxRecDepth 100000 in
theorem writeString_calls (B b : Nat) (bs : List Value) (s : ByteArray) (w : World) (h : Lib.IsBuilder 100 5 B b bs w) (hlen : bs.length + s.size ≤ 140737488355328) (hBw : B ≤ w.heap.size) :
    Calls Tryd.prog 63 #[.pointer (some ⟨b, 0, none⟩), .string s] w fun e w' => e = .returned (.tuple #[.int .i64 s.size, .nilIface]) ∧ (Lib.BuilderAt 100 5 B b (.pointer (some ⟨b, 0, none⟩)) (bs ++ Lib.strCells s) w' ∧ Below B w w') := by
  obtain ⟨i0, hi, hz0, hz1, hz2⟩ := info_parts byte_info; go_enter Tryd.func63, Tryd.ntmps63
  go_wp2_with (go_at_call 84; refine (copyCheck_calls B b bs _ h).mono ?_)
  rintro e w1 ⟨rfl, h1, hb1⟩
  have hlt := h1.lt; obtain ⟨hB, v, hbk, hown, hne⟩ := h1; have c0 : w1.cell? ⟨b, 0, none⟩ = some (.pointer (some ⟨b, 0, none⟩)) := by rw [Lib.cell_of_heap hbk]; rfl
  have c1 : w1.cell? ⟨b, 1, none⟩ = some v := by rw [Lib.cell_of_heap hbk]; rfl
  go_wp2_with (at_builtin; refine Lib.wpList_append_own_string _ rfl _ _ 63 9 rfl B 5 i0 Tryd.underlying63 Tryd.underlying9 hi hz0 hz1 hz2 _ _ _ rfl hown s rfl ?c3 ?c4 ?c5 ?_)
  case c3 => unfold maxLen; omega
  case c4 => omega
  case c5 => have := hb1.size; omega
  intro v' w2 hown' hgrow _; have hb2 : w2.heap[b]? = some (.cells #[.pointer (some ⟨b, 0, none⟩), v] 100 (0, 0)) := (hgrow.block b hlt (fun e => hne e.symm)).trans hbk; have d0 : w2.cell? ⟨b, 0, none⟩ = some (.pointer (some ⟨b, 0, none⟩)) := by rw [Lib.cell_of_heap hb2]; rfl
  have d1 : w2.cell? ⟨b, 1, none⟩ = some v := by rw [Lib.cell_of_heap hb2]; rfl
  have f1 : w2.frozen? ⟨b, 1, none⟩ = false := Lib.frozen_of_heap hb2 1; obtain ⟨ao, n', cap, rfl⟩ : ∃ ao n' cap, v' = .slice ao n' cap := by
    rcases hown'.2 with ⟨hv, _⟩ | ⟨g, cap, cur, hv, _⟩
    · exact ⟨_, _, _, hv⟩
    exact ⟨_, _, _, hv⟩
  go_wp2; go_ret2
  refine ⟨rfl, ?_, ?_⟩
  · exact Lib.BuilderAt.put (T := 100) (e := 5) hB hb2 (bs' := bs ++ Lib.strCells s) (by simpa [Lib.strCells_length] using hown') (by decide)
  exact (hb1.grown hgrow (by have := hb1.size; omega) (fun k hk => (hown.lt k hk).1)).setCell (p := ⟨b, 1, none⟩) hB _
end Go.Proofs.YtofdhdafabmhmaaDoor.Giv
end
section
namespace Go.Proofs.YtofdhdafabmhmaaDoor.Giv
open Go.RowKit Go.Proofs.YtofdhdafabmhmaaDoorW.PrintWords Go.Proofs.YtofdhdafabmhmaaDoorW.PrintLast Go.Proofs.YtofdhdafabmhmaaDoorW.PrintMore Go.Proofs.YtofdhdafabmhmaaDoor.PLf4
open Go.Proofs.YtofdhdafabmhmaaDoor.Opn Go.BigFrame
theorem Lx.fz {W : World} {g : Nat} {s : ByteArray} {i : Nat} (h : Lx W g s i) : W.frozen? ⟨g, 1, none⟩ = false := blk_frozen h 1
def byteAt (s : ByteArray) (i : Nat) : UInt8 := UInt8.ofNat (bt s (i : Nat)).toNat
theorem byteAt_val (s : ByteArray) (i : Nat) : ((byteAt s i).toNat : Int) = bt s (i : Nat) := by
  have := bt_range s (i : Nat)
  unfold byteAt; rw [UInt8.toNat_ofNat']; omega
theorem isB_keep {T e : TypeId} {B b : Nat} {l : List Value} {w w' : World} (h : Lib.IsBuilder T e B b l w) (hk : ∀ k, B ≤ k → k < w.heap.size → w'.heap[k]? = w.heap[k]?) : Lib.IsBuilder T e B b l w' := by
  have key : ∀ p, Lib.BuilderAt T e B b p l w → Lib.BuilderAt T e B b p l w' := by
    intro p hp; have hlt := hp.lt; obtain ⟨hB, v, hbk, hown, hne⟩ := hp; refine ⟨hB, v, (hk b hB hlt).trans hbk, ⟨hown.1, ?_⟩, hne⟩
    rcases hown.2 with h1 | ⟨g, cap, cur, hv, hg, hc, h4⟩
    · exact Or.inl h1
    exact Or.inr ⟨g, cap, cur, hv, hg, (hk g hg (Array.getElem?_eq_some_iff.1 hc).1).trans hc, h4⟩
  rcases h with h | h
  · exact Or.inl (key _ h)
  exact Or.inr (key _ h)
theorem isB_drewN {T e : TypeId} {B b : Nat} {l : List Value} {w : World} (h : Lib.IsBuilder T e B b l w) (n : Nat) : Lib.IsBuilder T e B b l (w.drewN n) := h
theorem isB_drew {T e : TypeId} {B b : Nat} {l : List Value} {w : World} (h : Lib.IsBuilder T e B b l w) : Lib.IsBuilder T e B b l w.drew := h
theorem isB_call {T e : TypeId} {B b : Nat} {l : List Value} {w w' : World} (h : Lib.IsBuilder T e B b l w) (hb : Below w.heap.size w w') : Lib.IsBuilder T e B b l w' := isB_keep h (fun k _ hk => hb.block k hk)
theorem isB_set {T e : TypeId} {B b g o : Nat} {v : Value} {l : List Value} {w : World} (h : Lib.IsBuilder T e B b l w) (hg : g < B) : Lib.IsBuilder T e B b l (w.setCell ⟨g, o, none⟩ v) :=
  isB_keep h (fun k hk _ => Below.heap_setCell w _ v k (show k ≠ g by omega))
theorem Lx.lower {W W' : World} {g B : Nat} {s : ByteArray} {i : Nat} (h : Lx W g s i) (hb : Below B W W') (hg : g < B) : Lx W' g s i := (hb.block g hg).trans h
theorem Lk.lower {g B : Nat} {w w1 w2 : World} (h : Lk g w w1) (k : Below B w1 w2) (hB : w.heap.size ≤ B) : Lk g w w2 :=
  ⟨k.os.trans h.os, k.tape.trans h.tape, k.output.trans h.output, Nat.le_trans h.size k.size, fun i hi hg => (k.block i (by omega)).trans (h.heap i hi hg)⟩
theorem built1 {T e : TypeId} {B b : Nat} {l : List UInt8} {c : UInt8} {v : Int} {w : World} (hv : v = (c.toNat : Int)) (h : Lib.BuilderAt T e B b (.pointer (some ⟨b, 0, none⟩)) (Lib.byteCells l ++ [.int .u8 v]) w) : Lib.IsBuilder T e B b (Lib.byteCells (l ++ [c])) w := Or.inr (by
  subst hv; unfold Lib.byteCells at *; rw [List.map_append]; exact h)
theorem builtS {T e : TypeId} {B b : Nat} {l : List UInt8} {r : ByteArray} {w : World} (h : Lib.BuilderAt T e B b (.pointer (some ⟨b, 0, none⟩)) (Lib.byteCells l ++ Lib.strCells r) w) : Lib.IsBuilder T e B b (Lib.byteCells (l ++ r.data.toList)) w := Or.inr (by
  unfold Lib.byteCells Lib.strCells at *; rw [List.map_append]; exact h)
set_option maxHeartbeats 2000000 in
set_option maxRecDepth 100000 in
theorem writeByte_calls (B b : Nat) (bs : List Value) (c : Int) (w : World) (h : Lib.IsBuilder 100 5 B b bs w) (hlen : bs.length + 1 ≤ 140737488355328) (hBw : B ≤ w.heap.size) :
    Calls Tryd.prog 111 #[.pointer (some ⟨b, 0, none⟩), .int .u8 c] w fun e w' => e = .returned .nilIface ∧ (Lib.BuilderAt 100 5 B b (.pointer (some ⟨b, 0, none⟩)) (bs ++ [.int .u8 c]) w' ∧ Below B w w') := by
  obtain ⟨i0, hi, hz0, hz1, hz2⟩ := info_parts byte_info; go_enter Tryd.func111, Tryd.ntmps111
  go_wp2_with (go_at_call 84; refine (copyCheck_calls B b bs _ h).mono ?_)
  rintro e w1 ⟨rfl, h1, hb1⟩
  have hlt := h1.lt; obtain ⟨hB, v, hbk, hown, hne⟩ := h1; have c0 : w1.cell? ⟨b, 0, none⟩ = some (.pointer (some ⟨b, 0, none⟩)) := by rw [Lib.cell_of_heap hbk]; rfl
  have c1 : w1.cell? ⟨b, 1, none⟩ = some v := by rw [Lib.cell_of_heap hbk]; rfl
  go_wp2_with (at_builtin; refine wpList_append_own _ rfl _ _ 63 rfl B 5 i0 (.int .u8 0) 1 1 Tryd.underlying63 hi hz0 hz1 hz2 rfl (by decide) _ _ _ rfl (hown.alloc _) ⟨w1.heap.size, 0, none⟩ 1 1 [.int .u8 c] rfl rfl ?c1 ?c2 ?c3 ?c4 ?c5 ?_)
  case c1 =>
    intro j u hj; match j, hj with
    | 0, hj => simp at hj; subst hj; simp [Addr.add]
  case c2 => intro u hu; simp at hu; subst hu; rfl
  case c3 => unfold maxLen; omega
  case c4 => omega
  case c5 => have := hb1.size; simp; omega
  intro v' w2 hown' hgrow _; have hb2 : w2.heap[b]? = some (.cells #[.pointer (some ⟨b, 0, none⟩), v] 100 (0, 0)) := by
    rw [hgrow.block b (by simp; omega) (fun e => hne e.symm), Lib.alloc_old w1 _ b hlt]; exact hbk
  have d0 : w2.cell? ⟨b, 0, none⟩ = some (.pointer (some ⟨b, 0, none⟩)) := by rw [Lib.cell_of_heap hb2]; rfl
  have d1 : w2.cell? ⟨b, 1, none⟩ = some v := by rw [Lib.cell_of_heap hb2]; rfl
  have f1 : w2.frozen? ⟨b, 1, none⟩ = false := Lib.frozen_of_heap hb2 1; obtain ⟨g, cap, rfl⟩ : ∃ g cap, v' = .slice (some ⟨g, 0, none⟩) (bs.length + 1) cap := by
    rcases hown'.2 with ⟨_, h0⟩ | ⟨g, cap, cur, hv, _⟩
    · omega
    exact ⟨g, cap, hv⟩
  go_wp2; go_ret
  refine ⟨rfl, ?_, ?_⟩
  · exact Lib.BuilderAt.put (T := 100) (e := 5) hB hb2 (bs' := bs ++ [.int .u8 c]) (by simpa using hown') (by decide)
  exact ((hb1.alloc (by have := hb1.size; omega) _).grown hgrow (by have := hb1.size; simp; omega) (fun k hk => (hown.lt k hk).1)).setCell (p := ⟨b, 1, none⟩) hB _
end Go.Proofs.YtofdhdafabmhmaaDoor.Giv
end
section
namespace Go.Proofs.YtofdhdafabmhmaaDoor.Giv
open Go.RowKit Go.Proofs.YtofdhdafabmhmaaDoorW.PrintWords Go.Proofs.YtofdhdafabmhmaaDoorW.PrintLast Go.Proofs.YtofdhdafabmhmaaDoorW.PrintMore Go.Proofs.YtofdhdafabmhmaaDoor.PLf4
open Go.Proofs.YtofdhdafabmhmaaDoor.Opn Go.BigFrame
theorem lt0_ {T e : TypeId} {B b : Nat} {l : List Value} {w : World} (h : Lib.IsBuilder T e B b l w) : b < w.heap.size := by
  rcases h with h | h
  · exact h.lt
  exact h.lt
theorem _root_.Go.Lib.IsBuilder.lt0 {T e : TypeId} {B b : Nat} {l : List Value} {w : World} (h : Lib.IsBuilder T e B b l w) : b < w.heap.size := lt0_ h
/-- What an identifier means, and where it ends. -/
def identF : Nat → ByteArray → Nat → List UInt8 → Option (List UInt8 × Nat)
  | 0, _, _, _ => none
  | k + 1, s, i, acc => (isF token_lexer_ident_1.f s i).bind fun a => if a = true then (if i < s.size then (if acc.length ≤ 10000000 then identF k s (i + 1) (acc ++ [byteAt s i]) else none) else none)
    else ((escF k s i).bind fun e => if e = true then ((token_Hex.f k s (i : Int)).bind fun t => if 0 ≤ t.2 then (if i + t.2.toNat ≤ s.size then (if acc.length + t.1.size ≤ 10000000 then identF k s (i + t.2.toNat) (acc ++ t.1.data.toList) else none) else none) else none) else some (acc, i))
theorem identF.mono : ∀ k s i acc, LeO (identF k s i acc) (identF (k + 1) s i acc)
  | 0, s, i, acc => LeO.none _
  | k + 1, s, i, acc => by
    rw [identF, identF]; repeat' first
      | exact identF.mono k _ _ _
      | (with_reducible exact escF.mono _ _ _)
      | (with_reducible exact token_Hex.mono _ _ _)
      | (with_reducible first | exact LeO.refl _ | exact LeO.none _ | refine LeO.ite ?_ ?_ | refine LeO.bind ?_ (fun _ => ?_))
def lexer_ident.T5 : Bool × List (List Nat × List Nat) := (true, [([], []), ([0], [0]), ([1], [1]), ([2], [2]), ([], []), ([4], [4]), ([5], [5]), ([6], [6]), ([3, 7], [3, 7]), ([8], [8])])
def lexer_ident.B5 : List Nat := [0, 1, 3, 7, 0, 16, 48, 112, 255, 511]
theorem lexer_ident.tab5 : rtab .any (opsOf Tryd.f93 5) = lexer_ident.T5 := by kernel_rfl
theorem lexer_ident.bits5 : waitsOk lexer_ident.T5.2 lexer_ident.B5 = true := by kernel_rfl
def lexer_ident.T8 : Bool × List (List Nat × List Nat) := (true, [([], []), ([0], [0]), ([1], [1]), ([2], [2]), ([], []), ([4], [4]), ([5], [5]), ([6], [6]), ([3, 7], [3, 7]), ([8], [8]), ([9], [9]), ([9], [9]), ([10, 8, 0, 1, 2, 3, 4, 5, 6, 7, 8, 9, 10], [10]), ([11, 12, 0, 1, 2, 3, 4, 5, 6, 7, 8, 9, 10, 11, 12], [11])])
def lexer_ident.B8 : List Nat := [0, 1, 3, 7, 0, 16, 48, 112, 255, 511, 1023, 1023, 2047, 8191]
theorem lexer_ident.tab8 : rtab .any (opsOf Tryd.f93 8) = lexer_ident.T8 := by kernel_rfl
theorem lexer_ident.bits8 : waitsOk lexer_ident.T8.2 lexer_ident.B8 = true := by kernel_rfl
set_option maxHeartbeats 8000000 in
set_option maxRecDepth 100000 in
theorem ident_calls (k : Nat) (s : ByteArray) (g i j : Nat) (l : List UInt8) (hs : s.size ≤ 140737488351232) (hi : i ≤ s.size) (w : World) (h : Lx w g s i) (hf : identF k s i [] = some (l, j)) :
    Calls Tryd.prog 93 #[.pointer (some ⟨g, 0, none⟩)] w fun e w' => e = .returned (.string ⟨l.toArray⟩) ∧ Lx w' g s j ∧ Lk g w w' := by
  have hu := Tryd.underlying111; have HS := am_ hs; have HF := am_ hf; have H1 := am_ h; have HI := am_ hi; have hg := (Array.getElem?_eq_some_iff.1 h).1; have HG := am_ hg; have hfr := Lib.fresh_isBuilder 100 5 w; have HFR := am_ hfr; clear hf h hs hi hg hfr; go_enter Tryd.func93, Tryd.ntmps93
  go_wp2; go_loopg [] k (fun kq wr => ∃ (i : Nat) (acc : List UInt8), Aside0 (i ≤ s.size) ∧ Aside0 (identF kq s i acc = some (l, j)) ∧ Aside0 (Lx wr g s i) ∧ Aside0 (Lk g w wr) ∧ Aside0 (Lib.IsBuilder 100 5 w.heap.size w.heap.size (Lib.byteCells acc) wr))
  case atStart => exact ⟨i, [], HI, HF, ⟨Lx.below H1.out ((Below.refl _ _).alloc (Nat.le_refl _) _)⟩, ⟨Lk.of_below ((Below.refl _ _).alloc (Nat.le_refl _) _)⟩, HFR⟩
  case round =>
    clear HF H1 HI HFR; obtain ⟨i, acc, HI, HF, HX, HK, HD⟩ := hrel
    cases gk with
    | zero => exact absurd HF.out (by simp [identF])
    | succ k2 =>
      have hf := HF.out; have hi := HI.out; have hs := HS.out; have HJ := am_ (show i ≤ 140737488351300 by omega); have HW0 := am_ (show IntKind.i64.wrap (i : Int) = (i : Int) from wrapE i 0 (by omega)); clear HF; rw [identF] at hf; obtain ⟨a, ha, hf⟩ := bs_ hf; have A1 := am_ ha; clear ha; cases a
      · rw [if_neg (by decide)] at hf
        obtain ⟨e, he, hf⟩ := bs_ hf; have A2 := am_ he; clear he; cases e
        · rw [if_neg (by decide)] at hf
          obtain ⟨rfl, rfl⟩ := Prod.mk.inj (si_ hf); clear hf hi hs; go_wp2_with (first | (go_at_call 90; with_reducible refine (is_inner0 s g i i HS.out HW0.out _ _ ?lx A1.out).mono ?_; (case lx => exact (by repeat (first | (with_reducible first | exact HX.out | apply Lx.drewN | apply Lx.drew)))); rintro e wi ⟨rfl, ⟨ni, rfl⟩⟩) | (go_at_call 108; with_reducible refine (escape_0 k2 s g i i HS.out HJ.out HW0.out _ _ ?lx A2.out).mono ?_; (case lx => exact (by repeat (first | (with_reducible first | exact HX.out | apply Lx.drewN | apply Lx.drew)))); rintro e wi ⟨rfl, hb⟩; have HX2 := am_ (Lx.below (by repeat (first | (with_reducible first | exact HX.out | apply Lx.drewN | apply Lx.drew))) hb); have HK2 := am_ (Lk.call (by repeat (first | (with_reducible first | exact HK.out | apply Lk.drewN | apply Lk.drew | apply Lk.set))) hb); have HD2 := am_ (isB_call (by repeat (first | (with_reducible first | exact HD.out | apply isB_drewN | apply isB_drew))) hb); clear hb; clear HX HK HD; have HX := HX2; have HK := HK2; have HD := HD2; clear HX2 HK2 HD2; have hc0 := HX.out.s; have hc1 := HX.out.i; have hz1 := HX.out.fz) | (go_at_call 64; refine (Tryd.Builder_String_any w.heap.size w.heap.size acc _ (by repeat (first | (with_reducible first | exact HD.out | apply isB_drewN | apply isB_drew))) (Nat.le_of_lt HD.out.lt0)).mono ?_; rintro e w7 ⟨rfl, hb7⟩; have HX7 := am_ (Lx.lower (by repeat (first | (with_reducible first | exact HX.out | apply Lx.drewN | apply Lx.drew))) hb7 HG.out); have HK7 := am_ (Lk.lower (by repeat (first | (with_reducible first | exact HK.out | apply Lk.drewN | apply Lk.drew | apply Lk.set))) hb7 (Nat.le_refl _)); clear hb7))
          go_ret
          exact ⟨rfl, HX7.out, HK7.out⟩
        rw [if_pos rfl] at hf; obtain ⟨⟨x, n⟩, hx, hf⟩ := bs_ hf; have A3 := am_ hx; clear hx; try dsimp only at hf
        by_cases h1 : 0 ≤ n
        · rw [if_pos h1] at hf
          by_cases h2 : i + n.toNat ≤ s.size
          · rw [if_pos h2] at hf
            by_cases h3 : acc.length + x.size ≤ 10000000
            · rw [if_pos h3] at hf
              have A4 := am_ hf; have HI2 := am_ h2; have HLEN := am_ (show (Lib.byteCells acc).length + x.size ≤ 140737488355328 by unfold Lib.byteCells; rw [List.length_map]; omega); have hwn : wrap64 ((i : Int) + n) = ((i + n.toNat : Nat) : Int) := by unfold wrap64; omega
              have HWN := am_ hwn; clear hf h1 h2 h3 hwn hi hs; go_wp2_with (first | (go_at_call 90; with_reducible refine (is_inner0 s g i i HS.out HW0.out _ _ ?lx A1.out).mono ?_; (case lx => exact (by repeat (first | (with_reducible first | exact HX.out | apply Lx.drewN | apply Lx.drew)))); rintro e wi ⟨rfl, ⟨ni, rfl⟩⟩) | (go_at_call 108; with_reducible refine (escape_0 k2 s g i i HS.out HJ.out HW0.out _ _ ?lx A2.out).mono ?_; (case lx => exact (by repeat (first | (with_reducible first | exact HX.out | apply Lx.drewN | apply Lx.drew)))); rintro e wi ⟨rfl, hb⟩; have HX2 := am_ (Lx.below (by repeat (first | (with_reducible first | exact HX.out | apply Lx.drewN | apply Lx.drew))) hb); have HK2 := am_ (Lk.call (by repeat (first | (with_reducible first | exact HK.out | apply Lk.drewN | apply Lk.drew | apply Lk.set))) hb); have HD2 := am_ (isB_call (by repeat (first | (with_reducible first | exact HD.out | apply isB_drewN | apply isB_drew))) hb); clear hb; clear HX HK HD; have HX := HX2; have HK := HK2; have HD := HD2; clear HX2 HK2 HD2; have hc0 := HX.out.s; have hc1 := HX.out.i; have hz1 := HX.out.fz))
              have HX4 : Aside0 (Lx (wi).drew g s i) := am_ (Lx.drew (by repeat (first | (with_reducible first | exact HX.out | apply Lx.drewN | apply Lx.drew)))); have HK4 : Aside0 (Lk g w (wi).drew) := am_ (Lk.drew (by repeat (first | (with_reducible first | exact HK.out | apply Lk.drewN | apply Lk.drew | apply Lk.set)))); have HD4 : Aside0 (Lib.IsBuilder 100 5 w.heap.size w.heap.size (Lib.byteCells acc) (wi).drew) := am_ (isB_drew (by repeat (first | (with_reducible first | exact HD.out | apply isB_drewN | apply isB_drew)))); refine start_ (n := 14) (S := (fun w' => w'.cell? ⟨g, 0, none⟩ = some (.string s) ∧ w'.cell? ⟨g, 1, none⟩ = some (.int .i64 (i : Int)))) (ds := []) #[false, false, false, false, false, false, false, false, false, false, false, false, false, false] (by kernel_rfl) rfl rfl ⟨HX4.out.s, HX4.out.i⟩ (fun hHeld => ?_)
              refine with_tabW lexer_ident.tab8 lexer_ident.bits8 (fun HT_ HW_ => ?_)
              generalize (wi).drew = w4 at HX4 HK4 HD4 hHeld ⊢
              refine pus_ 0 (some 33) #[true, false, false, false, false, false, false, false, false, false, false, false, false, false] rfl rfl HT_.out ?_
              refine pus_ 1 (some 34) #[true, true, false, false, false, false, false, false, false, false, false, false, false, false] rfl rfl HT_.out ?_
              refine pus_ 2 (some 35) #[true, true, true, false, false, false, false, false, false, false, false, false, false, false] rfl rfl HT_.out ?_
              refine tas_ 3 (some 36) #[true, true, true, true, false, false, false, false, false, false, false, false, false, false] rfl rfl HT_.out HW_.out hHeld ?_
              refine pus_ 4 (some 37) #[true, true, true, true, true, false, false, false, false, false, false, false, false, false] rfl rfl HT_.out ?_
              refine pus_ 5 (some 38) #[true, true, true, true, true, true, false, false, false, false, false, false, false, false] rfl rfl HT_.out ?_
              refine pus_ 6 (some 39) #[true, true, true, true, true, true, true, false, false, false, false, false, false, false] rfl rfl HT_.out ?_
              refine tas_ 7 (some 40) #[true, true, true, true, true, true, true, true, false, false, false, false, false, false] rfl rfl HT_.out HW_.out hHeld ?_
              refine one_ (i := 8) (N := (some 41)) #[true, true, true, true, true, true, true, true, true, false, false, false, false, false] rfl rfl (one_of HT_.out (by kernel_rfl)) (by decide) (fun K hK => ?_)
              refine goes_ Tryd.func112 (by kernel_rfl) rfl #[.string s, .int .i64 (i : Int)] (by rfl) rfl rfl goa_ ?_
              with_reducible refine (token_Hex.calls k2 s (i : Int) x n _ A3.out).mono ?_
              rintro e w5 ⟨rfl, hb⟩
              refine ⟨_, rfl, ?_⟩
              have HX5 := am_ (HX4.out.below hb); have HK5 := am_ (HK4.out.call hb); have HD5 := am_ (isB_call HD4.out hb); clear hb; refine hK.out _ _ ⟨HX5.out.s, HX5.out.i⟩ (fun hHeld => ?_)
              clear hK K; refine norm_ (a' := ?_) ?_ ?_
              rotate_left
              ·show Act.put _ (some 41) _ = _
               simp only [Act.put, List.setIfInBounds_toArray, List.set_cons_zero, List.set_cons_succ, i64_w, i32_w]; rfl
              refine pus_ 9 (some 32) #[true, true, true, true, true, true, true, true, true, true, false, false, false, false] rfl rfl HT_.out ?_
              refine pus_ 10 (some 42) #[true, true, true, true, true, true, true, true, true, true, true, false, false, false] rfl rfl HT_.out ?_
              refine pus_ 11 (some 43) #[true, true, true, true, true, true, true, true, true, true, true, true, false, false] rfl rfl HT_.out ?_
              refine pus_ 12 (some 5) #[true, true, true, true, true, true, true, true, true, true, true, true, true, false] rfl rfl HT_.out ?_
              refine pus_ 13 (some 6) #[true, true, true, true, true, true, true, true, true, true, true, true, true, true] rfl rfl HT_.out ?_
              refine done_ (done_of HT_.out (by kernel_rfl)) ?_
              clear HX HK HD HX4 HK4 HD4; have HX := HX5; have HK := HK5; have HD := HD5; clear HX5 HK5 HD5; have hc0 := HX.out.s; have hc1 := HX.out.i; have hz1 := HX.out.fz; go_wp2_with (first | (go_at_call 63; refine (writeString_calls w.heap.size w.heap.size (Lib.byteCells acc) x _ (by repeat (first | (with_reducible first | exact HD.out | apply isB_drewN | apply isB_drew))) HLEN.out (Nat.le_of_lt HD.out.lt0)).mono ?_; rintro e w7 ⟨rfl, hd7, hb7⟩; have HX2 := am_ (Lx.lower (by repeat (first | (with_reducible first | exact HX.out | apply Lx.drewN | apply Lx.drew))) hb7 HG.out); have HK2 := am_ (Lk.lower (by repeat (first | (with_reducible first | exact HK.out | apply Lk.drewN | apply Lk.drew | apply Lk.set))) hb7 (Nat.le_refl _)); have HD2 := am_ (builtS hd7); clear hd7 hb7; clear HX HK HD; have HX := HX2; have HK := HK2; have HD := HD2; clear HX2 HK2 HD2; have hc0 := HX.out.s; have hc1 := HX.out.i; have hz1 := HX.out.fz))
              have hc0 := HX.out.s; have hc1 := HX.out.i; have hz1 := HX.out.fz; go_wp2; go_roundg k2
              case measure => omega
              case rel => exact ⟨i + n.toNat, acc ++ x.data.toList, HI2, A4, ⟨Lx.setv (by repeat (first | (with_reducible first | exact HX.out | apply Lx.drewN | apply Lx.drew))) HWN.out⟩, ⟨(by repeat (first | (with_reducible first | exact HK.out | apply Lk.drewN | apply Lk.drew | apply Lk.set)))⟩, ⟨isB_set (by repeat (first | (with_reducible first | exact HD.out | apply isB_drewN | apply isB_drew))) HG.out⟩⟩
            rw [if_neg h3] at hf; cases hf
          rw [if_neg h2] at hf; cases hf
        rw [if_neg h1] at hf; cases hf
      rw [if_pos rfl] at hf; by_cases hlt : i < s.size
      · rw [if_pos hlt] at hf
        by_cases h3 : acc.length ≤ 10000000
        · rw [if_pos h3] at hf
          have A4 := am_ hf; have HLEN := am_ (show (Lib.byteCells acc).length + 1 ≤ 140737488355328 by unfold Lib.byteCells; rw [List.length_map]; omega); have HI2 := am_ (show i + 1 ≤ s.size by omega); have hw2 : wrap64 ((i : Int) + 1) = ((i + 1 : Nat) : Int) := by unfold wrap64; omega
          have HWN := am_ (show (i : Int) + 1 = ((i + 1 : Nat) : Int) by omega); have q0 : (0 ≤ (i : Int)) = True := eq_true (by omega); have q1 : ((i : Int) < (s.size : Int)) = True := eq_true (by omega); have q2 : decide ((i : Int) < (s.size : Int)) = true := dt_ (by omega); have q3 : decide (i < s.size) = true := dt_ hlt; have q4 : (i < s.size) = True := eq_true hlt; have hx : ∀ h : i < s.size, ((s[i].toNat : Nat) : Int) = bt s (i : Nat) := fun h => bt_at s (i : Int) (by simpa using h)
          clear hf h3 hi hs hlt; go_wp2_with (first | (go_at_call 90; with_reducible refine (is_inner0 s g i i HS.out HW0.out _ _ ?lx A1.out).mono ?_; (case lx => exact (by repeat (first | (with_reducible first | exact HX.out | apply Lx.drewN | apply Lx.drew)))); rintro e wi ⟨rfl, ⟨ni, rfl⟩⟩))
          have HX4 : Aside0 (Lx (wr.drewN ni).drew g s i) := am_ (Lx.drew (by repeat (first | (with_reducible first | exact HX.out | apply Lx.drewN | apply Lx.drew)))); have HK4 : Aside0 (Lk g w (wr.drewN ni).drew) := am_ (Lk.drew (by repeat (first | (with_reducible first | exact HK.out | apply Lk.drewN | apply Lk.drew | apply Lk.set)))); have HD4 : Aside0 (Lib.IsBuilder 100 5 w.heap.size w.heap.size (Lib.byteCells acc) (wr.drewN ni).drew) := am_ (isB_drew (by repeat (first | (with_reducible first | exact HD.out | apply isB_drewN | apply isB_drew)))); refine start_ (n := 10) (S := (fun w' => w'.cell? ⟨g, 0, none⟩ = some (.string s) ∧ w'.cell? ⟨g, 1, none⟩ = some (.int .i64 (i : Int)))) (ds := []) #[false, false, false, false, false, false, false, false, false, false] (by kernel_rfl) rfl rfl ⟨HX4.out.s, HX4.out.i⟩ (fun hHeld => ?_)
          refine with_tabW lexer_ident.tab5 lexer_ident.bits5 (fun HT_ HW_ => ?_)
          generalize (wr.drewN ni).drew = w4 at HX4 HK4 HD4 hHeld ⊢
          refine pus_ 0 (some 12) #[true, false, false, false, false, false, false, false, false, false] rfl rfl HT_.out ?_
          refine pus_ 1 (some 13) #[true, true, false, false, false, false, false, false, false, false] rfl rfl HT_.out ?_
          refine pus_ 2 (some 14) #[true, true, true, false, false, false, false, false, false, false] rfl rfl HT_.out ?_
          refine tas_ 3 (some 15) #[true, true, true, true, false, false, false, false, false, false] rfl rfl HT_.out HW_.out hHeld ?_
          refine pus_ 4 (some 16) #[true, true, true, true, true, false, false, false, false, false] rfl rfl HT_.out ?_
          refine pus_ 5 (some 17) #[true, true, true, true, true, true, false, false, false, false] rfl rfl HT_.out ?_
          refine pus_ 6 (some 18) #[true, true, true, true, true, true, true, false, false, false] rfl rfl HT_.out ?_
          refine tas_ 7 (some 19) #[true, true, true, true, true, true, true, true, false, false] rfl rfl HT_.out HW_.out hHeld ?_
          refine pus_ 8 (some 20) #[true, true, true, true, true, true, true, true, true, false] rfl rfl HT_.out ?_
          refine one_ (i := 9) (N := (some 21)) #[true, true, true, true, true, true, true, true, true, true] rfl rfl (one_of HT_.out (by kernel_rfl)) (by decide) (fun K hK => ?_)
          refine goes_ Tryd.func111 (by kernel_rfl) rfl #[.pointer (some ⟨w.heap.size, 0, none⟩), .int .u8 (bt s (i : Nat))] (by rfl) rfl rfl goa_ ?_
          refine (writeByte_calls w.heap.size w.heap.size (Lib.byteCells acc) (bt s (i : Nat)) _ HD4.out HLEN.out (Nat.le_of_lt HD4.out.lt0)).mono ?_
          rintro e w5 ⟨rfl, hd5, hb5⟩
          refine ⟨_, rfl, ?_⟩
          have HX5 := am_ (HX4.out.lower hb5 HG.out); have HK5 := am_ (HK4.out.lower hb5 (Nat.le_refl _)); have HD5 := am_ (built1 (c := byteAt s i) (byteAt_val s i).symm hd5); clear hd5 hb5; refine hK.out _ _ ⟨HX5.out.s, HX5.out.i⟩ (fun hHeld => ?_)
          clear hK K; refine norm_ (a' := ?_) ?_ ?_
          rotate_left
          ·show Act.put _ (some 21) _ = _
           simp only [Act.put, List.setIfInBounds_toArray, List.set_cons_zero, List.set_cons_succ, i64_w, i32_w]; rfl
          refine done_ (done_of HT_.out (by kernel_rfl)) ?_
          clear HX HK HD HX4 HK4 HD4; have HX := HX5; have HK := HK5; have HD := HD5; clear HX5 HK5 HD5; have hc0 := HX.out.s; have hc1 := HX.out.i; have hz1 := HX.out.fz; go_wp2; go_roundg k2
          case measure => omega
          case rel => exact ⟨i + 1, acc ++ [byteAt s i], HI2, A4, ⟨Lx.setv (by repeat (first | (with_reducible first | exact HX.out | apply Lx.drewN | apply Lx.drew))) (by omega)⟩, ⟨(by repeat (first | (with_reducible first | exact HK.out | apply Lk.drewN | apply Lk.drew | apply Lk.set)))⟩, ⟨isB_set (by repeat (first | (with_reducible first | exact HD.out | apply isB_drewN | apply isB_drew))) HG.out⟩⟩
        rw [if_neg h3] at hf; cases hf
      rw [if_neg hlt] at hf; cases hf
end Go.Proofs.YtofdhdafabmhmaaDoor.Giv
end
section
namespace Go.Proofs.YtofdhdafabmhmaaDoor.Giv
open Go.RowKit Go.Proofs.YtofdhdafabmhmaaDoorW.PrintWords Go.Proofs.YtofdhdafabmhmaaDoorW.PrintLast Go.Proofs.YtofdhdafabmhmaaDoorW.PrintMore Go.Proofs.YtofdhdafabmhmaaDoor.PLf4
open Go.Proofs.YtofdhdafabmhmaaDoor.Opn Go.BigFrame
theorem isB_put {T e : TypeId} {B b g o : Nat} {v : Value} {l : List Value} {w : World} (hg : g < B) (h : Lib.IsBuilder T e B b l w) : Lib.IsBuilder T e B b l (w.setCell ⟨g, o, none⟩ v) := isB_set h hg
/-- What a quoted text means, and where it ends (an escape that is none, a line's end, a byte 0: none). -/
def quotF : Nat → ByteArray → Nat → List UInt8 → Int → Option (List UInt8 × Nat)
  | 0, _, _, _, _ => none
  | k + 1, s, i, acc, e => if i < s.size then (if bt s (i : Nat) = e then some (acc, i + 1) else ((token_feed.f (bt s (i : Nat))).bind fun f => if f = true then none else if bt s (i : Nat) = 0 then none else if bt s (i : Nat) = 92 then
      ((escF k s i).bind fun b => if b = true then ((token_Hex.f k s (i : Int)).bind fun t => if 0 ≤ t.2 then (if i + t.2.toNat ≤ s.size then (if acc.length + t.1.size ≤ 10000000 then quotF k s (i + t.2.toNat) (acc ++ t.1.data.toList) e else none) else none) else none) else none)
      else if acc.length ≤ 10000000 then quotF k s (i + 1) (acc ++ [byteAt s i]) e else none)) else none
theorem quotF.mono : ∀ k s i acc e, LeO (quotF k s i acc e) (quotF (k + 1) s i acc e)
  | 0, s, i, acc, e => LeO.none _
  | k + 1, s, i, acc, e => by
    rw [quotF, quotF]; repeat' first
      | exact quotF.mono k _ _ _ _
      | (with_reducible exact escF.mono _ _ _)
      | (with_reducible exact token_Hex.mono _ _ _)
      | (with_reducible first | exact LeO.refl _ | exact LeO.none _ | refine LeO.ite ?_ ?_ | refine LeO.bind ?_ (fun _ => ?_))
def lexer_quoted.T13 : Bool × List (List Nat × List Nat) := (true, [([], []), ([0], [0]), ([1], [1]), ([2], [2]), ([], []), ([4], [4]), ([5], [5]), ([6], [6]), ([3, 7], [3, 7]), ([8], [8]), ([9], [9]), ([9], [9]), ([10, 8, 0, 1, 2, 3, 4, 5, 6, 7, 8, 9, 10], [10]), ([11, 12, 0, 1, 2, 3, 4, 5, 6, 7, 8, 9, 10, 11, 12], [11])])
def lexer_quoted.B13 : List Nat := [0, 1, 3, 7, 0, 16, 48, 112, 255, 511, 1023, 1023, 2047, 8191]
theorem lexer_quoted.tab13 : rtab .any (opsOf Tryd.f95 13) = lexer_quoted.T13 := by kernel_rfl
theorem lexer_quoted.bits13 : waitsOk lexer_quoted.T13.2 lexer_quoted.B13 = true := by kernel_rfl
set_option maxHeartbeats 8000000 in
set_option maxRecDepth 100000 in
theorem quoted_calls (k : Nat) (s : ByteArray) (g i j : Nat) (l : List UInt8) (hs : s.size ≤ 140737488351232) (hi : i < s.size) (w : World) (h : Lx w g s i) (hf : quotF k s (i + 1) [] (bt s (i : Nat)) = some (l, j)) :
    Calls Tryd.prog 95 #[.pointer (some ⟨g, 0, none⟩)] w fun e w' => e = .returned (.string ⟨l.toArray⟩) ∧ Lx w' g s j ∧ Lk g w w' := by
  have hu := Tryd.underlying111; have HS := am_ hs; have HF := am_ hf; have H1 := am_ h; have HI := am_ (show i + 1 ≤ s.size by omega); have hg := (Array.getElem?_eq_some_iff.1 h).1; have HG := am_ hg; have hlt := hi; have hc0 := h.s; have hc1 := h.i; have hw2 : wrap64 ((i : Int) + 1) = ((i + 1 : Nat) : Int) := by unfold wrap64; omega
  have q0 : (0 ≤ (i : Int)) = True := eq_true (by omega); have q1 : ((i : Int) < (s.size : Int)) = True := eq_true (by omega); have q2 : decide ((i : Int) < (s.size : Int)) = true := dt_ (by omega); have q3 : decide (i < s.size) = true := dt_ hlt; have q4 : (i < s.size) = True := eq_true hlt; have hx : ∀ h : i < s.size, ((s[i].toNat : Nat) : Int) = bt s (i : Nat) := fun h => bt_at s (i : Int) (by simpa using h)
  clear hf h hs hi hg hlt; go_enter Tryd.func95, Tryd.ntmps95
  go_wp2; refine wp_region_quiet_lit (by kernel_rfl) (by kernel_rfl) ?_
  repeat (go_big_quiet_step (fail))
  refine wpQuiet_nil ?_
  intro _ hw'; obtain ⟨nq, hw''⟩ := hw'; subst hw''; go_wp2_with (first | ((with_reducible refine gate_dst (N := 5) rfl ?_); (try (refine gate_guard (by rfl) ?_; dsimp only)); refine box_event ?hg (N := 5) ?hd (cs := #[.pointer none, .slice none 0 0]) (t := 100) ?hr ?_; (case hd => rfl); (case hg => rfl); (case hr => first | (go_simp; done) | (go_simp; rfl)); intro b5 hg w5 hbox hb; have hg2 : b5 = w.heap.size := hg; subst hg2; have HFR : Aside0 (Lib.IsBuilder 100 5 w.heap.size w.heap.size [] w5) := ⟨Or.inl ⟨Nat.le_refl _, .slice none 0 0, hbox, World.ownsRow_nil _ _ _ _, by simp [Value.ownBlock]⟩⟩; have HXA : Aside0 (Lx w5 g s i) := ⟨Lx.below (W := w.drewN nq) H1.out hb⟩; have HKA : Aside0 (Lk g w w5) := ⟨Lk.call ((Lk.refl g w).drewN nq) hb⟩; clear hg hbox hb hc0 hc1 H1; have hc0 := HXA.out.s; have hc1 := HXA.out.i; have hz1 := HXA.out.fz))
  clear hx; generalize bt s (i : Nat) = en at HF ⊢
  go_loopg [] k (fun kq wr => ∃ (i2 : Nat) (acc : List UInt8), Aside0 (i2 ≤ s.size) ∧ Aside0 (quotF kq s i2 acc en = some (l, j)) ∧ Aside0 (Lx wr g s i2) ∧ Aside0 (Lk g w wr) ∧ Aside0 (Lib.IsBuilder 100 5 w.heap.size w.heap.size (Lib.byteCells acc) wr))
  case atStart => exact ⟨i + 1, [], HI, HF, ⟨Lx.setv HXA.out (by omega)⟩, ⟨Lk.set HKA.out _ _⟩, ⟨isB_set HFR.out HG.out⟩⟩
  case round =>
    clear HF HI HFR HXA HKA hc0 hc1 hz1 q0 q1 q2 q3 q4 hw2; obtain ⟨i, acc, HI, HF, HX, HK, HD⟩ := hrel
    cases gk with
    | zero => exact absurd HF.out (by simp [quotF])
    | succ k2 =>
      have hf := HF.out; have hi := HI.out; have hs := HS.out; have HJ := am_ (show i ≤ 140737488351300 by omega); have HW0 := am_ (show IntKind.i64.wrap (i : Int) = (i : Int) from wrapE i 0 (by omega)); have hc0 := HX.out.s; have hc1 := HX.out.i; have hz1 := HX.out.fz; clear HF; rw [quotF] at hf; by_cases hlt : i < s.size
      · rw [if_pos hlt] at hf
        have hw2 : wrap64 ((i : Int) + 1) = ((i + 1 : Nat) : Int) := by unfold wrap64; omega
        have HI2 := am_ (show i + 1 ≤ s.size by omega); have HWN := am_ (show (i : Int) + 1 = ((i + 1 : Nat) : Int) by omega); have q0 : (0 ≤ (i : Int)) = True := eq_true (by omega); have q1 : ((i : Int) < (s.size : Int)) = True := eq_true (by omega); have q2 : decide ((i : Int) < (s.size : Int)) = true := dt_ (by omega); have q3 : decide (i < s.size) = true := dt_ hlt; have q4 : (i < s.size) = True := eq_true hlt; have hx : ∀ h : i < s.size, ((s[i].toNat : Nat) : Int) = bt s (i : Nat) := fun h => bt_at s (i : Int) (by simpa using h)
        have q7 : decide ((i : Int) ≥ (s.size : Int)) = false := df_ (by omega); have q8 : decide ((s.size : Int) ≤ (i : Int)) = false := df_ (by omega); have q9 : decide (s.size ≤ i) = false := df_ (by omega); by_cases hen : bt s (i : Nat) = en
        · rw [if_pos hen] at hf
          obtain ⟨rfl, rfl⟩ := Prod.mk.inj (si_ hf); have p1 : (bt s (i : Nat) != en) = false := bne_eq_false_iff_eq.mpr hen; have p2 : (bt s (i : Nat) == en) = true := beq_iff_eq.mpr hen; clear hf hi hs hlt hen; go_wp2; refine wp_region_quiet_lit (by kernel_rfl) (by kernel_rfl) ?_
          repeat (go_big_quiet_step (fail))
          refine wpQuiet_nil ?_
          intro _ hw'; obtain ⟨nq, hw''⟩ := hw'; subst hw''; go_wp2; refine wp_region_quiet_lit (by kernel_rfl) (by kernel_rfl) ?_
          repeat (go_big_quiet_step (fail))
          refine wpQuiet_nil ?_
          intro _ hw'; obtain ⟨nq, hw''⟩ := hw'; subst hw''; go_wp2_with (first | (go_at_call 64; refine (Tryd.Builder_String_any w.heap.size w.heap.size acc _ ?bd ?lt).mono ?_; (case bd => exact (by repeat (first | (with_reducible first | exact HD.out | apply isB_drewN | apply isB_drew | apply isB_put HG.out)))); (case lt => first | exact Nat.le_of_lt HD.out.lt0 | (refine Nat.le_of_lt ?_; have h_ := HD.out.lt0; simpa [World.setCell] using h_)); rintro e w7 ⟨rfl, hb7⟩; have HX7 := am_ (Lx.lower (i := i + 1) (Lx.setv (by repeat (first | (with_reducible first | exact HX.out | apply Lx.drewN | apply Lx.drew))) (by first | with_reducible rfl | with_reducible exact hw2 | omega)) hb7 HG.out); have HK7 := am_ (Lk.lower (by repeat (first | (with_reducible first | exact HK.out | apply Lk.drewN | apply Lk.drew | apply Lk.set))) hb7 (Nat.le_refl _)); clear hb7))
          go_ret
          exact ⟨rfl, HX7.out, HK7.out⟩
        rw [if_neg hen] at hf; have p1 : (bt s (i : Nat) != en) = true := bne_iff_ne.mpr hen; have p2 : (bt s (i : Nat) == en) = false := beq_eq_false_iff_ne.mpr hen; obtain ⟨f, hff, hf⟩ := bs_ hf; have A1 := am_ hff; clear hff; cases f
        · rw [if_neg (by decide)] at hf
          by_cases h0 : bt s (i : Nat) = 0
          · rw [if_pos h0] at hf
            cases hf
          rw [if_neg h0] at hf; have p3 : (bt s (i : Nat) == 0) = false := beq_eq_false_iff_ne.mpr h0; by_cases h9 : bt s (i : Nat) = 92
          · rw [if_pos h9] at hf
            have p4 : (bt s (i : Nat) != 92) = false := bne_eq_false_iff_eq.mpr h9; obtain ⟨e, he, hf⟩ := bs_ hf; have A2 := am_ he; clear he; cases e
            · rw [if_neg (by decide)] at hf
              cases hf
            rw [if_pos rfl] at hf; obtain ⟨⟨x, n⟩, hxx, hf⟩ := bs_ hf; have A3 := am_ hxx; clear hxx; try dsimp only at hf
            by_cases h1 : 0 ≤ n
            · rw [if_pos h1] at hf
              by_cases h2 : i + n.toNat ≤ s.size
              · rw [if_pos h2] at hf
                by_cases h3 : acc.length + x.size ≤ 10000000
                · rw [if_pos h3] at hf
                  have A4 := am_ hf; have HI3 := am_ h2; have HLEN := am_ (show (Lib.byteCells acc).length + x.size ≤ 140737488355328 by unfold Lib.byteCells; rw [List.length_map]; omega); have hwn : wrap64 ((i : Int) + n) = ((i + n.toNat : Nat) : Int) := by unfold wrap64; omega
                  have HWN2 := am_ hwn; clear hf h1 h2 h3 hwn hi hs hlt hen h0 h9; go_wp2; refine wp_region_quiet_lit (by kernel_rfl) (by kernel_rfl) ?_
                  repeat (go_big_quiet_step (fail))
                  refine wpQuiet_nil ?_
                  intro _ hw'; obtain ⟨nq, hw''⟩ := hw'; subst hw''; go_wp2; refine wp_region_quiet_lit (by kernel_rfl) (by kernel_rfl) ?_
                  repeat (go_big_quiet_step (fail))
                  refine wpQuiet_nil ?_
                  intro _ hw'; obtain ⟨nq, hw''⟩ := hw'; subst hw''; go_wp2_with (first | (go_at_call 103; with_reducible refine (token_feed.calls _ _ _ A1.out).mono ?_; rintro e wf ⟨rfl, ⟨nf, rfl⟩⟩) | (go_at_call 108; with_reducible refine (escape_0 k2 s g i i HS.out HJ.out HW0.out _ _ ?lx A2.out).mono ?_; (case lx => exact (by repeat (first | (with_reducible first | exact HX.out | apply Lx.drewN | apply Lx.drew)))); rintro e wi ⟨rfl, hb⟩; have HX2 := am_ (Lx.below (by repeat (first | (with_reducible first | exact HX.out | apply Lx.drewN | apply Lx.drew))) hb); have HK2 := am_ (Lk.call (by repeat (first | (with_reducible first | exact HK.out | apply Lk.drewN | apply Lk.drew | apply Lk.set))) hb); have HD2 := am_ (isB_call (by repeat (first | (with_reducible first | exact HD.out | apply isB_drewN | apply isB_drew))) hb); clear hb; clear HX HK HD; have HX := HX2; have HK := HK2; have HD := HD2; clear HX2 HK2 HD2; have hc0 := HX.out.s; have hc1 := HX.out.i; have hz1 := HX.out.fz))
                  have HX4 : Aside0 (Lx (wi).drew g s i) := am_ (Lx.drew (by repeat (first | (with_reducible first | exact HX.out | apply Lx.drewN | apply Lx.drew)))); have HK4 : Aside0 (Lk g w (wi).drew) := am_ (Lk.drew (by repeat (first | (with_reducible first | exact HK.out | apply Lk.drewN | apply Lk.drew | apply Lk.set)))); have HD4 : Aside0 (Lib.IsBuilder 100 5 w.heap.size w.heap.size (Lib.byteCells acc) (wi).drew) := am_ (isB_drew (by repeat (first | (with_reducible first | exact HD.out | apply isB_drewN | apply isB_drew)))); refine start_ (n := 14) (S := (fun w' => w'.cell? ⟨g, 0, none⟩ = some (.string s) ∧ w'.cell? ⟨g, 1, none⟩ = some (.int .i64 (i : Int)))) (ds := []) #[false, false, false, false, false, false, false, false, false, false, false, false, false, false] (by kernel_rfl) rfl rfl ⟨HX4.out.s, HX4.out.i⟩ (fun hHeld => ?_)
                  refine with_tabW lexer_quoted.tab13 lexer_quoted.bits13 (fun HT_ HW_ => ?_)
                  generalize (wi).drew = w4 at HX4 HK4 HD4 hHeld ⊢
                  refine pus_ 0 (some 90) #[true, false, false, false, false, false, false, false, false, false, false, false, false, false] rfl rfl HT_.out ?_
                  refine pus_ 1 (some 91) #[true, true, false, false, false, false, false, false, false, false, false, false, false, false] rfl rfl HT_.out ?_
                  refine pus_ 2 (some 92) #[true, true, true, false, false, false, false, false, false, false, false, false, false, false] rfl rfl HT_.out ?_
                  refine tas_ 3 (some 93) #[true, true, true, true, false, false, false, false, false, false, false, false, false, false] rfl rfl HT_.out HW_.out hHeld ?_
                  refine pus_ 4 (some 94) #[true, true, true, true, true, false, false, false, false, false, false, false, false, false] rfl rfl HT_.out ?_
                  refine pus_ 5 (some 95) #[true, true, true, true, true, true, false, false, false, false, false, false, false, false] rfl rfl HT_.out ?_
                  refine pus_ 6 (some 96) #[true, true, true, true, true, true, true, false, false, false, false, false, false, false] rfl rfl HT_.out ?_
                  refine tas_ 7 (some 97) #[true, true, true, true, true, true, true, true, false, false, false, false, false, false] rfl rfl HT_.out HW_.out hHeld ?_
                  refine one_ (i := 8) (N := (some 98)) #[true, true, true, true, true, true, true, true, true, false, false, false, false, false] rfl rfl (one_of HT_.out (by kernel_rfl)) (by decide) (fun K hK => ?_)
                  refine goes_ Tryd.func112 (by kernel_rfl) rfl #[.string s, .int .i64 (i : Int)] (by rfl) rfl rfl goa_ ?_
                  with_reducible refine (token_Hex.calls k2 s (i : Int) x n _ A3.out).mono ?_
                  rintro e w5 ⟨rfl, hb⟩
                  refine ⟨_, rfl, ?_⟩
                  have HX5 := am_ (HX4.out.below hb); have HK5 := am_ (HK4.out.call hb); have HD5 := am_ (isB_call HD4.out hb); clear hb; refine hK.out _ _ ⟨HX5.out.s, HX5.out.i⟩ (fun hHeld => ?_)
                  clear hK K; refine norm_ (a' := ?_) ?_ ?_
                  rotate_left
                  ·show Act.put _ (some 98) _ = _
                   simp only [Act.put, List.setIfInBounds_toArray, List.set_cons_zero, List.set_cons_succ, i64_w, i32_w]; rfl
                  refine pus_ 9 (some 89) #[true, true, true, true, true, true, true, true, true, true, false, false, false, false] rfl rfl HT_.out ?_
                  refine pus_ 10 (some 99) #[true, true, true, true, true, true, true, true, true, true, true, false, false, false] rfl rfl HT_.out ?_
                  refine pus_ 11 (some 100) #[true, true, true, true, true, true, true, true, true, true, true, true, false, false] rfl rfl HT_.out ?_
                  refine pus_ 12 (some 7) #[true, true, true, true, true, true, true, true, true, true, true, true, true, false] rfl rfl HT_.out ?_
                  refine pus_ 13 (some 8) #[true, true, true, true, true, true, true, true, true, true, true, true, true, true] rfl rfl HT_.out ?_
                  refine done_ (done_of HT_.out (by kernel_rfl)) ?_
                  clear HX HK HD HX4 HK4 HD4; have HX := HX5; have HK := HK5; have HD := HD5; clear HX5 HK5 HD5; have hc0 := HX.out.s; have hc1 := HX.out.i; have hz1 := HX.out.fz; go_wp2_with (first | (go_at_call 63; refine (writeString_calls w.heap.size w.heap.size (Lib.byteCells acc) x _ (by repeat (first | (with_reducible first | exact HD.out | apply isB_drewN | apply isB_drew))) HLEN.out (Nat.le_of_lt HD.out.lt0)).mono ?_; rintro e w7 ⟨rfl, hd7, hb7⟩; have HX2 := am_ (Lx.lower (by repeat (first | (with_reducible first | exact HX.out | apply Lx.drewN | apply Lx.drew))) hb7 HG.out); have HK2 := am_ (Lk.lower (by repeat (first | (with_reducible first | exact HK.out | apply Lk.drewN | apply Lk.drew | apply Lk.set))) hb7 (Nat.le_refl _)); have HD2 := am_ (builtS hd7); clear hd7 hb7; clear HX HK HD; have HX := HX2; have HK := HK2; have HD := HD2; clear HX2 HK2 HD2; have hc0 := HX.out.s; have hc1 := HX.out.i; have hz1 := HX.out.fz))
                  have hc0 := HX.out.s; have hc1 := HX.out.i; have hz1 := HX.out.fz; go_wp2; go_roundg k2
                  case measure => omega
                  case rel => exact ⟨i + n.toNat, acc ++ x.data.toList, HI3, A4, ⟨Lx.setv (by repeat (first | (with_reducible first | exact HX.out | apply Lx.drewN | apply Lx.drew))) HWN2.out⟩, ⟨(by repeat (first | (with_reducible first | exact HK.out | apply Lk.drewN | apply Lk.drew | apply Lk.set)))⟩, ⟨isB_set (by repeat (first | (with_reducible first | exact HD.out | apply isB_drewN | apply isB_drew))) HG.out⟩⟩
                rw [if_neg h3] at hf; cases hf
              rw [if_neg h2] at hf; cases hf
            rw [if_neg h1] at hf; cases hf
          rw [if_neg h9] at hf; have p4 : (bt s (i : Nat) != 92) = true := bne_iff_ne.mpr h9; by_cases h3 : acc.length ≤ 10000000
          · rw [if_pos h3] at hf
            have A4 := am_ hf; have HLEN := am_ (show (Lib.byteCells acc).length + 1 ≤ 140737488355328 by unfold Lib.byteCells; rw [List.length_map]; omega); clear hf h3 hi hs hlt hen h0 h9; go_wp2; refine wp_region_quiet_lit (by kernel_rfl) (by kernel_rfl) ?_
            repeat (go_big_quiet_step (fail))
            refine wpQuiet_nil ?_
            intro _ hw'; obtain ⟨nq, hw''⟩ := hw'; subst hw''; go_wp2; refine wp_region_quiet_lit (by kernel_rfl) (by kernel_rfl) ?_
            repeat (go_big_quiet_step (fail))
            refine wpQuiet_nil ?_
            intro _ hw'; obtain ⟨nq, hw''⟩ := hw'; subst hw''; go_wp2_with (first | (go_at_call 103; with_reducible refine (token_feed.calls _ _ _ A1.out).mono ?_; rintro e wf ⟨rfl, ⟨nf, rfl⟩⟩) | (go_at_call 111; refine (writeByte_calls w.heap.size w.heap.size (Lib.byteCells acc) (bt s (i : Nat)) _ ?bd HLEN.out ?lt).mono ?_; (case bd => exact (by repeat (first | (with_reducible first | exact HD.out | apply isB_drewN | apply isB_drew)))); (case lt => exact Nat.le_of_lt HD.out.lt0); rintro e w5 ⟨rfl, hd5, hb5⟩; have HX2 := am_ (Lx.lower (by repeat (first | (with_reducible first | exact HX.out | apply Lx.drewN | apply Lx.drew))) hb5 HG.out); have HK2 := am_ (Lk.lower (by repeat (first | (with_reducible first | exact HK.out | apply Lk.drewN | apply Lk.drew | apply Lk.set))) hb5 (Nat.le_refl _)); have HD2 := am_ (built1 (c := byteAt s i) (byteAt_val s i).symm hd5); clear hd5 hb5; clear HX HK HD; have HX := HX2; have HK := HK2; have HD := HD2; clear HX2 HK2 HD2; have hc0 := HX.out.s; have hc1 := HX.out.i; have hz1 := HX.out.fz))
            have hc0 := HX.out.s; have hc1 := HX.out.i; have hz1 := HX.out.fz; go_wp2; go_roundg k2
            case measure => omega
            case rel => exact ⟨i + 1, acc ++ [byteAt s i], HI2, A4, ⟨Lx.setv (by repeat (first | (with_reducible first | exact HX.out | apply Lx.drewN | apply Lx.drew))) (by omega)⟩, ⟨(by repeat (first | (with_reducible first | exact HK.out | apply Lk.drewN | apply Lk.drew | apply Lk.set)))⟩, ⟨isB_set (by repeat (first | (with_reducible first | exact HD.out | apply isB_drewN | apply isB_drew))) HG.out⟩⟩
          rw [if_neg h3] at hf; cases hf
        rw [if_pos rfl] at hf; cases hf
      rw [if_neg hlt] at hf; cases hf
end Go.Proofs.YtofdhdafabmhmaaDoor.Giv
end
