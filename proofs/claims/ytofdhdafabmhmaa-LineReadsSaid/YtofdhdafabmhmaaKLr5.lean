/- LineReadsSaid, part 6 of 13: contracts of the program's functions, the words that they use, and the plain laws on what they compute. Conditions: none beyond what the statements say. -/
import Derived.Test.YtofdhdafabmhmaaKLr0
import Derived.Test.YtofdhdafabmhmaaKLr1
import Derived.Test.YtofdhdafabmhmaaKLr2
import Derived.Test.YtofdhdafabmhmaaKLr4
import Derived.BigRegion
import Derived.BigQuiet
import Derived.Deep.QuietTactic
import Derived.Test.YtofdhdafabmhmaaProg
import Derived.Lib.Strings
import Derived.Lib.Slices
import Derived.Lib.Walk
import Derived.Lib.Builder
import Derived.Lib.AppendStr
import Derived.Lib.UnsafeStr
import Derived.WalkKit
import Derived.Tactics
import Derived.OwnWalk
import Derived.Laws.Externs
import Derived.KernelRfl
import Derived.Outline
set_option linter.unusedVariables false
set_option linter.unusedSimpArgs false
section
namespace Go.Proofs.Ytofdhdafabmhmaa.PLr
open Go.RowKit Go.Proofs.YtofdhdafabmhmaaW.PrintWords Go.Proofs.YtofdhdafabmhmaaW.PrintLast Go.Proofs.YtofdhdafabmhmaaW.PrintMore
attribute [local go_sem] max2_int min2_int max_two min_two max_three min_three max_four min_four
open Go.Proofs.Ytofdhdafabmhmaa.Opn Go.Proofs.Ytofdhdafabmhmaa.Giv
set_option maxRecDepth 100000

/-! ### utf8_appendRuneNonASCII: function 96 -/
def utf8_appendRuneNonASCII.j0 : Nat → List Int → Int → Int → Bool → Option (List Int)
 | 0, _, _, _, _ => none
 | k + 1, x0, x1, x5, x25 => if x25 = true then ((some (([Go.bits .or .u8 224 ((x1 / 4096) % 256), (128 + (x1 / 64) % 64), (128 + (x1) % 64)] : List Int) : List Int)).bind fun y190 => (if x0.length + y190.length < 140737488355328 then (some (x0 ++ y190)) else (none))) else (if x5 > 65535 then (if x5 ≤ 1114111 then ((some (([Go.bits .or .u8 240 ((x1 / 262144) % 256), (128 + (x1 / 4096) % 64), (128 + (x1 / 64) % 64), (128 + (x1) % 64)] : List Int) : List Int)).bind fun y196 => (if x0.length + y196.length < 140737488355328 then (some (x0 ++ y196)) else (none))) else ((some (([239, 191, 189] : List Int) : List Int)).bind fun y202 => (if x0.length + y202.length < 140737488355328 then (some (x0 ++ y202)) else (none)))) else ((some (([239, 191, 189] : List Int) : List Int)).bind fun y208 => (if x0.length + y208.length < 140737488355328 then (some (x0 ++ y208)) else (none))))
def utf8_appendRuneNonASCII.f (k : Nat) (l0 : List Int) (a1 : Int) : Option (List Int) := if ((a1) % 4294967296) ≤ 2047 then ((some (([Go.bits .or .u8 192 ((a1 / 64) % 256), (128 + (a1) % 64)] : List Int) : List Int)).bind fun y184 => (if l0.length + y184.length < 140737488355328 then (some (l0 ++ y184)) else (none))) else (if ((a1) % 4294967296) < 55296 then (utf8_appendRuneNonASCII.j0 k l0 a1 ((a1) % 4294967296) (decide (((a1) % 4294967296) < 55296))) else (if 57343 < ((a1) % 4294967296) then (utf8_appendRuneNonASCII.j0 k l0 a1 ((a1) % 4294967296) (decide (((a1) % 4294967296) ≤ 65535))) else (utf8_appendRuneNonASCII.j0 k l0 a1 ((a1) % 4294967296) false)))
theorem utf8_appendRuneNonASCII.mono_l : ∀ k, (∀ y0 y1 y2 y3, LeO (utf8_appendRuneNonASCII.j0 k y0 y1 y2 y3) (utf8_appendRuneNonASCII.j0 (k + 1) y0 y1 y2 y3))
 | 0 => fun _ _ _ _ r h => by simp [utf8_appendRuneNonASCII.j0] at h
 | k + 1 => by
  have ih0 := utf8_appendRuneNonASCII.mono_l k; intro y0 y1 y2 y3; unfold utf8_appendRuneNonASCII.j0; repeat' first
  | (with_reducible exact ih0 _ _ _ _)
  | (with_reducible first | exact LeO.refl _ | exact LeO.none _ | refine LeO.ite ?_ ?_ | refine LeO.bind ?_ (fun _ => ?_))
theorem utf8_appendRuneNonASCII.mono : ∀ a0 a1 k, LeO (utf8_appendRuneNonASCII.f k a0 a1) (utf8_appendRuneNonASCII.f (k + 1) a0 a1) := by
 intro a0 a1 k; have ih0 := utf8_appendRuneNonASCII.mono_l k; unfold utf8_appendRuneNonASCII.f; repeat' first
   | (with_reducible exact ih0 _ _ _ _)
   | (with_reducible first | exact LeO.refl _ | exact LeO.none _ | refine LeO.ite ?_ ?_ | refine LeO.bind ?_ (fun _ => ?_))
set_option maxHeartbeats 8000000 in
theorem utf8_appendRuneNonASCII.calls (k : Nat) (P0_ : Nat → Prop) (u9000_ : Value) (l0 : List Int) (a1 : Int) (r : List Int) (w0 w : World) (hB : Below w0.heap.size w0 w) (ho0 : Kd.R (Kd.int .u8) 5 w w0.heap.size P0_ u9000_ l0) (h : utf8_appendRuneNonASCII.f k l0 a1 = some r) :
  Calls Try.prog 96 #[u9000_, .int .i32 a1] w fun e w' => ∃ v0_ : Value, e = .returned (v0_) ∧ Kd.R (Kd.int .u8) 5 w' w0.heap.size (fun k_ => (P0_ k_ ∨ w.heap.size ≤ k_)) v0_ r ∧ Below w0.heap.size w0 w' ∧ Kept w w' (fun k_ => P0_ k_) := by
 have HO0 := am_ (show Kd.R (Kd.int .u8) 5 w w0.heap.size (fun k_ => (P0_ k_ ∨ w.heap.size ≤ k_)) u9000_ l0 from Kd.R_mono ho0 (fun k_ hk => (.inl hk))); have HK := am_ (Kept.refl w (fun k_ => P0_ k_)); have HW0 := am_ hB.size; have HB := am_ hB; clear hB; have H : (if ((a1) % 4294967296) ≤ 2047 then ((some (([Go.bits .or .u8 192 ((a1 / 64) % 256), (128 + (a1) % 64)] : List Int) : List Int)).bind fun y184 => (if l0.length + y184.length < 140737488355328 then (some (l0 ++ y184)) else (none))) else (if ((a1) % 4294967296) < 55296 then (utf8_appendRuneNonASCII.j0 k l0 a1 ((a1) % 4294967296) (decide (((a1) % 4294967296) < 55296))) else (if 57343 < ((a1) % 4294967296) then (utf8_appendRuneNonASCII.j0 k l0 a1 ((a1) % 4294967296) (decide (((a1) % 4294967296) ≤ 65535))) else (utf8_appendRuneNonASCII.j0 k l0 a1 ((a1) % 4294967296) false)))) = some r := h; clear h; by_cases c3 : ((a1) % 4294967296) ≤ 2047
 ·rw [if_pos c3] at H; have c3b0 : decide (((a1) % 4294967296) ≤ 2047) = true := dt_ c3; clear c3; obtain ⟨y184, hy184⟩ : ∃ y_ : List Int, y_ = (([Go.bits .or .u8 192 ((a1 / 64) % 256), (128 + (a1) % 64)] : List Int)) := ⟨_, rfl⟩
  replace H : (if l0.length + y184.length < 140737488355328 then (some (l0 ++ y184)) else (none)) = some r := by first | (rw [hy184]; with_reducible exact H) | (have H2_ := (Option.bind_some _ _).symm.trans H; rw [hy184]; with_reducible exact H2_) | (have H2_ := (Option.bind_some _ _).symm.trans H; with_reducible exact H2_) | with_reducible exact H | (rw [hy184]; exact H) | exact H
  have Ny184 := am_ hy184; clear hy184; by_cases c4 : l0.length + y184.length < 140737488355328
  ·rw [if_pos c4] at H; have LMc4 := am_ c4; clear c4; obtain ⟨y187, hy187⟩ : ∃ y_ : List Int, y_ = (l0 ++ y184) := ⟨_, rfl⟩
   replace H : (some y187) = some r := by first | (rw [hy187]; with_reducible exact H) | (have H2_ := (Option.bind_some _ _).symm.trans H; rw [hy187]; with_reducible exact H2_) | (have H2_ := (Option.bind_some _ _).symm.trans H; with_reducible exact H2_) | with_reducible exact H | (rw [hy187]; exact H) | exact H
   have Ny187 := am_ hy187; clear hy187; obtain rfl := si_ H; go_enter Try.func96, Try.ntmps96
   go_wp2_with (first | ((with_reducible refine gate_dst (N := 23) rfl ?_); refine Kd.R_lit (Kd.int .u8) _ 5 ?hg (N := 23) ?hd (xs := ([Go.bits .or .u8 192 ((a1 / 64) % 256), (128 + (a1) % 64)] : List Int)) (inner := [.int .u8 (Go.bits .or .u8 192 ((a1 / 64) % 256)), .int .u8 ((128 + (a1) % 64))]) (ok := fun _ => True) (okp := fun _ => True) ?hr ?hp (fun _ hk => hk) trivial (Below.refl _ _) (Nat.le_refl _) (by simp) ?_; (case hd => rfl); (case hg => rfl); (case hr => first | (go_simp; done) | (go_simp; rfl)); (case hp => exact (Reps.one (show Kd.M (Kd.int .u8) _ _ _ (Go.bits .or .u8 192 ((a1 / 64) % 256)) [.int .u8 (Go.bits .or .u8 192 ((a1 / 64) % 256))] from rfl) (Reps.one (show Kd.M (Kd.int .u8) _ _ _ ((128 + (a1) % 64)) [.int .u8 ((128 + (a1) % 64))] from rfl) (Reps.none _ _)))); intro v185 w5 ho6 hb hg_ hnew_; clear hg_ hnew_; (first | rw [← Ny184.out] at ho6 | (simp only [Int.reduceToNat] at ho6; rw [← Ny184.out] at ho6)); have HO186 := am_ (Kd.R_lower (Kd.R_new' (Kd.R_newM (M := fun k_ => (P0_ k_ ∨ w.heap.size ≤ k_)) ho6 (by first | exact HK.out.1 | exact (show Kept w _ (fun k_ => P0_ k_) from by repeat (first | (with_reducible first | exact HK.out | apply Kept.alloc | apply Kept.drewN | apply Kept.drew) | exact HK.out)).1) (fun k_ h_ => .inr h_)) (Kd.R_lt (row_ HO0))) (below_size bel_)); replace HO0 := am_ (Kd.R_elder' (row_ HO0) (Kd.R_base ho6) hb); replace HK := am_ (Kept.below (S := (fun k_ => P0_ k_)) (by repeat (first | (with_reducible first | exact HK.out | apply Kept.alloc | apply Kept.drewN | apply Kept.drew) | exact HK.out)) hb); replace HB := am_ (below_step bel_ hb); clear hb ho6; obtain ⟨Ao8, co8, eo8⟩ := Kd.R_slice HO186.out; subst eo8) | ((with_reducible refine gate_builtin (b := .append) (xs := #[.tmp 14, .tmp 23]) rfl ?_); at_builtin; refine Kd.R_append_rows (Kd.int .u8) (w0 := w0) w0.heap.size rfl (.tmp 14) (.tmp 23) 65 5 (.int .u8 0) 1 rfl Try.underlying65 info5 rfl (by decide) (by omega) u9000_ l0 y184 _ _ _ (fun k_ => (P0_ k_ ∨ w.heap.size ≤ k_) ∧ some k_ ≠ (.slice Ao8 y184.length co8 : Value).ownBlock) (fun _ => False) rfl rfl ?aO ?aR (fun _ _ h => h) (fun _ h => h.elim) ?aF ?aB ?aS ?aL ?_; (case aR => repeat (first | exact (Kd.R_reads' HO186.out).2.2 | (with_reducible refine Kd.C_alloc ?_ _) | (with_reducible refine Kd.C_drewN ?_ _) | (with_reducible refine Kd.C_drew ?_))); (case aB => exact bel_); (case aF => exact (fun k_ hk => ⟨(.inr (Nat.le_trans (by first | exact HK.out.1 | exact (show Kept w _ (fun k_ => P0_ k_) from by repeat (first | (with_reducible first | exact HK.out | apply Kept.alloc | apply Kept.drewN | apply Kept.drew) | exact HK.out)).1) hk)), Kd.fresh' (Kd.R_lt (row_ HO186)) k_ hk⟩)); (case aO => exact (row_ HO0)); (case aS => exact (below_size bel_)); (case aL => have := LMc4.out; omega); intro v188 w7 ho hb hg hat; rw [← Ny187.out] at ho; have n0_ := am_ (Kd.R_after (ok := (fun k_ => (P0_ k_ ∨ w.heap.size ≤ k_))) (by (with_reducible repeat (first | apply Kd.R_alloc | apply Kd.R_drewN | apply Kd.R_drew)); exact Kd.R_mono HO186.out (fun _ hk => ⟨hk.1.1, hk.2⟩)) hg hat); have n1_ := am_ (hb); have n2_ := am_ (Kept.of_grown (S := (fun k_ => P0_ k_)) hg (by repeat (first | (with_reducible first | exact HK.out | apply Kept.alloc | apply Kept.drewN | apply Kept.drew) | exact HK.out)) (fun k_ e_ => (HO0.out.1 k_ e_).1)); have n3_ := am_ (ho); clear HO186; clear HB; clear HK; clear HO0; have HO186 := n0_; have HB := n1_; have HK := n2_; have HO189 := n3_; clear n0_ n1_ n2_ n3_; clear ho hb hg hat))
   go_ret
   exact ⟨_, rsl_, by (with_reducible repeat (first | apply Kd.R_alloc | apply Kd.R_drewN | apply Kd.R_drew)); exact Kd.R_mono HO189.out (fun _ hk => hk.1), by repeat (first | (with_reducible first | exact HB.out | apply below_alloc | apply pw_below_drewN | apply below_drew1) | exact HB.out), by repeat (first | (with_reducible first | exact HK.out | apply Kept.alloc | apply Kept.drewN | apply Kept.drew) | exact HK.out)⟩
  rw [if_neg c4] at H; exact absurd H (by simp)
 rw [if_neg c3] at H; have c3b0 : decide (((a1) % 4294967296) ≤ 2047) = false := df_ c3; clear c3; have HC9 := am_ H; clear H; go_enter Try.func96, Try.ntmps96
 go_upto_if 25 with (fail)
 go_cut [25] (fun v25 wc => ∃ (kq : Nat) (x25_8 : Bool), v25 = .bool x25_8 ∧ Aside0 (utf8_appendRuneNonASCII.j0 kq l0 a1 ((a1) % 4294967296) x25_8 = some r) ∧ Aside0 (kq ≤ k) ∧ Aside0 (Kd.R (Kd.int .u8) 5 wc w0.heap.size (fun k_ => (P0_ k_ ∨ w.heap.size ≤ k_)) u9000_ l0) ∧ Aside0 (Kept w wc (fun k_ => P0_ k_)) ∧ Aside0 (Below w0.heap.size w0 wc))
 case first =>
  have H := HC9.out; clear HC9; by_cases c10 : ((a1) % 4294967296) < 55296
  ·rw [if_pos c10] at H; have c10b0 : decide (((a1) % 4294967296) < 55296) = true := dt_ c10; clear c10; (first | rw [c10b0] | (simp only [i64_w, i32_w]; rw [c10b0]) | skip)
   have H' := am_ H; clear H; go_wp2; go_meet
   case rel => exact ⟨_, (decide (((a1) % 4294967296) < 55296)), rfs_, (by first | exact H' | (subst_vars; exact H')), ⟨ole_⟩, ⟨by (with_reducible repeat (first | apply Kd.R_alloc | apply Kd.R_drewN | apply Kd.R_drew)); exact HO0.out⟩, ⟨by repeat (first | (with_reducible first | exact HK.out | apply Kept.alloc | apply Kept.drewN | apply Kept.drew) | exact HK.out)⟩, ⟨bel_⟩⟩
  rw [if_neg c10] at H; have c10b0 : decide (((a1) % 4294967296) < 55296) = false := df_ c10; clear c10; (first | rw [c10b0] | (simp only [i64_w, i32_w]; rw [c10b0]) | skip)
  by_cases c11 : 57343 < ((a1) % 4294967296)
  ·rw [if_pos c11] at H; have c11b0 : decide (57343 < ((a1) % 4294967296)) = true := dt_ c11; clear c11; have H' := am_ H; clear H; go_wp2; go_meet
   case rel => exact ⟨_, (decide (((a1) % 4294967296) ≤ 65535)), rfs_, (by first | exact H' | (subst_vars; exact H')), ⟨ole_⟩, ⟨by (with_reducible repeat (first | apply Kd.R_alloc | apply Kd.R_drewN | apply Kd.R_drew)); exact HO0.out⟩, ⟨by repeat (first | (with_reducible first | exact HK.out | apply Kept.alloc | apply Kept.drewN | apply Kept.drew) | exact HK.out)⟩, ⟨bel_⟩⟩
  rw [if_neg c11] at H; have c11b0 : decide (57343 < ((a1) % 4294967296)) = false := df_ c11; clear c11; have H' := am_ H; clear H; go_wp2; go_meet
  case rel => exact ⟨_, (false), rfs_, (by first | exact H' | (subst_vars; exact H')), ⟨ole_⟩, ⟨by (with_reducible repeat (first | apply Kd.R_alloc | apply Kd.R_drewN | apply Kd.R_drew)); exact HO0.out⟩, ⟨by repeat (first | (with_reducible first | exact HK.out | apply Kept.alloc | apply Kept.drewN | apply Kept.drew) | exact HK.out)⟩, ⟨bel_⟩⟩
 clear HC9; try clear c3b0
 obtain ⟨kq, x25_8, rfl, HA, HJ8, HO_0, HK, HB⟩ := hcut
 cases kq with
 | zero => exact absurd HA.out (by simp [utf8_appendRuneNonASCII.j0])
 | succ kj8 =>
  have H := HA.out; clear HA; simp only [utf8_appendRuneNonASCII.j0] at H; by_cases c12 : x25_8 = true
  ·subst c12; rw [if_pos rfl] at H; obtain ⟨y190, hy190⟩ : ∃ y_ : List Int, y_ = (([Go.bits .or .u8 224 ((a1 / 4096) % 256), (128 + (a1 / 64) % 64), (128 + (a1) % 64)] : List Int)) := ⟨_, rfl⟩
   replace H : (if l0.length + y190.length < 140737488355328 then (some (l0 ++ y190)) else (none)) = some r := by first | (rw [hy190]; with_reducible exact H) | (have H2_ := (Option.bind_some _ _).symm.trans H; rw [hy190]; with_reducible exact H2_) | (have H2_ := (Option.bind_some _ _).symm.trans H; with_reducible exact H2_) | with_reducible exact H | (rw [hy190]; exact H) | exact H
   have Ny190 := am_ hy190; clear hy190; by_cases c13 : l0.length + y190.length < 140737488355328
   ·rw [if_pos c13] at H; have LMc13 := am_ c13; clear c13; obtain ⟨y193, hy193⟩ : ∃ y_ : List Int, y_ = (l0 ++ y190) := ⟨_, rfl⟩
    replace H : (some y193) = some r := by first | (rw [hy193]; with_reducible exact H) | (have H2_ := (Option.bind_some _ _).symm.trans H; rw [hy193]; with_reducible exact H2_) | (have H2_ := (Option.bind_some _ _).symm.trans H; with_reducible exact H2_) | with_reducible exact H | (rw [hy193]; exact H) | exact H
    have Ny193 := am_ hy193; clear hy193; obtain rfl := si_ H; go_wp2_with (first | ((with_reducible refine gate_dst (N := 48) rfl ?_); refine Kd.R_lit (Kd.int .u8) _ 5 ?hg (N := 48) ?hd (xs := ([Go.bits .or .u8 224 ((a1 / 4096) % 256), (128 + (a1 / 64) % 64), (128 + (a1) % 64)] : List Int)) (inner := [.int .u8 (Go.bits .or .u8 224 ((a1 / 4096) % 256)), .int .u8 ((128 + (a1 / 64) % 64)), .int .u8 ((128 + (a1) % 64))]) (ok := fun _ => True) (okp := fun _ => True) ?hr ?hp (fun _ hk => hk) trivial (Below.refl _ _) (Nat.le_refl _) (by simp) ?_; (case hd => rfl); (case hg => rfl); (case hr => first | (go_simp; done) | (go_simp; rfl)); (case hp => exact (Reps.one (show Kd.M (Kd.int .u8) _ _ _ (Go.bits .or .u8 224 ((a1 / 4096) % 256)) [.int .u8 (Go.bits .or .u8 224 ((a1 / 4096) % 256))] from rfl) (Reps.one (show Kd.M (Kd.int .u8) _ _ _ ((128 + (a1 / 64) % 64)) [.int .u8 ((128 + (a1 / 64) % 64))] from rfl) (Reps.one (show Kd.M (Kd.int .u8) _ _ _ ((128 + (a1) % 64)) [.int .u8 ((128 + (a1) % 64))] from rfl) (Reps.none _ _))))); intro v191 w14 ho15 hb hg_ hnew_; clear hg_ hnew_; (first | rw [← Ny190.out] at ho15 | (simp only [Int.reduceToNat] at ho15; rw [← Ny190.out] at ho15)); have HO192 := am_ (Kd.R_lower (Kd.R_new' (Kd.R_newM (M := fun k_ => (P0_ k_ ∨ w.heap.size ≤ k_)) ho15 (by first | exact HK.out.1 | exact (show Kept w _ (fun k_ => P0_ k_) from by repeat (first | (with_reducible first | exact HK.out | apply Kept.alloc | apply Kept.drewN | apply Kept.drew) | exact HK.out)).1) (fun k_ h_ => .inr h_)) (Kd.R_lt (row_ HO_0))) (below_size bel_)); replace HO_0 := am_ (Kd.R_elder' (row_ HO_0) (Kd.R_base ho15) hb); replace HK := am_ (Kept.below (S := (fun k_ => P0_ k_)) (by repeat (first | (with_reducible first | exact HK.out | apply Kept.alloc | apply Kept.drewN | apply Kept.drew) | exact HK.out)) hb); replace HB := am_ (below_step bel_ hb); clear hb ho15; obtain ⟨Ao17, co17, eo17⟩ := Kd.R_slice HO192.out; subst eo17) | ((with_reducible refine gate_builtin (b := .append) (xs := #[.tmp 34, .tmp 48]) rfl ?_); at_builtin; refine Kd.R_append_rows (Kd.int .u8) (w0 := w0) w0.heap.size rfl (.tmp 34) (.tmp 48) 65 5 (.int .u8 0) 1 rfl Try.underlying65 info5 rfl (by decide) (by omega) u9000_ l0 y190 _ _ _ (fun k_ => (P0_ k_ ∨ w.heap.size ≤ k_) ∧ some k_ ≠ (.slice Ao17 y190.length co17 : Value).ownBlock) (fun _ => False) rfl rfl ?aO ?aR (fun _ _ h => h) (fun _ h => h.elim) ?aF ?aB ?aS ?aL ?_; (case aR => repeat (first | exact (Kd.R_reads' HO192.out).2.2 | (with_reducible refine Kd.C_alloc ?_ _) | (with_reducible refine Kd.C_drewN ?_ _) | (with_reducible refine Kd.C_drew ?_))); (case aB => exact bel_); (case aF => exact (fun k_ hk => ⟨(.inr (Nat.le_trans (by first | exact HK.out.1 | exact (show Kept w _ (fun k_ => P0_ k_) from by repeat (first | (with_reducible first | exact HK.out | apply Kept.alloc | apply Kept.drewN | apply Kept.drew) | exact HK.out)).1) hk)), Kd.fresh' (Kd.R_lt (row_ HO192)) k_ hk⟩)); (case aO => exact (row_ HO_0)); (case aS => exact (below_size bel_)); (case aL => have := LMc13.out; omega); intro v194 w16 ho hb hg hat; rw [← Ny193.out] at ho; have n0_ := am_ (Kd.R_after (ok := (fun k_ => (P0_ k_ ∨ w.heap.size ≤ k_))) (by (with_reducible repeat (first | apply Kd.R_alloc | apply Kd.R_drewN | apply Kd.R_drew)); exact Kd.R_mono HO192.out (fun _ hk => ⟨hk.1.1, hk.2⟩)) hg hat); have n1_ := am_ (hb); have n2_ := am_ (Kept.of_grown (S := (fun k_ => P0_ k_)) hg (by repeat (first | (with_reducible first | exact HK.out | apply Kept.alloc | apply Kept.drewN | apply Kept.drew) | exact HK.out)) (fun k_ e_ => (HO_0.out.1 k_ e_).1)); have n3_ := am_ (ho); clear HO192; clear HB; clear HK; clear HO_0; have HO192 := n0_; have HB := n1_; have HK := n2_; have HO195 := n3_; clear n0_ n1_ n2_ n3_; clear ho hb hg hat))
    go_ret
    exact ⟨_, rsl_, by (with_reducible repeat (first | apply Kd.R_alloc | apply Kd.R_drewN | apply Kd.R_drew)); exact Kd.R_mono HO195.out (fun _ hk => hk.1), by repeat (first | (with_reducible first | exact HB.out | apply below_alloc | apply pw_below_drewN | apply below_drew1) | exact HB.out), by repeat (first | (with_reducible first | exact HK.out | apply Kept.alloc | apply Kept.drewN | apply Kept.drew) | exact HK.out)⟩
   rw [if_neg c13] at H; exact absurd H (by simp)
  replace c12 := Bool.eq_false_iff.mpr c12; subst c12; rw [if_neg (show ¬ (false = true) by decide)] at H; by_cases c18 : ((a1) % 4294967296) > 65535
  ·rw [if_pos c18] at H; have c18b0 : decide (65535 < ((a1) % 4294967296)) = true := dt_ c18; clear c18; by_cases c19 : ((a1) % 4294967296) ≤ 1114111
   ·rw [if_pos c19] at H; have c19b0 : decide (((a1) % 4294967296) ≤ 1114111) = true := dt_ c19; clear c19; obtain ⟨y196, hy196⟩ : ∃ y_ : List Int, y_ = (([Go.bits .or .u8 240 ((a1 / 262144) % 256), (128 + (a1 / 4096) % 64), (128 + (a1 / 64) % 64), (128 + (a1) % 64)] : List Int)) := ⟨_, rfl⟩
    replace H : (if l0.length + y196.length < 140737488355328 then (some (l0 ++ y196)) else (none)) = some r := by first | (rw [hy196]; with_reducible exact H) | (have H2_ := (Option.bind_some _ _).symm.trans H; rw [hy196]; with_reducible exact H2_) | (have H2_ := (Option.bind_some _ _).symm.trans H; with_reducible exact H2_) | with_reducible exact H | (rw [hy196]; exact H) | exact H
    have Ny196 := am_ hy196; clear hy196; by_cases c20 : l0.length + y196.length < 140737488355328
    ·rw [if_pos c20] at H; have LMc20 := am_ c20; clear c20; obtain ⟨y199, hy199⟩ : ∃ y_ : List Int, y_ = (l0 ++ y196) := ⟨_, rfl⟩
     replace H : (some y199) = some r := by first | (rw [hy199]; with_reducible exact H) | (have H2_ := (Option.bind_some _ _).symm.trans H; rw [hy199]; with_reducible exact H2_) | (have H2_ := (Option.bind_some _ _).symm.trans H; with_reducible exact H2_) | with_reducible exact H | (rw [hy199]; exact H) | exact H
     have Ny199 := am_ hy199; clear hy199; obtain rfl := si_ H; go_wp2_with (first | ((with_reducible refine gate_dst (N := 76) rfl ?_); refine Kd.R_lit (Kd.int .u8) _ 5 ?hg (N := 76) ?hd (xs := ([Go.bits .or .u8 240 ((a1 / 262144) % 256), (128 + (a1 / 4096) % 64), (128 + (a1 / 64) % 64), (128 + (a1) % 64)] : List Int)) (inner := [.int .u8 (Go.bits .or .u8 240 ((a1 / 262144) % 256)), .int .u8 ((128 + (a1 / 4096) % 64)), .int .u8 ((128 + (a1 / 64) % 64)), .int .u8 ((128 + (a1) % 64))]) (ok := fun _ => True) (okp := fun _ => True) ?hr ?hp (fun _ hk => hk) trivial (Below.refl _ _) (Nat.le_refl _) (by simp) ?_; (case hd => rfl); (case hg => rfl); (case hr => first | (go_simp; done) | (go_simp; rfl)); (case hp => exact (Reps.one (show Kd.M (Kd.int .u8) _ _ _ (Go.bits .or .u8 240 ((a1 / 262144) % 256)) [.int .u8 (Go.bits .or .u8 240 ((a1 / 262144) % 256))] from rfl) (Reps.one (show Kd.M (Kd.int .u8) _ _ _ ((128 + (a1 / 4096) % 64)) [.int .u8 ((128 + (a1 / 4096) % 64))] from rfl) (Reps.one (show Kd.M (Kd.int .u8) _ _ _ ((128 + (a1 / 64) % 64)) [.int .u8 ((128 + (a1 / 64) % 64))] from rfl) (Reps.one (show Kd.M (Kd.int .u8) _ _ _ ((128 + (a1) % 64)) [.int .u8 ((128 + (a1) % 64))] from rfl) (Reps.none _ _)))))); intro v197 w21 ho22 hb hg_ hnew_; clear hg_ hnew_; (first | rw [← Ny196.out] at ho22 | (simp only [Int.reduceToNat] at ho22; rw [← Ny196.out] at ho22)); have HO198 := am_ (Kd.R_lower (Kd.R_new' (Kd.R_newM (M := fun k_ => (P0_ k_ ∨ w.heap.size ≤ k_)) ho22 (by first | exact HK.out.1 | exact (show Kept w _ (fun k_ => P0_ k_) from by repeat (first | (with_reducible first | exact HK.out | apply Kept.alloc | apply Kept.drewN | apply Kept.drew) | exact HK.out)).1) (fun k_ h_ => .inr h_)) (Kd.R_lt (row_ HO_0))) (below_size bel_)); replace HO_0 := am_ (Kd.R_elder' (row_ HO_0) (Kd.R_base ho22) hb); replace HK := am_ (Kept.below (S := (fun k_ => P0_ k_)) (by repeat (first | (with_reducible first | exact HK.out | apply Kept.alloc | apply Kept.drewN | apply Kept.drew) | exact HK.out)) hb); replace HB := am_ (below_step bel_ hb); clear hb ho22; obtain ⟨Ao24, co24, eo24⟩ := Kd.R_slice HO198.out; subst eo24) | ((with_reducible refine gate_builtin (b := .append) (xs := #[.tmp 57, .tmp 76]) rfl ?_); at_builtin; refine Kd.R_append_rows (Kd.int .u8) (w0 := w0) w0.heap.size rfl (.tmp 57) (.tmp 76) 65 5 (.int .u8 0) 1 rfl Try.underlying65 info5 rfl (by decide) (by omega) u9000_ l0 y196 _ _ _ (fun k_ => (P0_ k_ ∨ w.heap.size ≤ k_) ∧ some k_ ≠ (.slice Ao24 y196.length co24 : Value).ownBlock) (fun _ => False) rfl rfl ?aO ?aR (fun _ _ h => h) (fun _ h => h.elim) ?aF ?aB ?aS ?aL ?_; (case aR => repeat (first | exact (Kd.R_reads' HO198.out).2.2 | (with_reducible refine Kd.C_alloc ?_ _) | (with_reducible refine Kd.C_drewN ?_ _) | (with_reducible refine Kd.C_drew ?_))); (case aB => exact bel_); (case aF => exact (fun k_ hk => ⟨(.inr (Nat.le_trans (by first | exact HK.out.1 | exact (show Kept w _ (fun k_ => P0_ k_) from by repeat (first | (with_reducible first | exact HK.out | apply Kept.alloc | apply Kept.drewN | apply Kept.drew) | exact HK.out)).1) hk)), Kd.fresh' (Kd.R_lt (row_ HO198)) k_ hk⟩)); (case aO => exact (row_ HO_0)); (case aS => exact (below_size bel_)); (case aL => have := LMc20.out; omega); intro v200 w23 ho hb hg hat; rw [← Ny199.out] at ho; have n0_ := am_ (Kd.R_after (ok := (fun k_ => (P0_ k_ ∨ w.heap.size ≤ k_))) (by (with_reducible repeat (first | apply Kd.R_alloc | apply Kd.R_drewN | apply Kd.R_drew)); exact Kd.R_mono HO198.out (fun _ hk => ⟨hk.1.1, hk.2⟩)) hg hat); have n1_ := am_ (hb); have n2_ := am_ (Kept.of_grown (S := (fun k_ => P0_ k_)) hg (by repeat (first | (with_reducible first | exact HK.out | apply Kept.alloc | apply Kept.drewN | apply Kept.drew) | exact HK.out)) (fun k_ e_ => (HO_0.out.1 k_ e_).1)); have n3_ := am_ (ho); clear HO198; clear HB; clear HK; clear HO_0; have HO198 := n0_; have HB := n1_; have HK := n2_; have HO201 := n3_; clear n0_ n1_ n2_ n3_; clear ho hb hg hat))
     go_ret
     exact ⟨_, rsl_, by (with_reducible repeat (first | apply Kd.R_alloc | apply Kd.R_drewN | apply Kd.R_drew)); exact Kd.R_mono HO201.out (fun _ hk => hk.1), by repeat (first | (with_reducible first | exact HB.out | apply below_alloc | apply pw_below_drewN | apply below_drew1) | exact HB.out), by repeat (first | (with_reducible first | exact HK.out | apply Kept.alloc | apply Kept.drewN | apply Kept.drew) | exact HK.out)⟩
    rw [if_neg c20] at H; exact absurd H (by simp)
   rw [if_neg c19] at H; have c19b0 : decide (((a1) % 4294967296) ≤ 1114111) = false := df_ c19; clear c19; obtain ⟨y202, hy202⟩ : ∃ y_ : List Int, y_ = (([239, 191, 189] : List Int)) := ⟨_, rfl⟩
   replace H : (if l0.length + y202.length < 140737488355328 then (some (l0 ++ y202)) else (none)) = some r := by first | (rw [hy202]; with_reducible exact H) | (have H2_ := (Option.bind_some _ _).symm.trans H; rw [hy202]; with_reducible exact H2_) | (have H2_ := (Option.bind_some _ _).symm.trans H; with_reducible exact H2_) | with_reducible exact H | (rw [hy202]; exact H) | exact H
   have Ny202 := am_ hy202; clear hy202; by_cases c25 : l0.length + y202.length < 140737488355328
   ·rw [if_pos c25] at H; have LMc25 := am_ c25; clear c25; obtain ⟨y205, hy205⟩ : ∃ y_ : List Int, y_ = (l0 ++ y202) := ⟨_, rfl⟩
    replace H : (some y205) = some r := by first | (rw [hy205]; with_reducible exact H) | (have H2_ := (Option.bind_some _ _).symm.trans H; rw [hy205]; with_reducible exact H2_) | (have H2_ := (Option.bind_some _ _).symm.trans H; with_reducible exact H2_) | with_reducible exact H | (rw [hy205]; exact H) | exact H
    have Ny205 := am_ hy205; clear hy205; obtain rfl := si_ H; go_wp2_with (first | ((with_reducible refine gate_dst (N := 9) rfl ?_); refine Kd.R_lit (Kd.int .u8) _ 5 ?hg (N := 9) ?hd (xs := ([239, 191, 189] : List Int)) (inner := [.int .u8 239, .int .u8 191, .int .u8 189]) (ok := fun _ => True) (okp := fun _ => True) ?hr ?hp (fun _ hk => hk) trivial (Below.refl _ _) (Nat.le_refl _) (by simp) ?_; (case hd => rfl); (case hg => rfl); (case hr => first | (go_simp; done) | (go_simp; rfl)); (case hp => exact (Reps.one (show Kd.M (Kd.int .u8) _ _ _ 239 [.int .u8 239] from rfl) (Reps.one (show Kd.M (Kd.int .u8) _ _ _ 191 [.int .u8 191] from rfl) (Reps.one (show Kd.M (Kd.int .u8) _ _ _ 189 [.int .u8 189] from rfl) (Reps.none _ _))))); intro v203 w26 ho27 hb hg_ hnew_; clear hg_ hnew_; (first | rw [← Ny202.out] at ho27 | (simp only [Int.reduceToNat] at ho27; rw [← Ny202.out] at ho27)); have HO204 := am_ (Kd.R_lower (Kd.R_new' (Kd.R_newM (M := fun k_ => (P0_ k_ ∨ w.heap.size ≤ k_)) ho27 (by first | exact HK.out.1 | exact (show Kept w _ (fun k_ => P0_ k_) from by repeat (first | (with_reducible first | exact HK.out | apply Kept.alloc | apply Kept.drewN | apply Kept.drew) | exact HK.out)).1) (fun k_ h_ => .inr h_)) (Kd.R_lt (row_ HO_0))) (below_size bel_)); replace HO_0 := am_ (Kd.R_elder' (row_ HO_0) (Kd.R_base ho27) hb); replace HK := am_ (Kept.below (S := (fun k_ => P0_ k_)) (by repeat (first | (with_reducible first | exact HK.out | apply Kept.alloc | apply Kept.drewN | apply Kept.drew) | exact HK.out)) hb); replace HB := am_ (below_step bel_ hb); clear hb ho27; obtain ⟨Ao29, co29, eo29⟩ := Kd.R_slice HO204.out; subst eo29) | ((with_reducible refine gate_builtin (b := .append) (xs := #[.tmp 8, .tmp 9]) rfl ?_); at_builtin; refine Kd.R_append_rows (Kd.int .u8) (w0 := w0) w0.heap.size rfl (.tmp 8) (.tmp 9) 65 5 (.int .u8 0) 1 rfl Try.underlying65 info5 rfl (by decide) (by omega) u9000_ l0 y202 _ _ _ (fun k_ => (P0_ k_ ∨ w.heap.size ≤ k_) ∧ some k_ ≠ (.slice Ao29 y202.length co29 : Value).ownBlock) (fun _ => False) rfl rfl ?aO ?aR (fun _ _ h => h) (fun _ h => h.elim) ?aF ?aB ?aS ?aL ?_; (case aR => repeat (first | exact (Kd.R_reads' HO204.out).2.2 | (with_reducible refine Kd.C_alloc ?_ _) | (with_reducible refine Kd.C_drewN ?_ _) | (with_reducible refine Kd.C_drew ?_))); (case aB => exact bel_); (case aF => exact (fun k_ hk => ⟨(.inr (Nat.le_trans (by first | exact HK.out.1 | exact (show Kept w _ (fun k_ => P0_ k_) from by repeat (first | (with_reducible first | exact HK.out | apply Kept.alloc | apply Kept.drewN | apply Kept.drew) | exact HK.out)).1) hk)), Kd.fresh' (Kd.R_lt (row_ HO204)) k_ hk⟩)); (case aO => exact (row_ HO_0)); (case aS => exact (below_size bel_)); (case aL => have := LMc25.out; omega); intro v206 w28 ho hb hg hat; rw [← Ny205.out] at ho; have n0_ := am_ (Kd.R_after (ok := (fun k_ => (P0_ k_ ∨ w.heap.size ≤ k_))) (by (with_reducible repeat (first | apply Kd.R_alloc | apply Kd.R_drewN | apply Kd.R_drew)); exact Kd.R_mono HO204.out (fun _ hk => ⟨hk.1.1, hk.2⟩)) hg hat); have n1_ := am_ (hb); have n2_ := am_ (Kept.of_grown (S := (fun k_ => P0_ k_)) hg (by repeat (first | (with_reducible first | exact HK.out | apply Kept.alloc | apply Kept.drewN | apply Kept.drew) | exact HK.out)) (fun k_ e_ => (HO_0.out.1 k_ e_).1)); have n3_ := am_ (ho); clear HO204; clear HB; clear HK; clear HO_0; have HO204 := n0_; have HB := n1_; have HK := n2_; have HO207 := n3_; clear n0_ n1_ n2_ n3_; clear ho hb hg hat))
    go_ret
    exact ⟨_, rsl_, by (with_reducible repeat (first | apply Kd.R_alloc | apply Kd.R_drewN | apply Kd.R_drew)); exact Kd.R_mono HO207.out (fun _ hk => hk.1), by repeat (first | (with_reducible first | exact HB.out | apply below_alloc | apply pw_below_drewN | apply below_drew1) | exact HB.out), by repeat (first | (with_reducible first | exact HK.out | apply Kept.alloc | apply Kept.drewN | apply Kept.drew) | exact HK.out)⟩
   rw [if_neg c25] at H; exact absurd H (by simp)
  rw [if_neg c18] at H; have c18b0 : decide (65535 < ((a1) % 4294967296)) = false := df_ c18; clear c18; obtain ⟨y208, hy208⟩ : ∃ y_ : List Int, y_ = (([239, 191, 189] : List Int)) := ⟨_, rfl⟩
  replace H : (if l0.length + y208.length < 140737488355328 then (some (l0 ++ y208)) else (none)) = some r := by first | (rw [hy208]; with_reducible exact H) | (have H2_ := (Option.bind_some _ _).symm.trans H; rw [hy208]; with_reducible exact H2_) | (have H2_ := (Option.bind_some _ _).symm.trans H; with_reducible exact H2_) | with_reducible exact H | (rw [hy208]; exact H) | exact H
  have Ny208 := am_ hy208; clear hy208; by_cases c30 : l0.length + y208.length < 140737488355328
  ·rw [if_pos c30] at H; have LMc30 := am_ c30; clear c30; obtain ⟨y211, hy211⟩ : ∃ y_ : List Int, y_ = (l0 ++ y208) := ⟨_, rfl⟩
   replace H : (some y211) = some r := by first | (rw [hy211]; with_reducible exact H) | (have H2_ := (Option.bind_some _ _).symm.trans H; rw [hy211]; with_reducible exact H2_) | (have H2_ := (Option.bind_some _ _).symm.trans H; with_reducible exact H2_) | with_reducible exact H | (rw [hy211]; exact H) | exact H
   have Ny211 := am_ hy211; clear hy211; obtain rfl := si_ H; go_wp2_with (first | ((with_reducible refine gate_dst (N := 9) rfl ?_); refine Kd.R_lit (Kd.int .u8) _ 5 ?hg (N := 9) ?hd (xs := ([239, 191, 189] : List Int)) (inner := [.int .u8 239, .int .u8 191, .int .u8 189]) (ok := fun _ => True) (okp := fun _ => True) ?hr ?hp (fun _ hk => hk) trivial (Below.refl _ _) (Nat.le_refl _) (by simp) ?_; (case hd => rfl); (case hg => rfl); (case hr => first | (go_simp; done) | (go_simp; rfl)); (case hp => exact (Reps.one (show Kd.M (Kd.int .u8) _ _ _ 239 [.int .u8 239] from rfl) (Reps.one (show Kd.M (Kd.int .u8) _ _ _ 191 [.int .u8 191] from rfl) (Reps.one (show Kd.M (Kd.int .u8) _ _ _ 189 [.int .u8 189] from rfl) (Reps.none _ _))))); intro v209 w31 ho32 hb hg_ hnew_; clear hg_ hnew_; (first | rw [← Ny208.out] at ho32 | (simp only [Int.reduceToNat] at ho32; rw [← Ny208.out] at ho32)); have HO210 := am_ (Kd.R_lower (Kd.R_new' (Kd.R_newM (M := fun k_ => (P0_ k_ ∨ w.heap.size ≤ k_)) ho32 (by first | exact HK.out.1 | exact (show Kept w _ (fun k_ => P0_ k_) from by repeat (first | (with_reducible first | exact HK.out | apply Kept.alloc | apply Kept.drewN | apply Kept.drew) | exact HK.out)).1) (fun k_ h_ => .inr h_)) (Kd.R_lt (row_ HO_0))) (below_size bel_)); replace HO_0 := am_ (Kd.R_elder' (row_ HO_0) (Kd.R_base ho32) hb); replace HK := am_ (Kept.below (S := (fun k_ => P0_ k_)) (by repeat (first | (with_reducible first | exact HK.out | apply Kept.alloc | apply Kept.drewN | apply Kept.drew) | exact HK.out)) hb); replace HB := am_ (below_step bel_ hb); clear hb ho32; obtain ⟨Ao34, co34, eo34⟩ := Kd.R_slice HO210.out; subst eo34) | ((with_reducible refine gate_builtin (b := .append) (xs := #[.tmp 8, .tmp 9]) rfl ?_); at_builtin; refine Kd.R_append_rows (Kd.int .u8) (w0 := w0) w0.heap.size rfl (.tmp 8) (.tmp 9) 65 5 (.int .u8 0) 1 rfl Try.underlying65 info5 rfl (by decide) (by omega) u9000_ l0 y208 _ _ _ (fun k_ => (P0_ k_ ∨ w.heap.size ≤ k_) ∧ some k_ ≠ (.slice Ao34 y208.length co34 : Value).ownBlock) (fun _ => False) rfl rfl ?aO ?aR (fun _ _ h => h) (fun _ h => h.elim) ?aF ?aB ?aS ?aL ?_; (case aR => repeat (first | exact (Kd.R_reads' HO210.out).2.2 | (with_reducible refine Kd.C_alloc ?_ _) | (with_reducible refine Kd.C_drewN ?_ _) | (with_reducible refine Kd.C_drew ?_))); (case aB => exact bel_); (case aF => exact (fun k_ hk => ⟨(.inr (Nat.le_trans (by first | exact HK.out.1 | exact (show Kept w _ (fun k_ => P0_ k_) from by repeat (first | (with_reducible first | exact HK.out | apply Kept.alloc | apply Kept.drewN | apply Kept.drew) | exact HK.out)).1) hk)), Kd.fresh' (Kd.R_lt (row_ HO210)) k_ hk⟩)); (case aO => exact (row_ HO_0)); (case aS => exact (below_size bel_)); (case aL => have := LMc30.out; omega); intro v212 w33 ho hb hg hat; rw [← Ny211.out] at ho; have n0_ := am_ (Kd.R_after (ok := (fun k_ => (P0_ k_ ∨ w.heap.size ≤ k_))) (by (with_reducible repeat (first | apply Kd.R_alloc | apply Kd.R_drewN | apply Kd.R_drew)); exact Kd.R_mono HO210.out (fun _ hk => ⟨hk.1.1, hk.2⟩)) hg hat); have n1_ := am_ (hb); have n2_ := am_ (Kept.of_grown (S := (fun k_ => P0_ k_)) hg (by repeat (first | (with_reducible first | exact HK.out | apply Kept.alloc | apply Kept.drewN | apply Kept.drew) | exact HK.out)) (fun k_ e_ => (HO_0.out.1 k_ e_).1)); have n3_ := am_ (ho); clear HO210; clear HB; clear HK; clear HO_0; have HO210 := n0_; have HB := n1_; have HK := n2_; have HO213 := n3_; clear n0_ n1_ n2_ n3_; clear ho hb hg hat))
   go_ret
   exact ⟨_, rsl_, by (with_reducible repeat (first | apply Kd.R_alloc | apply Kd.R_drewN | apply Kd.R_drew)); exact Kd.R_mono HO213.out (fun _ hk => hk.1), by repeat (first | (with_reducible first | exact HB.out | apply below_alloc | apply pw_below_drewN | apply below_drew1) | exact HB.out), by repeat (first | (with_reducible first | exact HK.out | apply Kept.alloc | apply Kept.drewN | apply Kept.drew) | exact HK.out)⟩
  rw [if_neg c30] at H; exact absurd H (by simp)

/-! ### utf8_AppendRune: function 95 -/
def utf8_AppendRune.f (k : Nat) (l0 : List Int) (a1 : Int) : Option (List Int) := if ((a1) % 4294967296) ≤ 127 then (if l0.length < 140737488355328 then (some (l0 ++ [(a1) % 256])) else (none)) else ((utf8_appendRuneNonASCII.f k l0 a1).bind fun t217 => (some t217))
theorem utf8_AppendRune.mono : ∀ a0 a1 k, LeO (utf8_AppendRune.f k a0 a1) (utf8_AppendRune.f (k + 1) a0 a1) := by
 intro a0 a1 k; unfold utf8_AppendRune.f; repeat' first
   | (with_reducible exact utf8_appendRuneNonASCII.mono _ _ _)
   | (with_reducible first | exact LeO.refl _ | exact LeO.none _ | refine LeO.ite ?_ ?_ | refine LeO.bind ?_ (fun _ => ?_))
set_option maxHeartbeats 8000000 in
theorem utf8_AppendRune.calls (k : Nat) (P0_ : Nat → Prop) (u9000_ : Value) (l0 : List Int) (a1 : Int) (r : List Int) (w0 w : World) (hB : Below w0.heap.size w0 w) (ho0 : Kd.R (Kd.int .u8) 5 w w0.heap.size P0_ u9000_ l0) (h : utf8_AppendRune.f k l0 a1 = some r) :
  Calls Try.prog 95 #[u9000_, .int .i32 a1] w fun e w' => ∃ v0_ : Value, e = .returned (v0_) ∧ Kd.R (Kd.int .u8) 5 w' w0.heap.size (fun k_ => (P0_ k_ ∨ w.heap.size ≤ k_)) v0_ r ∧ Below w0.heap.size w0 w' ∧ Kept w w' (fun k_ => P0_ k_) := by
 have HO0 := am_ (show Kd.R (Kd.int .u8) 5 w w0.heap.size (fun k_ => (P0_ k_ ∨ w.heap.size ≤ k_)) u9000_ l0 from Kd.R_mono ho0 (fun k_ hk => (.inl hk))); have HK := am_ (Kept.refl w (fun k_ => P0_ k_)); have HW0 := am_ hB.size; have HB := am_ hB; clear hB; have H : (if ((a1) % 4294967296) ≤ 127 then (if l0.length < 140737488355328 then (some (l0 ++ [(a1) % 256])) else (none)) else ((utf8_appendRuneNonASCII.f k l0 a1).bind fun t217 => (some t217))) = some r := h; clear h; by_cases c3 : ((a1) % 4294967296) ≤ 127
 ·rw [if_pos c3] at H; have c3b0 : decide (((a1) % 4294967296) ≤ 127) = true := dt_ c3; clear c3; by_cases c4 : l0.length < 140737488355328
  ·rw [if_pos c4] at H; have LMc4 := am_ c4; clear c4; obtain ⟨y214, hy214⟩ : ∃ y_ : List Int, y_ = (l0 ++ [(a1) % 256]) := ⟨_, rfl⟩
   replace H : (some y214) = some r := by first | (rw [hy214]; with_reducible exact H) | (have H2_ := (Option.bind_some _ _).symm.trans H; rw [hy214]; with_reducible exact H2_) | (have H2_ := (Option.bind_some _ _).symm.trans H; with_reducible exact H2_) | with_reducible exact H | (rw [hy214]; exact H) | exact H
   have Ny214 := am_ hy214; clear hy214; obtain rfl := si_ H; go_enter Try.func95, Try.ntmps95
   go_wp2_with (first | ((with_reducible refine gate_builtin (b := .append) (xs := #[.tmp 8, .tmp 11]) rfl ?_); at_builtin; refine Kd.R_append (Kd.int .u8) (w0 := w0) w0.heap.size rfl (.tmp 8) (.tmp 11) 65 5 (.int .u8 0) 1 rfl Try.underlying65 info5 rfl (by decide) (by omega) u9000_ l0 ((a1) % 256) [.int .u8 ((a1) % 256)] (fun k_ => (P0_ k_ ∨ w.heap.size ≤ k_)) (fun _ => False) rfl rfl ?aP (fun _ hk => hk.elim) ?aF ?aO ?aB ?aS ?aL ?_; (case aP => exact rfl); (case aB => exact bel_); (case aF => exact (fun k_ hk => (.inr (Nat.le_trans (by first | exact HK.out.1 | exact (show Kept w _ (fun k_ => P0_ k_) from by repeat (first | (with_reducible first | exact HK.out | apply Kept.alloc | apply Kept.drewN | apply Kept.drew) | exact HK.out)).1) hk)))); (case aO => exact (row_ HO0)); (case aS => exact (below_size bel_)); (case aL => have := LMc4.out; omega); intro v215 w5 ho hb hg hat; rw [← Ny214.out] at ho; have n0_ := am_ (hb); have n1_ := am_ (Kept.of_grown (S := (fun k_ => P0_ k_)) hg (by repeat (first | (with_reducible first | exact HK.out | apply Kept.alloc | apply Kept.drewN | apply Kept.drew) | exact HK.out)) (fun k_ e_ => (HO0.out.1 k_ e_))); have n2_ := am_ (ho); clear HB; clear HK; clear HO0; have HB := n0_; have HK := n1_; have HO216 := n2_; clear n0_ n1_ n2_; clear ho hb hg hat))
   go_ret
   exact ⟨_, rsl_, by (with_reducible repeat (first | apply Kd.R_alloc | apply Kd.R_drewN | apply Kd.R_drew)); exact HO216.out, by repeat (first | (with_reducible first | exact HB.out | apply below_alloc | apply pw_below_drewN | apply below_drew1) | exact HB.out), by repeat (first | (with_reducible first | exact HK.out | apply Kept.alloc | apply Kept.drewN | apply Kept.drew) | exact HK.out)⟩
  rw [if_neg c4] at H; exact absurd H (by simp)
 rw [if_neg c3] at H; have c3b0 : decide (((a1) % 4294967296) ≤ 127) = false := df_ c3; clear c3; replace H := bs_ H; obtain ⟨t217, A60, H⟩ := H; try dsimp only at H
 have A6 := am_ A60; clear A60; obtain rfl := si_ H; obtain ⟨Ao7, co7, eo7⟩ := Kd.R_slice HO0.out; subst eo7; go_enter Try.func95, Try.ntmps95
 go_wp2_with (first | ((with_reducible refine gate_callee (f := 96) rfl ?_); refine goesL_ (some 15) rfl rfl Try.func96 (by kernel_rfl) rfl #[.slice Ao7 l0.length co7, .int .i32 a1] rfl goa_ ?_; (with_reducible refine (utf8_appendRuneNonASCII.calls k (fun k_ => some k_ = (.slice Ao7 l0.length co7 : Value).ownBlock) (.slice Ao7 l0.length co7) l0 a1 t217 w0 _ ?side1 ?side2 A6.out).mono ?_); (case side1 => repeat (first | (with_reducible first | exact HB.out | apply below_alloc | apply pw_below_drewN | apply below_drew1) | exact HB.out)); (case side2 => exact Kd.R_tight rfl HO0.out); rintro e w8 ⟨v218, rfl, ho0, hb, hkp⟩; refine ⟨_, rfl, ?_⟩; have n0_ := am_ (Kd.R_mono (ok' := fun k_ => (P0_ k_ ∨ w.heap.size ≤ k_)) ho0 (fun k_ hk_ => Or.elim hk_ (fun hs_ => (HO0.out.1 k_ (hs_).symm)) (fun hn_ => (.inr (Nat.le_trans (by first | exact HK.out.1 | exact (show Kept w _ (fun k_ => P0_ k_) from by repeat (first | (with_reducible first | exact HK.out | apply Kept.alloc | apply Kept.drewN | apply Kept.drew) | exact HK.out)).1) hn_))))); have n1_ := am_ (Kept.then_ (S := (fun k_ => P0_ k_)) (by repeat (first | (with_reducible first | exact HK.out | apply Kept.alloc | apply Kept.drewN | apply Kept.drew) | exact HK.out)) hkp (fun k_ hs_ => (fun e_ => (HO0.out.1 k_ e_.symm)) hs_)); have n2_ := am_ (hb); clear HK; clear HB; clear HO0; have HO219 := n0_; have HK := n1_; have HB := n2_; clear n0_ n1_ n2_; (try clear hb); (try clear hkp); (try clear ho0)))
 go_ret
 exact ⟨_, rsl_, by (with_reducible repeat (first | apply Kd.R_alloc | apply Kd.R_drewN | apply Kd.R_drew)); exact HO219.out, by repeat (first | (with_reducible first | exact HB.out | apply below_alloc | apply pw_below_drewN | apply below_drew1) | exact HB.out), by repeat (first | (with_reducible first | exact HK.out | apply Kept.alloc | apply Kept.drewN | apply Kept.drew) | exact HK.out)⟩


/-! ### token_character: function 92 -/
def token_character.j0 : Nat → Int → Bool → Option (ByteArray)
 | 0, _, _ => none
 | k + 1, x0, x6 => if x6 = true then ((utf8_AppendRune.f k ([] : List Int) 65533).bind fun t223 => (some (strOfNums t223))) else (if x0 > 1114111 then ((utf8_AppendRune.f k ([] : List Int) 65533).bind fun t226 => (some (strOfNums t226))) else ((utf8_AppendRune.f k ([] : List Int) (wrap32 (x0))).bind fun t229 => (some (strOfNums t229))))
def token_character.f (k : Nat) (a0 : Int) : Option (ByteArray) := if a0 = 0 then ((utf8_AppendRune.f k ([] : List Int) 65533).bind fun t220 => (some (strOfNums t220))) else (if a0 ≥ 55296 then (token_character.j0 k a0 (decide (a0 ≤ 57343))) else (token_character.j0 k a0 false))
theorem token_character.mono_l : ∀ k, (∀ y0 y1, LeO (token_character.j0 k y0 y1) (token_character.j0 (k + 1) y0 y1))
 | 0 => fun _ _ r h => by simp [token_character.j0] at h
 | k + 1 => by
  have ih0 := token_character.mono_l k; intro y0 y1; unfold token_character.j0; repeat' first
  | (with_reducible exact ih0 _ _)
  | (with_reducible exact utf8_AppendRune.mono _ _ _)
  | (with_reducible first | exact LeO.refl _ | exact LeO.none _ | refine LeO.ite ?_ ?_ | refine LeO.bind ?_ (fun _ => ?_))
theorem token_character.mono : ∀ a0 k, LeO (token_character.f k a0) (token_character.f (k + 1) a0) := by
 intro a0 k; have ih0 := token_character.mono_l k; unfold token_character.f; repeat' first
   | (with_reducible exact ih0 _ _)
   | (with_reducible exact utf8_AppendRune.mono _ _ _)
   | (with_reducible first | exact LeO.refl _ | exact LeO.none _ | refine LeO.ite ?_ ?_ | refine LeO.bind ?_ (fun _ => ?_))
set_option maxHeartbeats 8000000 in
theorem token_character.calls (k : Nat) (a0 : Int) (r : ByteArray) (w : World) (h : token_character.f k a0 = some r) :
  Calls Try.prog 92 #[.int .i64 a0] w fun e w' => e = .returned (.string r) ∧ Below w.heap.size w w' := by
 have HB := am_ (Below.refl w.heap.size w); have H : (if a0 = 0 then ((utf8_AppendRune.f k ([] : List Int) 65533).bind fun t220 => (some (strOfNums t220))) else (if a0 ≥ 55296 then (token_character.j0 k a0 (decide (a0 ≤ 57343))) else (token_character.j0 k a0 false))) = some r := h; clear h; by_cases c2 : a0 = 0
 ·rw [if_pos c2] at H; have c2b0 : (a0 == 0) = true := beq_iff_eq.mpr c2; have c2b1 : (a0 != 0) = false := bne_eq_false_iff_eq.mpr c2; clear c2; replace H := bs_ H; obtain ⟨t220, A30, H⟩ := H; try dsimp only at H
  have A3 := am_ A30; clear A30; obtain rfl := si_ H; go_enter Try.func92, Try.ntmps92
  go_wp2_with (first | ((with_reducible refine gate_callee (f := 95) rfl ?_); refine goesL_ (some 17) rfl rfl Try.func95 (by kernel_rfl) rfl #[.slice none 0 0, .int .i32 65533] rfl goa_ ?_; (refine (utf8_AppendRune.calls k (fun k_ => some k_ = (.slice none 0 0 : Value).ownBlock) (.slice none 0 0) ([] : List Int) 65533 t220 w _ ?side1 ?side2 A3.out).mono ?_); (case side1 => repeat (first | (with_reducible first | exact HB.out | apply below_alloc | apply pw_below_drewN | apply below_drew1) | exact HB.out)); (case side2 => exact Kd.R_nil _ _ _ _ _); rintro e w4 ⟨v221, rfl, ho0, hb, hkp⟩; refine ⟨_, rfl, ?_⟩; have HO222 := am_ (Kd.R_mono (ok' := fun k_ => True) ho0 (fun k_ hk_ => trivial)); replace HB := am_ (hb); (try clear hb); (try clear hkp); (try clear ho0); have hcv5 := own_string (P := Try.prog) Try.underlying65 Try.underlying5 Try.underlying9 (Kd.own_of_R HO222.out)))
  go_ret
  exact ⟨rsl_, bel_⟩
 rw [if_neg c2] at H; have c2b0 : (a0 == 0) = false := beq_eq_false_iff_ne.mpr c2; have c2b1 : (a0 != 0) = true := bne_iff_ne.mpr c2; have HC6 := am_ H; clear H; go_enter Try.func92, Try.ntmps92
 go_upto_region 2 with (fail)
 go_cut [6] (fun v6 wc => ∃ (kq : Nat) (x6_5 : Bool), v6 = .bool x6_5 ∧ Aside0 (token_character.j0 kq a0 x6_5 = some r) ∧ Aside0 (kq ≤ k) ∧ Aside0 (Below w.heap.size w wc))
 case first =>
  have H := HC6.out; clear HC6; by_cases c7 : a0 ≥ 55296
  ·rw [if_pos c7] at H; have c7b0 : decide (55296 ≤ a0) = true := dt_ c7; clear c7; (first | rw [c7b0] | (simp only [i64_w, i32_w]; rw [c7b0]) | skip)
   have H' := am_ H; clear H; go_wp2; go_meet
   case rel => exact ⟨_, (decide (a0 ≤ 57343)), rfs_, (by first | exact H' | (subst_vars; exact H')), ⟨ole_⟩, ⟨bel_⟩⟩
  rw [if_neg c7] at H; have c7b0 : decide (55296 ≤ a0) = false := df_ c7; clear c7; (first | rw [c7b0] | (simp only [i64_w, i32_w]; rw [c7b0]) | skip)
  have H' := am_ H; clear H; go_wp2; go_meet
  case rel => exact ⟨_, (false), rfs_, (by first | exact H' | (subst_vars; exact H')), ⟨ole_⟩, ⟨bel_⟩⟩
 clear HC6; try clear c2
 try clear c2b0
 try clear c2b1
 obtain ⟨kq, x6_5, rfl, HA, HJ5, HB⟩ := hcut
 cases kq with
 | zero => exact absurd HA.out (by simp [token_character.j0])
 | succ kj5 =>
  have H := HA.out; clear HA; simp only [token_character.j0] at H; by_cases c8 : x6_5 = true
  ·subst c8; rw [if_pos rfl] at H; replace H := bs_ H; obtain ⟨t223, A90, H⟩ := H; try dsimp only at H
   have A9 := am_ A90; clear A90; obtain rfl := si_ H; go_wp2_with (first | ((with_reducible refine gate_callee (f := 95) rfl ?_); refine goesL_ (some 17) rfl rfl Try.func95 (by kernel_rfl) rfl #[.slice none 0 0, .int .i32 65533] rfl goa_ ?_; (refine (utf8_AppendRune.calls kj5 (fun k_ => some k_ = (.slice none 0 0 : Value).ownBlock) (.slice none 0 0) ([] : List Int) 65533 t223 w _ ?side1 ?side2 A9.out).mono ?_); (case side1 => repeat (first | (with_reducible first | exact HB.out | apply below_alloc | apply pw_below_drewN | apply below_drew1) | exact HB.out)); (case side2 => exact Kd.R_nil _ _ _ _ _); rintro e w10 ⟨v224, rfl, ho0, hb, hkp⟩; refine ⟨_, rfl, ?_⟩; have HO225 := am_ (Kd.R_mono (ok' := fun k_ => True) ho0 (fun k_ hk_ => trivial)); replace HB := am_ (hb); (try clear hb); (try clear hkp); (try clear ho0); have hcv11 := own_string (P := Try.prog) Try.underlying65 Try.underlying5 Try.underlying9 (Kd.own_of_R HO225.out)))
   go_ret
   exact ⟨rsl_, bel_⟩
  replace c8 := Bool.eq_false_iff.mpr c8; subst c8; rw [if_neg (show ¬ (false = true) by decide)] at H; by_cases c12 : a0 > 1114111
  ·rw [if_pos c12] at H; have c12b0 : decide (1114111 < a0) = true := dt_ c12; clear c12; replace H := bs_ H; obtain ⟨t226, A130, H⟩ := H; try dsimp only at H
   have A13 := am_ A130; clear A130; obtain rfl := si_ H; go_wp2_with (first | ((with_reducible refine gate_callee (f := 95) rfl ?_); refine goesL_ (some 17) rfl rfl Try.func95 (by kernel_rfl) rfl #[.slice none 0 0, .int .i32 65533] rfl goa_ ?_; (refine (utf8_AppendRune.calls kj5 (fun k_ => some k_ = (.slice none 0 0 : Value).ownBlock) (.slice none 0 0) ([] : List Int) 65533 t226 w _ ?side1 ?side2 A13.out).mono ?_); (case side1 => repeat (first | (with_reducible first | exact HB.out | apply below_alloc | apply pw_below_drewN | apply below_drew1) | exact HB.out)); (case side2 => exact Kd.R_nil _ _ _ _ _); rintro e w14 ⟨v227, rfl, ho0, hb, hkp⟩; refine ⟨_, rfl, ?_⟩; have HO228 := am_ (Kd.R_mono (ok' := fun k_ => True) ho0 (fun k_ hk_ => trivial)); replace HB := am_ (hb); (try clear hb); (try clear hkp); (try clear ho0); have hcv15 := own_string (P := Try.prog) Try.underlying65 Try.underlying5 Try.underlying9 (Kd.own_of_R HO228.out)))
   go_ret
   exact ⟨rsl_, bel_⟩
  rw [if_neg c12] at H; have c12b0 : decide (1114111 < a0) = false := df_ c12; clear c12; replace H := bs_ H; obtain ⟨t229, A160, H⟩ := H; try dsimp only at H
  have A16 := am_ A160; clear A160; obtain rfl := si_ H; go_wp2_with (first | ((with_reducible refine gate_callee (f := 95) rfl ?_); refine goesL_ (some 17) rfl rfl Try.func95 (by kernel_rfl) rfl #[.slice none 0 0, .int .i32 (wrap32 (a0))] rfl goa_ ?_; (refine (utf8_AppendRune.calls kj5 (fun k_ => some k_ = (.slice none 0 0 : Value).ownBlock) (.slice none 0 0) ([] : List Int) (wrap32 (a0)) t229 w _ ?side1 ?side2 A16.out).mono ?_); (case side1 => repeat (first | (with_reducible first | exact HB.out | apply below_alloc | apply pw_below_drewN | apply below_drew1) | exact HB.out)); (case side2 => exact Kd.R_nil _ _ _ _ _); rintro e w17 ⟨v230, rfl, ho0, hb, hkp⟩; refine ⟨_, rfl, ?_⟩; have HO231 := am_ (Kd.R_mono (ok' := fun k_ => True) ho0 (fun k_ hk_ => trivial)); replace HB := am_ (hb); (try clear hb); (try clear hkp); (try clear ho0); have hcv18 := own_string (P := Try.prog) Try.underlying65 Try.underlying5 Try.underlying9 (Kd.own_of_R HO231.out)))
  go_ret
  exact ⟨rsl_, bel_⟩


/-! ### token_Hex: function 79 -/
mutual
def token_Hex.j0 : Nat → ByteArray → Int → Bool → Option (ByteArray × Int)
 | 0, _, _, _ => none
 | k + 1, x0, x1, x31 => if x31 = true then (some ((⟨#[]⟩ : ByteArray), 0)) else (token_Hex.l0 k x0 x1 0 0 0)
def token_Hex.j2 : Nat → ByteArray → Int → Int → Int → Option (ByteArray × Int)
 | 0, _, _, _, _ => none
 | k + 1, x0, x1, x6, x7 => if x7 = 0 then (if 0 ≤ (wrap64 (x1 + 1)) then (if (wrap64 (x1 + 1)) ≤ (wrap64 (x1 + 2)) then (if (wrap64 (x1 + 2)) ≤ (x0.size : Int) then (some (x0.extract ((wrap64 (x1 + 1)) : Int).toNat ((wrap64 (x1 + 2)) : Int).toNat, 2)) else (none)) else (none)) else (none)) else (if (wrap64 ((wrap64 (x1 + 1)) + x7)) < (x0.size : Int) then (if 0 ≤ (wrap64 ((wrap64 (x1 + 1)) + x7)) then ((token_blank.f (bt x0 (wrap64 ((wrap64 (x1 + 1)) + x7)))).bind fun t235 => (if t235 = true then ((token_character.f k x6).bind fun t236 => (some (t236, wrap64 ((wrap64 ((wrap64 ((wrap64 (x1 + 1)) + x7)) + 1)) - x1)))) else ((token_character.f k x6).bind fun t237 => (some (t237, wrap64 ((wrap64 ((wrap64 (x1 + 1)) + x7)) - x1)))))) else (none)) else ((token_character.f k x6).bind fun t238 => (some (t238, wrap64 ((wrap64 ((wrap64 (x1 + 1)) + x7)) - x1)))))
def token_Hex.l0 : Nat → ByteArray → Int → Int → Int → Int → Option (ByteArray × Int)
 | 0, _, _, _, _, _ => none
 | k + 1, x0, x1, x6, x7, x32 => if x32 < 6 then (if (wrap64 ((wrap64 (x1 + 1)) + x32)) ≥ (x0.size : Int) then (token_Hex.j2 k x0 x1 x6 x7) else (if 0 ≤ (wrap64 ((wrap64 (x1 + 1)) + x32)) then (if (wrap64 ((wrap64 (x1 + 1)) + x32)) < (x0.size : Int) then ((token_hex.f k (bt x0 (wrap64 ((wrap64 (x1 + 1)) + x32)))).bind fun t233 => (if t233 < 0 then (token_Hex.j2 k x0 x1 x6 x7) else ((token_hex.f k (bt x0 (wrap64 ((wrap64 (x1 + 1)) + x32)))).bind fun t234 => (token_Hex.l0 k x0 x1 (wrap64 ((wrap64 (x6 * 16)) + t234)) (wrap64 (x7 + 1)) (wrap64 (x32 + 1)))))) else (none)) else (none))) else (token_Hex.j2 k x0 x1 x6 x7)
end
def token_Hex.f (k : Nat) (a0 : ByteArray) (a1 : Int) : Option (ByteArray × Int) := if a1 < 0 then (token_Hex.j0 k a0 a1 true) else (if a1 > (wrap64 ((a0.size : Int) - 2)) then (token_Hex.j0 k a0 a1 true) else (if 0 ≤ a1 then (if a1 < (a0.size : Int) then (if (bt a0 a1) = 92 then (if 0 ≤ (wrap64 (a1 + 1)) then (if (wrap64 (a1 + 1)) < (a0.size : Int) then ((token_feed.f (bt a0 (wrap64 (a1 + 1)))).bind fun t232 => (token_Hex.j0 k a0 a1 t232)) else (none)) else (none)) else (token_Hex.j0 k a0 a1 true)) else (none)) else (none)))
theorem token_Hex.mono_l : ∀ k, (∀ y0 y1 y2, LeO (token_Hex.j0 k y0 y1 y2) (token_Hex.j0 (k + 1) y0 y1 y2)) ∧ (∀ y0 y1 y2 y3, LeO (token_Hex.j2 k y0 y1 y2 y3) (token_Hex.j2 (k + 1) y0 y1 y2 y3)) ∧ (∀ y0 y1 y2 y3 y4, LeO (token_Hex.l0 k y0 y1 y2 y3 y4) (token_Hex.l0 (k + 1) y0 y1 y2 y3 y4))
 | 0 => ⟨fun _ _ _ r h => by simp [token_Hex.j0] at h, fun _ _ _ _ r h => by simp [token_Hex.j2] at h, fun _ _ _ _ _ r h => by simp [token_Hex.l0] at h⟩
 | k + 1 => by
  obtain ⟨ih0, ih1, ih2⟩ := token_Hex.mono_l k; refine ⟨?_, ?_, ?_⟩
  ·intro y0 y1 y2; unfold token_Hex.j0; repeat' first
   | (with_reducible exact ih0 _ _ _)
   | (with_reducible exact ih1 _ _ _ _)
   | (with_reducible exact ih2 _ _ _ _ _)
   | (with_reducible exact token_character.mono _ _)
   | (with_reducible exact token_hex.mono _ _)
   | (with_reducible first | exact LeO.refl _ | exact LeO.none _ | refine LeO.ite ?_ ?_ | refine LeO.bind ?_ (fun _ => ?_))
  ·intro y0 y1 y2 y3; unfold token_Hex.j2; repeat' first
   | (with_reducible exact ih0 _ _ _)
   | (with_reducible exact ih1 _ _ _ _)
   | (with_reducible exact ih2 _ _ _ _ _)
   | (with_reducible exact token_character.mono _ _)
   | (with_reducible exact token_hex.mono _ _)
   | (with_reducible first | exact LeO.refl _ | exact LeO.none _ | refine LeO.ite ?_ ?_ | refine LeO.bind ?_ (fun _ => ?_))
  intro y0 y1 y2 y3 y4; unfold token_Hex.l0; repeat' first
  | (with_reducible exact ih0 _ _ _)
  | (with_reducible exact ih1 _ _ _ _)
  | (with_reducible exact ih2 _ _ _ _ _)
  | (with_reducible exact token_character.mono _ _)
  | (with_reducible exact token_hex.mono _ _)
  | (with_reducible first | exact LeO.refl _ | exact LeO.none _ | refine LeO.ite ?_ ?_ | refine LeO.bind ?_ (fun _ => ?_))
theorem token_Hex.mono : ∀ a0 a1 k, LeO (token_Hex.f k a0 a1) (token_Hex.f (k + 1) a0 a1) := by
 intro a0 a1 k; obtain ⟨ih0, ih1, ih2⟩ := token_Hex.mono_l k; unfold token_Hex.f; repeat' first
   | (with_reducible exact ih0 _ _ _)
   | (with_reducible exact ih1 _ _ _ _)
   | (with_reducible exact ih2 _ _ _ _ _)
   | (with_reducible exact token_character.mono _ _)
   | (with_reducible exact token_hex.mono _ _)
   | (with_reducible first | exact LeO.refl _ | exact LeO.none _ | refine LeO.ite ?_ ?_ | refine LeO.bind ?_ (fun _ => ?_))
set_option maxHeartbeats 8000000 in
theorem token_Hex.calls (k : Nat) (a0 : ByteArray) (a1 : Int) (r1 : ByteArray) (r2 : Int) (w : World) (h : token_Hex.f k a0 a1 = some (r1, r2)) :
  Calls Try.prog 79 #[.string a0, .int .i64 a1] w fun e w' => e = .returned (.tuple #[.string r1, .int .i64 r2]) ∧ Below w.heap.size w w' := by
 have HB := am_ (Below.refl w.heap.size w); have H : (if a1 < 0 then (token_Hex.j0 k a0 a1 true) else (if a1 > (wrap64 ((a0.size : Int) - 2)) then (token_Hex.j0 k a0 a1 true) else (if 0 ≤ a1 then (if a1 < (a0.size : Int) then (if (bt a0 a1) = 92 then (if 0 ≤ (wrap64 (a1 + 1)) then (if (wrap64 (a1 + 1)) < (a0.size : Int) then ((token_feed.f (bt a0 (wrap64 (a1 + 1)))).bind fun t232 => (token_Hex.j0 k a0 a1 t232)) else (none)) else (none)) else (token_Hex.j0 k a0 a1 true)) else (none)) else (none)))) = some (r1, r2) := h; clear h; have HC3 := am_ H; clear H; go_enter Try.func79, Try.ntmps79
 go_upto_region 1 with (fail)
 go_cut [31] (fun v31 wc => ∃ (kq : Nat) (x31_2 : Bool), v31 = .bool x31_2 ∧ Aside0 (token_Hex.j0 kq a0 a1 x31_2 = some (r1, r2)) ∧ Aside0 (kq ≤ k) ∧ Aside0 (Below w.heap.size w wc))
 case first =>
  have H := HC3.out; clear HC3; by_cases c4 : a1 < 0
  ·rw [if_pos c4] at H; have c4b0 : decide (a1 < 0) = true := dt_ c4; clear c4; (first | rw [c4b0] | (simp only [i64_w, i32_w]; rw [c4b0]) | skip)
   have H' := am_ H; clear H; go_wp2; go_meet
   case rel => exact ⟨_, (true), rfs_, (by first | exact H' | (subst_vars; exact H')), ⟨ole_⟩, ⟨bel_⟩⟩
  rw [if_neg c4] at H; have c4b0 : decide (a1 < 0) = false := df_ c4; clear c4; (first | rw [c4b0] | (simp only [i64_w, i32_w]; rw [c4b0]) | skip)
  by_cases c5 : a1 > (wrap64 ((a0.size : Int) - 2))
  ·rw [if_pos c5] at H; have c5b0 : decide ((wrap64 ((a0.size : Int) - 2)) < a1) = true := dt_ c5; clear c5; have H' := am_ H; clear H; go_wp2; go_meet
   case rel => exact ⟨_, (true), rfs_, (by first | exact H' | (subst_vars; exact H')), ⟨ole_⟩, ⟨bel_⟩⟩
  rw [if_neg c5] at H; have c5b0 : decide ((wrap64 ((a0.size : Int) - 2)) < a1) = false := df_ c5; clear c5; by_cases c6 : 0 ≤ a1
  ·rw [if_pos c6] at H; have c6b0 : decide (0 ≤ a1) = true := dt_ c6; clear c6; by_cases c7 : a1 < (a0.size : Int)
   ·rw [if_pos c7] at H; have c7b0 : decide (a1 < (a0.size : Int)) = true := dt_ c7; clear c7; by_cases c9 : (bt a0 a1) = 92
    ·rw [if_pos c9] at H; have c9b0 : ((bt a0 a1) == 92) = true := beq_iff_eq.mpr c9; have c9b1 : ((bt a0 a1) != 92) = false := bne_eq_false_iff_eq.mpr c9; clear c9; obtain ⟨ji10, hji10⟩ : ∃ j_ : Int, (wrap64 (a1 + 1)) = j_ := ⟨_, rfl⟩
     replace H : (if 0 ≤ (ji10) then (if (ji10) < (a0.size : Int) then ((token_feed.f (bt a0 (ji10))).bind fun t232 => (token_Hex.j0 k a0 a1 t232)) else (none)) else (none)) = some (r1, r2) := by first | (rw [hji10] at H; exact H) | (simp only [hji10] at H ⊢; exact H)
     have hji10w : (IntKind.i64.wrap (a1 + 1)) = ji10 := (i64_w _).trans hji10; by_cases c11 : 0 ≤ (ji10)
     ·rw [if_pos c11] at H; have c11b0 : decide (0 ≤ (ji10)) = true := dt_ c11; clear c11; by_cases c12 : (ji10) < (a0.size : Int)
      ·rw [if_pos c12] at H; have c12b0 : decide ((ji10) < (a0.size : Int)) = true := dt_ c12; clear c12; replace H := bs_ H; obtain ⟨t232, A140, H⟩ := H; try dsimp only at H
       have A14 := am_ A140; clear A140; have H' := am_ H; clear H; have p8 : 0 ≤ (a1 : Int) := od_ (by first | (with_reducible assumption) | assumption); have q8 : a1 < (a0.size : Int) := od_ (by first | (with_reducible assumption) | assumption); have hx8 := bt_at a0 a1; replace p8 := eq_true p8; replace q8 := eq_true q8; have p13 : 0 ≤ ((ji10) : Int) := od_ (by first | (with_reducible assumption) | assumption); have q13 : (ji10) < (a0.size : Int) := od_ (by first | (with_reducible assumption) | assumption); have hx13 := bt_at a0 (ji10); replace p13 := eq_true p13; replace q13 := eq_true q13; go_wp2_with (first | (go_at_call 71; (with_reducible refine (token_feed.calls (bt a0 (ji10)) t232 _ A14.out).mono ?_); rintro e w' ⟨rfl, ⟨nd, rfl⟩⟩))
       go_meet
       case rel => exact ⟨_, (t232), rfs_, (by first | exact H' | (subst_vars; exact H')), ⟨ole_⟩, ⟨bel_⟩⟩
      rw [if_neg c12] at H; exact absurd H (by simp)
     rw [if_neg c11] at H; exact absurd H (by simp)
    rw [if_neg c9] at H; have c9b0 : ((bt a0 a1) == 92) = false := beq_eq_false_iff_ne.mpr c9; have c9b1 : ((bt a0 a1) != 92) = true := bne_iff_ne.mpr c9; have H' := am_ H; clear H; have p8 : 0 ≤ (a1 : Int) := od_ (by first | (with_reducible assumption) | assumption); have q8 : a1 < (a0.size : Int) := od_ (by first | (with_reducible assumption) | assumption); have hx8 := bt_at a0 a1; replace p8 := eq_true p8; replace q8 := eq_true q8; go_wp2; go_meet
    case rel => exact ⟨_, (true), rfs_, (by first | exact H' | (subst_vars; exact H')), ⟨ole_⟩, ⟨bel_⟩⟩
   rw [if_neg c7] at H; exact absurd H (by simp)
  rw [if_neg c6] at H; exact absurd H (by simp)
 clear HC3; obtain ⟨kq, x31_2, rfl, HA, HJ2, HB⟩ := hcut
 cases kq with
 | zero => exact absurd HA.out (by simp [token_Hex.j0])
 | succ kj2 =>
  have H := HA.out; clear HA; simp only [token_Hex.j0] at H; by_cases c15 : x31_2 = true
  ·subst c15; rw [if_pos rfl] at H; simp only [Option.some.injEq, Prod.mk.injEq] at H; obtain ⟨rfl, rfl⟩ := H; go_wp2; go_ret2
   exact ⟨rsl_, bel_⟩
  replace c15 := Bool.eq_false_iff.mpr c15; subst c15; rw [if_neg (show ¬ (false = true) by decide)] at H; have HC16 := am_ H; clear H; go_upto_block 0 with (fail)
  go_cut [6, 7] (fun v6 v7 wc => ∃ (kq : Nat) (x6_15 : Int) (x7_15 : Int), v6 = .int .i64 x6_15 ∧ v7 = .int .i64 x7_15 ∧ Aside0 (token_Hex.j2 kq a0 a1 x6_15 x7_15 = some (r1, r2)) ∧ Aside0 (kq ≤ kj2) ∧ Aside0 (Below w.heap.size w wc))
  case first =>
   have H := HC16.out; clear HC16; have H' := am_ H; clear H; go_wp2; go_loopg [6, 7, 32] kj2 (fun kq v6 v7 v32 w' => ∃ (x6_2 : Int) (x7_2 : Int) (x32_2 : Int), v6 = .int .i64 x6_2 ∧ v7 = .int .i64 x7_2 ∧ v32 = .int .i64 x32_2 ∧ Aside0 (token_Hex.l0 kq a0 a1 x6_2 x7_2 x32_2 = some (r1, r2)) ∧ Aside0 (kq ≤ kj2) ∧ Aside0 (Below w.heap.size w w'))
   case atStart => exact ⟨(0), (0), (0), rfs_, rfs_, rfs_, H', ⟨Nat.le_refl _⟩, ⟨bel_⟩⟩
   case round =>
    clear H'; try clear c15
    obtain ⟨x6_2, x7_2, x32_2, rfl, rfl, rfl, HA, HK2, HB⟩ := hrel
    cases gk with
    | zero => exact absurd HA.out (by simp [token_Hex.l0])
    | succ k2 =>
     have H := HA.out; clear HA; simp only [token_Hex.l0] at H; by_cases c17 : x32_2 < 6
     ·rw [if_pos c17] at H; have c17b0 : decide (x32_2 < 6) = true := dt_ c17; clear c17; (first | rw [c17b0] | (simp only [i64_w, i32_w]; rw [c17b0]) | skip)
      by_cases c18 : (wrap64 ((wrap64 (a1 + 1)) + x32_2)) ≥ (a0.size : Int)
      ·rw [if_pos c18] at H; have c18b0 : decide ((a0.size : Int) ≤ (wrap64 ((wrap64 (a1 + 1)) + x32_2))) = true := dt_ c18; clear c18; have H' := am_ H; clear H; go_wp2; go_meet
       case rel => exact ⟨_, (x6_2), (x7_2), rfs_, rfs_, H', ⟨by have := HJ2.out; have := HK2.out; first | omega | exact Nat.le_refl _⟩, ⟨bel_⟩⟩
      rw [if_neg c18] at H; have c18b0 : decide ((a0.size : Int) ≤ (wrap64 ((wrap64 (a1 + 1)) + x32_2))) = false := df_ c18; clear c18; obtain ⟨ji19, hji19⟩ : ∃ j_ : Int, (wrap64 ((wrap64 (a1 + 1)) + x32_2)) = j_ := ⟨_, rfl⟩
      replace H : (if 0 ≤ (ji19) then (if (ji19) < (a0.size : Int) then ((token_hex.f k2 (bt a0 (ji19))).bind fun t233 => (if t233 < 0 then (token_Hex.j2 k2 a0 a1 x6_2 x7_2) else ((token_hex.f k2 (bt a0 (ji19))).bind fun t234 => (token_Hex.l0 k2 a0 a1 (wrap64 ((wrap64 (x6_2 * 16)) + t234)) (wrap64 (x7_2 + 1)) (wrap64 (x32_2 + 1)))))) else (none)) else (none)) = some (r1, r2) := by first | (rw [hji19] at H; exact H) | (simp only [hji19] at H ⊢; exact H)
      (try rw [hji19] at c18b0)
      have hji19w : (IntKind.i64.wrap ((wrap64 (a1 + 1)) + x32_2)) = ji19 := (i64_w _).trans hji19; by_cases c20 : 0 ≤ (ji19)
      ·rw [if_pos c20] at H; have c20b0 : decide (0 ≤ (ji19)) = true := dt_ c20; clear c20; by_cases c21 : (ji19) < (a0.size : Int)
       ·rw [if_pos c21] at H; have c21b0 : decide ((ji19) < (a0.size : Int)) = true := dt_ c21; clear c21; replace H := bs_ H; obtain ⟨t233, A230, H⟩ := H; try dsimp only at H
        have A23 := am_ A230; clear A230; by_cases c24 : t233 < 0
        ·rw [if_pos c24] at H; have c24b0 : decide (t233 < 0) = true := dt_ c24; clear c24; have H' := am_ H; clear H; have p22 : 0 ≤ ((ji19) : Int) := od_ (by first | (with_reducible assumption) | assumption); have q22 : (ji19) < (a0.size : Int) := od_ (by first | (with_reducible assumption) | assumption); have hx22 := bt_at a0 (ji19); replace p22 := eq_true p22; replace q22 := eq_true q22; go_wp2_with (first | (go_at_call 91; (with_reducible refine (token_hex.calls k2 (bt a0 (ji19)) t233 _ A23.out).mono ?_); rintro e w' ⟨rfl, ⟨nd, rfl⟩⟩))
         go_meet
         case rel => exact ⟨_, (x6_2), (x7_2), rfs_, rfs_, H', ⟨by have := HJ2.out; have := HK2.out; first | omega | exact Nat.le_refl _⟩, ⟨bel_⟩⟩
        rw [if_neg c24] at H; have c24b0 : decide (t233 < 0) = false := df_ c24; clear c24; replace H := bs_ H; obtain ⟨t234, A260, H⟩ := H; try dsimp only at H
        have A26 := am_ A260; clear A260; have H' := am_ H; clear H; have p22 : 0 ≤ ((ji19) : Int) := od_ (by first | (with_reducible assumption) | assumption); have q22 : (ji19) < (a0.size : Int) := od_ (by first | (with_reducible assumption) | assumption); have hx22 := bt_at a0 (ji19); replace p22 := eq_true p22; replace q22 := eq_true q22; go_wp2_with (first | (go_at_call 91; (with_reducible refine (token_hex.calls k2 (bt a0 (ji19)) t233 _ A23.out).mono ?_); rintro e w' ⟨rfl, ⟨nd, rfl⟩⟩; have p25 : 0 ≤ ((ji19) : Int) := od_ (by first | (with_reducible assumption) | assumption); have q25 : (ji19) < (a0.size : Int) := od_ (by first | (with_reducible assumption) | assumption); have hx25 := bt_at a0 (ji19); replace p25 := eq_true p25; replace q25 := eq_true q25) | ((with_reducible refine gate_callee (f := 91) rfl ?_); refine goesL_ (some 60) rfl rfl Try.func91 (by kernel_rfl) rfl #[.int .u8 (bt a0 (ji19))] rfl (by (try simp only [List.map_toArray, List.map_cons, List.map_nil]); first | done | (simp only [hji19]; rfl) | rfl | (simp only [List.length_drop, List.length_take]; rfl)) ?_; (with_reducible refine (token_hex.calls k2 (bt a0 (ji19)) t234 _ A26.out).mono ?_); rintro e w' ⟨rfl, ⟨nd, rfl⟩⟩; refine ⟨_, rfl, ?_⟩))
        go_roundg k2
        case measure => have := HJ2.out; have := HK2.out; omega
        case rel => exact ⟨(wrap64 ((wrap64 (x6_2 * 16)) + t234)), (wrap64 (x7_2 + 1)), (wrap64 (x32_2 + 1)), rfs_, rfs_, rfs_, H', ⟨by have := HJ2.out; have := HK2.out; omega⟩, ⟨bel_⟩⟩
       rw [if_neg c21] at H; exact absurd H (by simp)
      rw [if_neg c20] at H; exact absurd H (by simp)
     rw [if_neg c17] at H; have c17b0 : decide (x32_2 < 6) = false := df_ c17; clear c17; (first | rw [c17b0] | (simp only [i64_w, i32_w]; rw [c17b0]) | skip)
     have H' := am_ H; clear H; go_wp2; go_meet
     case rel => exact ⟨_, (x6_2), (x7_2), rfs_, rfs_, H', ⟨by have := HJ2.out; have := HK2.out; first | omega | exact Nat.le_refl _⟩, ⟨bel_⟩⟩
  clear HC16; try clear c15
  obtain ⟨kq, x6_15, x7_15, rfl, rfl, HA, HJ15, HB⟩ := hcut
  cases kq with
  | zero => exact absurd HA.out (by simp [token_Hex.j2])
  | succ kj15 =>
   have H := HA.out; clear HA; simp only [token_Hex.j2] at H; by_cases c27 : x7_15 = 0
   ·rw [if_pos c27] at H; have c27b0 : (x7_15 == 0) = true := beq_iff_eq.mpr c27; have c27b1 : (x7_15 != 0) = false := bne_eq_false_iff_eq.mpr c27; clear c27; obtain ⟨ji28, hji28⟩ : ∃ j_ : Int, (wrap64 (a1 + 1)) = j_ := ⟨_, rfl⟩
    replace H : (if 0 ≤ (ji28) then (if (ji28) ≤ (wrap64 (a1 + 2)) then (if (wrap64 (a1 + 2)) ≤ (a0.size : Int) then (some (a0.extract ((ji28) : Int).toNat ((wrap64 (a1 + 2)) : Int).toNat, 2)) else (none)) else (none)) else (none)) = some (r1, r2) := by first | (rw [hji28] at H; exact H) | (simp only [hji28] at H ⊢; exact H)
    have hji28w : (IntKind.i64.wrap (a1 + 1)) = ji28 := (i64_w _).trans hji28; by_cases c29 : 0 ≤ (ji28)
    ·rw [if_pos c29] at H; have c29b0 := eq_true c29; have c29b1 : decide (0 ≤ (ji28)) = true := dt_ c29; clear c29; by_cases c30 : (ji28) ≤ (wrap64 (a1 + 2))
     ·rw [if_pos c30] at H; have c30b0 := eq_true c30; have c30b1 : decide ((ji28) ≤ (wrap64 (a1 + 2))) = true := dt_ c30; by_cases c31 : (wrap64 (a1 + 2)) ≤ (a0.size : Int)
      ·rw [if_pos c31] at H; have c31b0 := eq_true c31; have c31b1 : decide ((wrap64 (a1 + 2)) ≤ (a0.size : Int)) = true := dt_ c31; simp only [Option.some.injEq, Prod.mk.injEq] at H; obtain ⟨rfl, rfl⟩ := H; go_wp2; go_ret2
       exact ⟨by first | rfl | (simp [errW_none, errW_some] <;> rfl) | (simp only [← hji28]; first | rfl | (simp [errW_none, errW_some] <;> rfl)) | (simp [*, errW_none, errW_some] <;> rfl), bel_⟩
      rw [if_neg c31] at H; exact absurd H (by simp)
     rw [if_neg c30] at H; exact absurd H (by simp)
    rw [if_neg c29] at H; exact absurd H (by simp)
   rw [if_neg c27] at H; have c27b0 : (x7_15 == 0) = false := beq_eq_false_iff_ne.mpr c27; have c27b1 : (x7_15 != 0) = true := bne_iff_ne.mpr c27; by_cases c32 : (wrap64 ((wrap64 (a1 + 1)) + x7_15)) < (a0.size : Int)
   ·rw [if_pos c32] at H; have c32b0 : decide ((wrap64 ((wrap64 (a1 + 1)) + x7_15)) < (a0.size : Int)) = true := dt_ c32; clear c32; obtain ⟨ji33, hji33⟩ : ∃ j_ : Int, (wrap64 ((wrap64 (a1 + 1)) + x7_15)) = j_ := ⟨_, rfl⟩
    replace H : (if 0 ≤ (ji33) then ((token_blank.f (bt a0 (ji33))).bind fun t235 => (if t235 = true then ((token_character.f kj15 x6_15).bind fun t236 => (some (t236, wrap64 ((wrap64 ((ji33) + 1)) - a1)))) else ((token_character.f kj15 x6_15).bind fun t237 => (some (t237, wrap64 ((ji33) - a1)))))) else (none)) = some (r1, r2) := by first | (rw [hji33] at H; exact H) | (simp only [hji33] at H ⊢; exact H)
    (try rw [hji33] at c32b0)
    have hji33w : (IntKind.i64.wrap ((wrap64 (a1 + 1)) + x7_15)) = ji33 := (i64_w _).trans hji33; by_cases c34 : 0 ≤ (ji33)
    ·rw [if_pos c34] at H; have c34b0 : decide (0 ≤ (ji33)) = true := dt_ c34; clear c34; replace H := bs_ H; obtain ⟨t235, A360, H⟩ := H; try dsimp only at H
     have A36 := am_ A360; clear A360; by_cases c37 : t235 = true
     ·subst c37; rw [if_pos rfl] at H; replace H := bs_ H; obtain ⟨t236, A380, H⟩ := H; try dsimp only at H
      have A38 := am_ A380; clear A380; simp only [Option.some.injEq, Prod.mk.injEq] at H; obtain ⟨rfl, rfl⟩ := H; have p35 : 0 ≤ ((ji33) : Int) := od_ (by first | (with_reducible assumption) | assumption); have q35 : (ji33) < (a0.size : Int) := od_ (by first | (with_reducible assumption) | assumption); have hx35 := bt_at a0 (ji33); replace p35 := eq_true p35; replace q35 := eq_true q35; go_wp2_with (first | (go_at_call 53; (with_reducible refine (token_blank.calls (bt a0 (ji33)) true _ A36.out).mono ?_); rintro e w' ⟨rfl, ⟨nd, rfl⟩⟩) | ((with_reducible refine gate_callee (f := 92) rfl ?_); refine goesL_ (some 90) rfl rfl Try.func92 (by kernel_rfl) rfl #[.int .i64 x6_15] rfl goa_ ?_; (with_reducible refine (token_character.calls kj15 x6_15 t236 _ A38.out).mono ?_); rintro e w39 ⟨rfl, hb⟩; refine ⟨_, rfl, ?_⟩; replace HB := am_ (below_step bel_ hb); clear hb))
      go_ret2
      exact ⟨by first | rfl | (simp [errW_none, errW_some] <;> rfl) | (simp only [← hji33]; first | rfl | (simp [errW_none, errW_some] <;> rfl)) | (simp [*, errW_none, errW_some] <;> rfl), bel_⟩
     replace c37 := Bool.eq_false_iff.mpr c37; subst c37; rw [if_neg (show ¬ (false = true) by decide)] at H; replace H := bs_ H; obtain ⟨t237, A400, H⟩ := H; try dsimp only at H
     have A40 := am_ A400; clear A400; simp only [Option.some.injEq, Prod.mk.injEq] at H; obtain ⟨rfl, rfl⟩ := H; have p35 : 0 ≤ ((ji33) : Int) := od_ (by first | (with_reducible assumption) | assumption); have q35 : (ji33) < (a0.size : Int) := od_ (by first | (with_reducible assumption) | assumption); have hx35 := bt_at a0 (ji33); replace p35 := eq_true p35; replace q35 := eq_true q35; go_wp2_with (first | (go_at_call 53; (with_reducible refine (token_blank.calls (bt a0 (ji33)) false _ A36.out).mono ?_); rintro e w' ⟨rfl, ⟨nd, rfl⟩⟩) | ((with_reducible refine gate_callee (f := 92) rfl ?_); refine goesL_ (some 90) rfl rfl Try.func92 (by kernel_rfl) rfl #[.int .i64 x6_15] rfl goa_ ?_; (with_reducible refine (token_character.calls kj15 x6_15 t237 _ A40.out).mono ?_); rintro e w41 ⟨rfl, hb⟩; refine ⟨_, rfl, ?_⟩; replace HB := am_ (below_step bel_ hb); clear hb))
     go_ret2
     exact ⟨by first | rfl | (simp [errW_none, errW_some] <;> rfl) | (simp only [← hji33]; first | rfl | (simp [errW_none, errW_some] <;> rfl)) | (simp [*, errW_none, errW_some] <;> rfl), bel_⟩
    rw [if_neg c34] at H; exact absurd H (by simp)
   rw [if_neg c32] at H; have c32b0 : decide ((wrap64 ((wrap64 (a1 + 1)) + x7_15)) < (a0.size : Int)) = false := df_ c32; clear c32; replace H := bs_ H; obtain ⟨t238, A420, H⟩ := H; try dsimp only at H
   have A42 := am_ A420; clear A420; simp only [Option.some.injEq, Prod.mk.injEq] at H; obtain ⟨rfl, rfl⟩ := H; go_wp2_with (first | ((with_reducible refine gate_callee (f := 92) rfl ?_); refine goesL_ (some 90) rfl rfl Try.func92 (by kernel_rfl) rfl #[.int .i64 x6_15] rfl goa_ ?_; (with_reducible refine (token_character.calls kj15 x6_15 t238 _ A42.out).mono ?_); rintro e w43 ⟨rfl, hb⟩; refine ⟨_, rfl, ?_⟩; replace HB := am_ (below_step bel_ hb); clear hb))
   go_ret2
   exact ⟨rsl_, bel_⟩


/-! ### token_lexer_quoted_1: function 82 -/
def token_lexer_quoted_1.f (a0 : Int) : Option (Bool) := some (a0 == 10)
set_option maxHeartbeats 8000000 in
theorem token_lexer_quoted_1.calls (a0 : Int) (r : Bool) (w : World) (h : token_lexer_quoted_1.f a0 = some r) :
  Calls Try.prog 82 #[.int .u8 a0] w fun e w' => e = .returned (.bool r) ∧ Drawn0 w w' := by
 have H : (some (a0 == 10)) = some r := h; clear h; obtain rfl := si_ H; go_enter Try.func82, Try.ntmps82
 go_wp2; go_ret
 exact ⟨by first | rfl | (simp; done) | (simp [*]; done), drs_⟩

end Go.Proofs.Ytofdhdafabmhmaa.PLr
end
section
namespace Go.Proofs.Ytofdhdafabmhmaa.Giv
open Go.RowKit Go.Proofs.YtofdhdafabmhmaaW.PrintWords Go.Proofs.YtofdhdafabmhmaaW.PrintLast Go.Proofs.YtofdhdafabmhmaaW.PrintMore Go.Proofs.Ytofdhdafabmhmaa.PLr
open Go.Proofs.Ytofdhdafabmhmaa.Opn Go.BigFrame
section
variable {P : Program} {ops : Array Oper} {C : World → Prop} {Q : Act → Prop}
/-- A call of a function that is held in a variable, in a quiet walk. -/
theorem qcall_fn {o : Oper} {rest : List Oper} {a : Act} {f : FuncId} {fn : Func} {t : Tmp} {xs : Array Operand} {ts : Array TypeId} (N : Option Tmp) (hd : o.dst = N) (hf : P.funcs[f]? = some fn) (hname : (fn.name == "runtime.NumGoroutine") = false) (hb : fn.body.isSome = true)
    (args : Array Value) (v : Value) (hw : Region.wanted o (yielded ops a.tmps) = true) (hop : o.op = .call { callee := .value (.tmp t), args := xs, argTypes := ts }) (ht : a.tmps[t]? = some (.func (.func f) #[] #[])) (hargs : xs.map a.eval = args)
    (hc : ∀ w, C w → Calls P f args w fun e w' => e = .returned v ∧ C w') (h : wpQuiet P ops C Q rest (a.put N v)) : wpQuiet P ops C Q (o :: rest) a := by
  subst hd; refine wpQuiet_step fun K hK => ?_
  rw [if_pos hw]; refine ⟨v, fun w hC => ?_, hK _ h⟩
  have he := enters_ hf hname hb args w; have hrun : (execOp a.eval o).run P w = .ok (.enter f args) w := by
    unfold execOp; simp [hop, resolve, Deferred.ofValue, invoke, Act.eval, hargs, ht, he]
  unfold Oper.quietAt; rw [hrun]; exact ⟨rfl, hc w hC⟩
/-- A call of a function, in a quiet walk. -/
theorem qcall {o : Oper} {rest : List Oper} {a : Act} {f : FuncId} {fn : Func} {xs : Array Operand} {ts : Array TypeId} (N : Option Tmp) (hd : o.dst = N) (hf : P.funcs[f]? = some fn) (hname : (fn.name == "runtime.NumGoroutine") = false) (hb : fn.body.isSome = true)
    (args : Array Value) (v : Value) (hw : Region.wanted o (yielded ops a.tmps) = true) (hop : o.op = .call { callee := .value (.func f), args := xs, argTypes := ts }) (hargs : xs.map a.eval = args)
    (hc : ∀ w, C w → Calls P f args w fun e w' => e = .returned v ∧ C w') (h : wpQuiet P ops C Q rest (a.put N v)) : wpQuiet P ops C Q (o :: rest) a := by
  subst hd; refine wpQuiet_step fun K hK => ?_
  rw [if_pos hw]; refine ⟨v, fun w hC => ?_, hK _ h⟩
  have he := enters_ hf hname hb args w; have hrun : (execOp a.eval o).run P w = .ok (.enter f args) w := by
    unfold execOp; simp [hop, resolve, Deferred.ofValue, invoke, Act.eval, hargs, he]
  unfold Oper.quietAt; rw [hrun]; exact ⟨rfl, hc w hC⟩
end
/-- The lexer's block: its bytes, and its place. -/
def Lx (W : World) (g : Nat) (s : ByteArray) (i : Nat) : Prop := W.heap[g]? = some (.cells #[.string s, .int .i64 (i : Int)] 77 (0, 0))
theorem Lx.s {W : World} {g : Nat} {s : ByteArray} {i : Nat} (h : Lx W g s i) : W.cell? ⟨g, 0, none⟩ = some (.string s) := (blk_cell h 0).trans rfl
theorem Lx.i {W : World} {g : Nat} {s : ByteArray} {i : Nat} (h : Lx W g s i) : W.cell? ⟨g, 1, none⟩ = some (.int .i64 (i : Int)) := (blk_cell h 1).trans rfl
theorem Lx.below {W W' : World} {g : Nat} {s : ByteArray} {i : Nat} (h : Lx W g s i) (hb : Below W.heap.size W W') : Lx W' g s i := blk_below h hb
theorem Lx.set {W : World} {g : Nat} {s : ByteArray} {i : Nat} (h : Lx W g s i) (j : Nat) : Lx (W.setCell ⟨g, 1, none⟩ (.int .i64 (j : Int))) g s j := blk_put h 1 _ rfl
theorem Lx.drewN {W : World} {g : Nat} {s : ByteArray} {i : Nat} (h : Lx W g s i) (n : Nat) : Lx (W.drewN n) g s i := h
theorem Lx.drew {W : World} {g : Nat} {s : ByteArray} {i : Nat} (h : Lx W g s i) : Lx W.drew g s i := h
def isF (p : Int → Option Bool) (s : ByteArray) (i : Nat) : Option Bool := if i < s.size then p (bt s (i : Nat)) else some false
theorem wrapE (i k : Nat) (h : i + k ≤ 9223372036854775807) : IntKind.i64.wrap ((i : Int) + (k : Int)) = ((i + k : Nat) : Int) := by
  rw [i64_w]; unfold wrap64; omega
set_option maxHeartbeats 8000000 in
set_option maxRecDepth 100000 in
theorem is_minus0 (s : ByteArray) (g i j : Nat) (hs : s.size ≤ 140737488351232) (hw : IntKind.i64.wrap ((i : Int)) = (j : Int)) (r : Bool) (w : World) (h : Lx w g s i) (hf : isF token_lexer_begins_1.f s j = some r) :
    Calls Try.prog 56 #[.pointer (some ⟨g, 0, none⟩), .int .i64 0, .func (.func 73) #[] #[]] w fun e w' => e = .returned (.bool r) ∧ Drawn0 w w' := by
  have hu := Try.underlying77; have hc0 := h.s; have hc1 := h.i; unfold isF at hf; by_cases hlt : j < s.size
  · rw [if_pos hlt] at hf
    have A1 := am_ hf; have q0 : (0 ≤ (j : Int)) = True := eq_true (by omega); have q1 : ((j : Int) < (s.size : Int)) = True := eq_true (by omega); have q2 : decide ((j : Int) < (s.size : Int)) = true := dt_ (by omega); have q3 : decide (j < s.size) = true := dt_ hlt; have q4 : (j < s.size) = True := eq_true hlt; have hx : ∀ h : j < s.size, ((s[j].toNat : Nat) : Int) = bt s (j : Nat) := fun h => bt_at s (j : Int) (by simpa using h)
    clear hf hlt hs h; go_enter Try.func56, Try.ntmps56
    go_wp2; refine wp_region_quiet_lit (by kernel_rfl) (by kernel_rfl) ?_
    repeat (go_big_quiet_step (fail))
    refine qcall_fn (some 32) rfl Try.func73 (by kernel_rfl) rfl #[.int .u8 (bt s (j : Nat))] (.bool r) (by rfl) rfl (by rfl) goa_ (fun w1 hw1 => ?_) ?_
    · obtain ⟨n1, rfl⟩ := hw1
      refine (token_lexer_begins_1.calls _ _ _ A1.out).mono ?_
      rintro e w2 ⟨rfl, ⟨m1, rfl⟩⟩
      exact ⟨rfl, ⟨n1 + m1, by simp [World.drewN, Nat.add_assoc]⟩⟩
    simp only [Act.put, List.setIfInBounds_toArray, List.set_cons_zero, List.set_cons_succ]; repeat (go_big_quiet_step (fail))
    refine wpQuiet_nil ?_
    intro _ hw'; obtain ⟨nq, hw''⟩ := hw'; subst hw''; go_wp2; go_ret
    exact ⟨rfl, drs_⟩
  rw [if_neg hlt] at hf; obtain rfl := si_ hf; have q1 : ((j : Int) < (s.size : Int)) = False := eq_false (by omega); have q2 : decide ((j : Int) < (s.size : Int)) = false := df_ (by omega); have q3 : decide (j < s.size) = false := df_ hlt; have q4 : (j < s.size) = False := eq_false hlt; clear hf hlt hs h; go_enter Try.func56, Try.ntmps56
  go_wp2; refine wp_region_quiet_lit (by kernel_rfl) (by kernel_rfl) ?_
  repeat (go_big_quiet_step (fail))
  refine wpQuiet_nil ?_
  intro _ hw'; obtain ⟨nq, hw''⟩ := hw'; subst hw''; go_wp2; go_ret
  exact ⟨rfl, drs_⟩
set_option maxHeartbeats 8000000 in
set_option maxRecDepth 100000 in
theorem is_minus1 (s : ByteArray) (g i j : Nat) (hs : s.size ≤ 140737488351232) (hw : IntKind.i64.wrap ((i : Int) + 1) = (j : Int)) (r : Bool) (w : World) (h : Lx w g s i) (hf : isF token_lexer_begins_1.f s j = some r) :
    Calls Try.prog 56 #[.pointer (some ⟨g, 0, none⟩), .int .i64 1, .func (.func 73) #[] #[]] w fun e w' => e = .returned (.bool r) ∧ Drawn0 w w' := by
  have hu := Try.underlying77; have hc0 := h.s; have hc1 := h.i; unfold isF at hf; by_cases hlt : j < s.size
  · rw [if_pos hlt] at hf
    have A1 := am_ hf; have q0 : (0 ≤ (j : Int)) = True := eq_true (by omega); have q1 : ((j : Int) < (s.size : Int)) = True := eq_true (by omega); have q2 : decide ((j : Int) < (s.size : Int)) = true := dt_ (by omega); have q3 : decide (j < s.size) = true := dt_ hlt; have q4 : (j < s.size) = True := eq_true hlt; have hx : ∀ h : j < s.size, ((s[j].toNat : Nat) : Int) = bt s (j : Nat) := fun h => bt_at s (j : Int) (by simpa using h)
    clear hf hlt hs h; go_enter Try.func56, Try.ntmps56
    go_wp2; refine wp_region_quiet_lit (by kernel_rfl) (by kernel_rfl) ?_
    repeat (go_big_quiet_step (fail))
    refine qcall_fn (some 32) rfl Try.func73 (by kernel_rfl) rfl #[.int .u8 (bt s (j : Nat))] (.bool r) (by rfl) rfl (by rfl) goa_ (fun w1 hw1 => ?_) ?_
    · obtain ⟨n1, rfl⟩ := hw1
      refine (token_lexer_begins_1.calls _ _ _ A1.out).mono ?_
      rintro e w2 ⟨rfl, ⟨m1, rfl⟩⟩
      exact ⟨rfl, ⟨n1 + m1, by simp [World.drewN, Nat.add_assoc]⟩⟩
    simp only [Act.put, List.setIfInBounds_toArray, List.set_cons_zero, List.set_cons_succ]; repeat (go_big_quiet_step (fail))
    refine wpQuiet_nil ?_
    intro _ hw'; obtain ⟨nq, hw''⟩ := hw'; subst hw''; go_wp2; go_ret
    exact ⟨rfl, drs_⟩
  rw [if_neg hlt] at hf; obtain rfl := si_ hf; have q1 : ((j : Int) < (s.size : Int)) = False := eq_false (by omega); have q2 : decide ((j : Int) < (s.size : Int)) = false := df_ (by omega); have q3 : decide (j < s.size) = false := df_ hlt; have q4 : (j < s.size) = False := eq_false hlt; clear hf hlt hs h; go_enter Try.func56, Try.ntmps56
  go_wp2; refine wp_region_quiet_lit (by kernel_rfl) (by kernel_rfl) ?_
  repeat (go_big_quiet_step (fail))
  refine wpQuiet_nil ?_
  intro _ hw'; obtain ⟨nq, hw''⟩ := hw'; subst hw''; go_wp2; go_ret
  exact ⟨rfl, drs_⟩
set_option maxHeartbeats 8000000 in
set_option maxRecDepth 100000 in
theorem is_letter0 (s : ByteArray) (g i j : Nat) (hs : s.size ≤ 140737488351232) (hw : IntKind.i64.wrap ((i : Int)) = (j : Int)) (r : Bool) (w : World) (h : Lx w g s i) (hf : isF token_Letter.f s j = some r) :
    Calls Try.prog 56 #[.pointer (some ⟨g, 0, none⟩), .int .i64 0, .func (.func 74) #[] #[]] w fun e w' => e = .returned (.bool r) ∧ Drawn0 w w' := by
  have hu := Try.underlying77; have hc0 := h.s; have hc1 := h.i; unfold isF at hf; by_cases hlt : j < s.size
  · rw [if_pos hlt] at hf
    have A1 := am_ hf; have q0 : (0 ≤ (j : Int)) = True := eq_true (by omega); have q1 : ((j : Int) < (s.size : Int)) = True := eq_true (by omega); have q2 : decide ((j : Int) < (s.size : Int)) = true := dt_ (by omega); have q3 : decide (j < s.size) = true := dt_ hlt; have q4 : (j < s.size) = True := eq_true hlt; have hx : ∀ h : j < s.size, ((s[j].toNat : Nat) : Int) = bt s (j : Nat) := fun h => bt_at s (j : Int) (by simpa using h)
    clear hf hlt hs h; go_enter Try.func56, Try.ntmps56
    go_wp2; refine wp_region_quiet_lit (by kernel_rfl) (by kernel_rfl) ?_
    repeat (go_big_quiet_step (fail))
    refine qcall_fn (some 32) rfl Try.func74 (by kernel_rfl) rfl #[.int .u8 (bt s (j : Nat))] (.bool r) (by rfl) rfl (by rfl) goa_ (fun w1 hw1 => ?_) ?_
    · obtain ⟨n1, rfl⟩ := hw1
      refine (token_Letter.calls _ _ _ A1.out).mono ?_
      rintro e w2 ⟨rfl, ⟨m1, rfl⟩⟩
      exact ⟨rfl, ⟨n1 + m1, by simp [World.drewN, Nat.add_assoc]⟩⟩
    simp only [Act.put, List.setIfInBounds_toArray, List.set_cons_zero, List.set_cons_succ]; repeat (go_big_quiet_step (fail))
    refine wpQuiet_nil ?_
    intro _ hw'; obtain ⟨nq, hw''⟩ := hw'; subst hw''; go_wp2; go_ret
    exact ⟨rfl, drs_⟩
  rw [if_neg hlt] at hf; obtain rfl := si_ hf; have q1 : ((j : Int) < (s.size : Int)) = False := eq_false (by omega); have q2 : decide ((j : Int) < (s.size : Int)) = false := df_ (by omega); have q3 : decide (j < s.size) = false := df_ hlt; have q4 : (j < s.size) = False := eq_false hlt; clear hf hlt hs h; go_enter Try.func56, Try.ntmps56
  go_wp2; refine wp_region_quiet_lit (by kernel_rfl) (by kernel_rfl) ?_
  repeat (go_big_quiet_step (fail))
  refine wpQuiet_nil ?_
  intro _ hw'; obtain ⟨nq, hw''⟩ := hw'; subst hw''; go_wp2; go_ret
  exact ⟨rfl, drs_⟩
set_option maxHeartbeats 8000000 in
set_option maxRecDepth 100000 in
theorem is_letter1 (s : ByteArray) (g i j : Nat) (hs : s.size ≤ 140737488351232) (hw : IntKind.i64.wrap ((i : Int) + 1) = (j : Int)) (r : Bool) (w : World) (h : Lx w g s i) (hf : isF token_Letter.f s j = some r) :
    Calls Try.prog 56 #[.pointer (some ⟨g, 0, none⟩), .int .i64 1, .func (.func 74) #[] #[]] w fun e w' => e = .returned (.bool r) ∧ Drawn0 w w' := by
  have hu := Try.underlying77; have hc0 := h.s; have hc1 := h.i; unfold isF at hf; by_cases hlt : j < s.size
  · rw [if_pos hlt] at hf
    have A1 := am_ hf; have q0 : (0 ≤ (j : Int)) = True := eq_true (by omega); have q1 : ((j : Int) < (s.size : Int)) = True := eq_true (by omega); have q2 : decide ((j : Int) < (s.size : Int)) = true := dt_ (by omega); have q3 : decide (j < s.size) = true := dt_ hlt; have q4 : (j < s.size) = True := eq_true hlt; have hx : ∀ h : j < s.size, ((s[j].toNat : Nat) : Int) = bt s (j : Nat) := fun h => bt_at s (j : Int) (by simpa using h)
    clear hf hlt hs h; go_enter Try.func56, Try.ntmps56
    go_wp2; refine wp_region_quiet_lit (by kernel_rfl) (by kernel_rfl) ?_
    repeat (go_big_quiet_step (fail))
    refine qcall_fn (some 32) rfl Try.func74 (by kernel_rfl) rfl #[.int .u8 (bt s (j : Nat))] (.bool r) (by rfl) rfl (by rfl) goa_ (fun w1 hw1 => ?_) ?_
    · obtain ⟨n1, rfl⟩ := hw1
      refine (token_Letter.calls _ _ _ A1.out).mono ?_
      rintro e w2 ⟨rfl, ⟨m1, rfl⟩⟩
      exact ⟨rfl, ⟨n1 + m1, by simp [World.drewN, Nat.add_assoc]⟩⟩
    simp only [Act.put, List.setIfInBounds_toArray, List.set_cons_zero, List.set_cons_succ]; repeat (go_big_quiet_step (fail))
    refine wpQuiet_nil ?_
    intro _ hw'; obtain ⟨nq, hw''⟩ := hw'; subst hw''; go_wp2; go_ret
    exact ⟨rfl, drs_⟩
  rw [if_neg hlt] at hf; obtain rfl := si_ hf; have q1 : ((j : Int) < (s.size : Int)) = False := eq_false (by omega); have q2 : decide ((j : Int) < (s.size : Int)) = false := df_ (by omega); have q3 : decide (j < s.size) = false := df_ hlt; have q4 : (j < s.size) = False := eq_false hlt; clear hf hlt hs h; go_enter Try.func56, Try.ntmps56
  go_wp2; refine wp_region_quiet_lit (by kernel_rfl) (by kernel_rfl) ?_
  repeat (go_big_quiet_step (fail))
  refine wpQuiet_nil ?_
  intro _ hw'; obtain ⟨nq, hw''⟩ := hw'; subst hw''; go_wp2; go_ret
  exact ⟨rfl, drs_⟩
set_option maxHeartbeats 8000000 in
set_option maxRecDepth 100000 in
theorem is_inner0 (s : ByteArray) (g i j : Nat) (hs : s.size ≤ 140737488351232) (hw : IntKind.i64.wrap ((i : Int)) = (j : Int)) (r : Bool) (w : World) (h : Lx w g s i) (hf : isF token_lexer_ident_1.f s j = some r) :
    Calls Try.prog 56 #[.pointer (some ⟨g, 0, none⟩), .int .i64 0, .func (.func 76) #[] #[]] w fun e w' => e = .returned (.bool r) ∧ Drawn0 w w' := by
  have hu := Try.underlying77; have hc0 := h.s; have hc1 := h.i; unfold isF at hf; by_cases hlt : j < s.size
  · rw [if_pos hlt] at hf
    have A1 := am_ hf; have q0 : (0 ≤ (j : Int)) = True := eq_true (by omega); have q1 : ((j : Int) < (s.size : Int)) = True := eq_true (by omega); have q2 : decide ((j : Int) < (s.size : Int)) = true := dt_ (by omega); have q3 : decide (j < s.size) = true := dt_ hlt; have q4 : (j < s.size) = True := eq_true hlt; have hx : ∀ h : j < s.size, ((s[j].toNat : Nat) : Int) = bt s (j : Nat) := fun h => bt_at s (j : Int) (by simpa using h)
    clear hf hlt hs h; go_enter Try.func56, Try.ntmps56
    go_wp2; refine wp_region_quiet_lit (by kernel_rfl) (by kernel_rfl) ?_
    repeat (go_big_quiet_step (fail))
    refine qcall_fn (some 32) rfl Try.func76 (by kernel_rfl) rfl #[.int .u8 (bt s (j : Nat))] (.bool r) (by rfl) rfl (by rfl) goa_ (fun w1 hw1 => ?_) ?_
    · obtain ⟨n1, rfl⟩ := hw1
      refine (token_lexer_ident_1.calls _ _ _ A1.out).mono ?_
      rintro e w2 ⟨rfl, ⟨m1, rfl⟩⟩
      exact ⟨rfl, ⟨n1 + m1, by simp [World.drewN, Nat.add_assoc]⟩⟩
    simp only [Act.put, List.setIfInBounds_toArray, List.set_cons_zero, List.set_cons_succ]; repeat (go_big_quiet_step (fail))
    refine wpQuiet_nil ?_
    intro _ hw'; obtain ⟨nq, hw''⟩ := hw'; subst hw''; go_wp2; go_ret
    exact ⟨rfl, drs_⟩
  rw [if_neg hlt] at hf; obtain rfl := si_ hf; have q1 : ((j : Int) < (s.size : Int)) = False := eq_false (by omega); have q2 : decide ((j : Int) < (s.size : Int)) = false := df_ (by omega); have q3 : decide (j < s.size) = false := df_ hlt; have q4 : (j < s.size) = False := eq_false hlt; clear hf hlt hs h; go_enter Try.func56, Try.ntmps56
  go_wp2; refine wp_region_quiet_lit (by kernel_rfl) (by kernel_rfl) ?_
  repeat (go_big_quiet_step (fail))
  refine wpQuiet_nil ?_
  intro _ hw'; obtain ⟨nq, hw''⟩ := hw'; subst hw''; go_wp2; go_ret
  exact ⟨rfl, drs_⟩
set_option maxHeartbeats 8000000 in
set_option maxRecDepth 100000 in
theorem is_pct0 (s : ByteArray) (g i j : Nat) (hs : s.size ≤ 140737488351232) (hw : IntKind.i64.wrap ((i : Int)) = (j : Int)) (r : Bool) (w : World) (h : Lx w g s i) (hf : isF token_lexer_word_1.f s j = some r) :
    Calls Try.prog 56 #[.pointer (some ⟨g, 0, none⟩), .int .i64 0, .func (.func 57) #[] #[]] w fun e w' => e = .returned (.bool r) ∧ Drawn0 w w' := by
  have hu := Try.underlying77; have hc0 := h.s; have hc1 := h.i; unfold isF at hf; by_cases hlt : j < s.size
  · rw [if_pos hlt] at hf
    have A1 := am_ hf; have q0 : (0 ≤ (j : Int)) = True := eq_true (by omega); have q1 : ((j : Int) < (s.size : Int)) = True := eq_true (by omega); have q2 : decide ((j : Int) < (s.size : Int)) = true := dt_ (by omega); have q3 : decide (j < s.size) = true := dt_ hlt; have q4 : (j < s.size) = True := eq_true hlt; have hx : ∀ h : j < s.size, ((s[j].toNat : Nat) : Int) = bt s (j : Nat) := fun h => bt_at s (j : Int) (by simpa using h)
    clear hf hlt hs h; go_enter Try.func56, Try.ntmps56
    go_wp2; refine wp_region_quiet_lit (by kernel_rfl) (by kernel_rfl) ?_
    repeat (go_big_quiet_step (fail))
    refine qcall_fn (some 32) rfl Try.func57 (by kernel_rfl) rfl #[.int .u8 (bt s (j : Nat))] (.bool r) (by rfl) rfl (by rfl) goa_ (fun w1 hw1 => ?_) ?_
    · obtain ⟨n1, rfl⟩ := hw1
      refine (token_lexer_word_1.calls _ _ _ A1.out).mono ?_
      rintro e w2 ⟨rfl, ⟨m1, rfl⟩⟩
      exact ⟨rfl, ⟨n1 + m1, by simp [World.drewN, Nat.add_assoc]⟩⟩
    simp only [Act.put, List.setIfInBounds_toArray, List.set_cons_zero, List.set_cons_succ]; repeat (go_big_quiet_step (fail))
    refine wpQuiet_nil ?_
    intro _ hw'; obtain ⟨nq, hw''⟩ := hw'; subst hw''; go_wp2; go_ret
    exact ⟨rfl, drs_⟩
  rw [if_neg hlt] at hf; obtain rfl := si_ hf; have q1 : ((j : Int) < (s.size : Int)) = False := eq_false (by omega); have q2 : decide ((j : Int) < (s.size : Int)) = false := df_ (by omega); have q3 : decide (j < s.size) = false := df_ hlt; have q4 : (j < s.size) = False := eq_false hlt; clear hf hlt hs h; go_enter Try.func56, Try.ntmps56
  go_wp2; refine wp_region_quiet_lit (by kernel_rfl) (by kernel_rfl) ?_
  repeat (go_big_quiet_step (fail))
  refine wpQuiet_nil ?_
  intro _ hw'; obtain ⟨nq, hw''⟩ := hw'; subst hw''; go_wp2; go_ret
  exact ⟨rfl, drs_⟩
set_option maxHeartbeats 8000000 in
set_option maxRecDepth 100000 in
theorem is_paren0 (s : ByteArray) (g i j : Nat) (hs : s.size ≤ 140737488351232) (hw : IntKind.i64.wrap ((i : Int)) = (j : Int)) (r : Bool) (w : World) (h : Lx w g s i) (hf : isF token_lexer_word_2.f s j = some r) :
    Calls Try.prog 56 #[.pointer (some ⟨g, 0, none⟩), .int .i64 0, .func (.func 60) #[] #[]] w fun e w' => e = .returned (.bool r) ∧ Drawn0 w w' := by
  have hu := Try.underlying77; have hc0 := h.s; have hc1 := h.i; unfold isF at hf; by_cases hlt : j < s.size
  · rw [if_pos hlt] at hf
    have A1 := am_ hf; have q0 : (0 ≤ (j : Int)) = True := eq_true (by omega); have q1 : ((j : Int) < (s.size : Int)) = True := eq_true (by omega); have q2 : decide ((j : Int) < (s.size : Int)) = true := dt_ (by omega); have q3 : decide (j < s.size) = true := dt_ hlt; have q4 : (j < s.size) = True := eq_true hlt; have hx : ∀ h : j < s.size, ((s[j].toNat : Nat) : Int) = bt s (j : Nat) := fun h => bt_at s (j : Int) (by simpa using h)
    clear hf hlt hs h; go_enter Try.func56, Try.ntmps56
    go_wp2; refine wp_region_quiet_lit (by kernel_rfl) (by kernel_rfl) ?_
    repeat (go_big_quiet_step (fail))
    refine qcall_fn (some 32) rfl Try.func60 (by kernel_rfl) rfl #[.int .u8 (bt s (j : Nat))] (.bool r) (by rfl) rfl (by rfl) goa_ (fun w1 hw1 => ?_) ?_
    · obtain ⟨n1, rfl⟩ := hw1
      refine (token_lexer_word_2.calls _ _ _ A1.out).mono ?_
      rintro e w2 ⟨rfl, ⟨m1, rfl⟩⟩
      exact ⟨rfl, ⟨n1 + m1, by simp [World.drewN, Nat.add_assoc]⟩⟩
    simp only [Act.put, List.setIfInBounds_toArray, List.set_cons_zero, List.set_cons_succ]; repeat (go_big_quiet_step (fail))
    refine wpQuiet_nil ?_
    intro _ hw'; obtain ⟨nq, hw''⟩ := hw'; subst hw''; go_wp2; go_ret
    exact ⟨rfl, drs_⟩
  rw [if_neg hlt] at hf; obtain rfl := si_ hf; have q1 : ((j : Int) < (s.size : Int)) = False := eq_false (by omega); have q2 : decide ((j : Int) < (s.size : Int)) = false := df_ (by omega); have q3 : decide (j < s.size) = false := df_ hlt; have q4 : (j < s.size) = False := eq_false hlt; clear hf hlt hs h; go_enter Try.func56, Try.ntmps56
  go_wp2; refine wp_region_quiet_lit (by kernel_rfl) (by kernel_rfl) ?_
  repeat (go_big_quiet_step (fail))
  refine wpQuiet_nil ?_
  intro _ hw'; obtain ⟨nq, hw''⟩ := hw'; subst hw''; go_wp2; go_ret
  exact ⟨rfl, drs_⟩
end Go.Proofs.Ytofdhdafabmhmaa.Giv
end
section
namespace Go.Proofs.Ytofdhdafabmhmaa.Giv
open Go.RowKit Go.Proofs.YtofdhdafabmhmaaW.PrintWords Go.Proofs.YtofdhdafabmhmaaW.PrintLast Go.Proofs.YtofdhdafabmhmaaW.PrintMore Go.Proofs.Ytofdhdafabmhmaa.PLr
open Go.Proofs.Ytofdhdafabmhmaa.Opn Go.BigFrame
/-- Does an escape stand at a place (that is not of a byte 0)? -/
def escF (k : Nat) (s : ByteArray) (j : Nat) : Option Bool := (token_Hex.f k s (j : Int)).bind fun t => if t.2 > 0 then (if j + 1 < s.size then some (bt s ((j + 1 : Nat) : Int) != 0) else none) else some false
theorem escF.mono : ∀ s j k, LeO (escF k s j) (escF (k + 1) s j) := by
  intro s j k; unfold escF; repeat' first
      | (with_reducible exact token_Hex.mono _ _ _)
      | (with_reducible first | exact LeO.refl _ | exact LeO.none _ | refine LeO.ite ?_ ?_ | refine LeO.bind ?_ (fun _ => ?_))
theorem below_drewN0 {B : Nat} {a w : World} (h : Below B a w) (n : Nat) : Below B a (w.drewN n) := h.trans ⟨rfl, rfl, rfl, Nat.le_refl _, fun _ _ => rfl⟩
def lexer_escape.T1 : Bool × List (List Nat × List Nat) := (true, [([], []), ([0], [0]), ([1], [1]), ([2], [2]), ([], []), ([4], [4]), ([5], [5]), ([6], [6]), ([], []), ([7, 8], [7, 8]), ([3, 9], [3, 9]), ([10], [10]), ([11], [11]), ([11], [11]), ([12, 10, 0, 1, 2, 3, 4, 5, 6, 7, 8, 9, 10, 11, 12], [12]), ([13, 14, 0, 1, 2, 3, 4, 5, 6, 7, 8, 9, 10, 11, 12, 13, 14], [13])])
def lexer_escape.B1 : List Nat := [0, 1, 3, 7, 0, 16, 48, 112, 0, 496, 1023, 2047, 4095, 4095, 8191, 32767]
theorem lexer_escape.tab1 : rtab .any (opsOf Try.f75 1) = lexer_escape.T1 := by kernel_rfl
theorem lexer_escape.bits1 : waitsOk lexer_escape.T1.2 lexer_escape.B1 = true := by kernel_rfl
set_option maxHeartbeats 8000000 in
set_option maxRecDepth 100000 in
theorem escape_0 (k : Nat) (s : ByteArray) (g i j : Nat) (hs : s.size ≤ 140737488351232) (hj : j ≤ 140737488351300) (hw : IntKind.i64.wrap ((i : Int)) = (j : Int)) (r : Bool) (w : World) (h : Lx w g s i) (hf : escF k s j = some r) :
    Calls Try.prog 75 #[.pointer (some ⟨g, 0, none⟩), .int .i64 0] w fun e w' => e = .returned (.bool r) ∧ Below w.heap.size w w' := by
  have hu := Try.underlying77; unfold escF at hf; obtain ⟨⟨x, n⟩, hx0, hf⟩ := bs_ hf; have A1 := am_ hx0; have H1 := am_ h.drew; have HB1 := am_ (below_drew1 (Below.refl w.heap.size w)); have hc0 := h.s; have hc1 := h.i; clear hx0 h; go_enter Try.func75, Try.ntmps75
  go_wp2; refine start_ (n := 16) (S := (fun w' => w'.cell? ⟨g, 0, none⟩ = some (.string s) ∧ w'.cell? ⟨g, 1, none⟩ = some (.int .i64 (i : Int)))) (ds := []) #[false, false, false, false, false, false, false, false, false, false, false, false, false, false, false, false] (by kernel_rfl) rfl rfl ⟨H1.out.s, H1.out.i⟩ (fun hHeld => ?_)
  refine with_tabW lexer_escape.tab1 lexer_escape.bits1 (fun HT_ HW_ => ?_)
  generalize w.drew = w4 at H1 HB1 hHeld ⊢
  refine pus_ 0 (some 8) #[true, false, false, false, false, false, false, false, false, false, false, false, false, false, false, false] rfl rfl HT_.out ?_
  refine pus_ 1 (some 9) #[true, true, false, false, false, false, false, false, false, false, false, false, false, false, false, false] rfl rfl HT_.out ?_
  refine pus_ 2 (some 10) #[true, true, true, false, false, false, false, false, false, false, false, false, false, false, false, false] rfl rfl HT_.out ?_
  refine tas_ 3 (some 11) #[true, true, true, true, false, false, false, false, false, false, false, false, false, false, false, false] rfl rfl HT_.out HW_.out hHeld ?_
  refine pus_ 4 (some 12) #[true, true, true, true, true, false, false, false, false, false, false, false, false, false, false, false] rfl rfl HT_.out ?_
  refine pus_ 5 (some 13) #[true, true, true, true, true, true, false, false, false, false, false, false, false, false, false, false] rfl rfl HT_.out ?_
  refine pus_ 6 (some 14) #[true, true, true, true, true, true, true, false, false, false, false, false, false, false, false, false] rfl rfl HT_.out ?_
  refine tas_ 7 (some 15) #[true, true, true, true, true, true, true, true, false, false, false, false, false, false, false, false] rfl rfl HT_.out HW_.out hHeld ?_
  refine pus_ 8 (some 16) #[true, true, true, true, true, true, true, true, true, false, false, false, false, false, false, false] rfl rfl HT_.out ?_
  refine pus_ 9 (some 17) #[true, true, true, true, true, true, true, true, true, true, false, false, false, false, false, false] rfl rfl HT_.out ?_
  refine one_ (i := 10) (N := (some 18)) #[true, true, true, true, true, true, true, true, true, true, true, false, false, false, false, false] rfl rfl (one_of HT_.out (by kernel_rfl)) (by decide) (fun K hK => ?_)
  refine goes_ Try.func79 (by kernel_rfl) rfl #[.string s, .int .i64 (j : Int)] (by rfl) rfl rfl goa_ ?_
  with_reducible refine (token_Hex.calls k s (j : Int) x n _ A1.out).mono ?_
  rintro e w5 ⟨rfl, hb⟩
  refine ⟨_, rfl, ?_⟩
  have H2 := am_ (H1.out.below hb); have HB2 := am_ (below_step HB1.out hb); clear hb; refine hK.out _ _ ⟨H2.out.s, H2.out.i⟩ (fun hHeld => ?_)
  clear hK K; refine norm_ (a' := ?_) ?_ ?_
  rotate_left
  ·show Act.put _ (some 18) _ = _
   simp only [Act.put, List.setIfInBounds_toArray, List.set_cons_zero, List.set_cons_succ, i64_w, i32_w]; rfl
  refine pus_ 11 (some 7) #[true, true, true, true, true, true, true, true, true, true, true, true, false, false, false, false] rfl rfl HT_.out ?_
  refine pus_ 12 (some 19) #[true, true, true, true, true, true, true, true, true, true, true, true, true, false, false, false] rfl rfl HT_.out ?_
  refine pus_ 13 (some 20) #[true, true, true, true, true, true, true, true, true, true, true, true, true, true, false, false] rfl rfl HT_.out ?_
  refine pus_ 14 (some 5) #[true, true, true, true, true, true, true, true, true, true, true, true, true, true, true, false] rfl rfl HT_.out ?_
  refine pus_ 15 (some 6) #[true, true, true, true, true, true, true, true, true, true, true, true, true, true, true, true] rfl rfl HT_.out ?_
  refine done_ (done_of HT_.out (by kernel_rfl)) ?_
  have hd0 := H2.out.s; have hd1 := H2.out.i; have hw2 : IntKind.i64.wrap ((j : Int) + 1) = ((j + 1 : Nat) : Int) := wrapE j 1 (by omega); obtain ⟨m, hm⟩ : ∃ m, j + 1 = m := ⟨_, rfl⟩
  rw [hm] at hw2 hf; try dsimp only at hf
  by_cases hn : n > 0
  · rw [if_pos hn] at hf
    have p1 : decide (n > 0) = true := dt_ hn; have p2 : decide (0 < n) = true := dt_ hn; by_cases hlt : m < s.size
    · rw [if_pos hlt] at hf
      obtain rfl := si_ hf; have q0 : (0 ≤ (m : Int)) = True := eq_true (by omega); have q1 : ((m : Int) < (s.size : Int)) = True := eq_true (by omega); have q2 : decide ((m : Int) < (s.size : Int)) = true := dt_ (by omega); have q3 : decide (m < s.size) = true := dt_ hlt; have q4 : (m < s.size) = True := eq_true hlt; have hx : ∀ h : m < s.size, ((s[m].toNat : Nat) : Int) = bt s (m : Nat) := fun h => bt_at s (m : Int) (by simpa using h)
      clear hf hlt hs hj hn hm hc0 hc1 hHeld HT_ HW_; go_wp2; refine wp_region_quiet_lit (by kernel_rfl) (by kernel_rfl) ?_
      repeat (go_big_quiet_step (fail))
      refine wpQuiet_nil ?_
      intro _ hw'; obtain ⟨nq, hw''⟩ := hw'; subst hw''; go_wp2; go_ret
      exact ⟨rfl, below_drewN0 HB2.out _⟩
    rw [if_neg hlt] at hf; cases hf
  rw [if_neg hn] at hf; obtain rfl := si_ hf; have p1 : decide (n > 0) = false := df_ hn; have p2 : decide (0 < n) = false := df_ hn; clear hf hs hj hn hm hc0 hc1 hHeld HT_ HW_; go_wp2; refine wp_region_quiet_lit (by kernel_rfl) (by kernel_rfl) ?_
  repeat (go_big_quiet_step (fail))
  refine wpQuiet_nil ?_
  intro _ hw'; obtain ⟨nq, hw''⟩ := hw'; subst hw''; go_wp2; go_ret
  exact ⟨rfl, below_drewN0 HB2.out _⟩
set_option maxHeartbeats 8000000 in
set_option maxRecDepth 100000 in
theorem escape_1 (k : Nat) (s : ByteArray) (g i j : Nat) (hs : s.size ≤ 140737488351232) (hj : j ≤ 140737488351300) (hw : IntKind.i64.wrap ((i : Int) + 1) = (j : Int)) (r : Bool) (w : World) (h : Lx w g s i) (hf : escF k s j = some r) :
    Calls Try.prog 75 #[.pointer (some ⟨g, 0, none⟩), .int .i64 1] w fun e w' => e = .returned (.bool r) ∧ Below w.heap.size w w' := by
  have hu := Try.underlying77; unfold escF at hf; obtain ⟨⟨x, n⟩, hx0, hf⟩ := bs_ hf; have A1 := am_ hx0; have H1 := am_ h.drew; have HB1 := am_ (below_drew1 (Below.refl w.heap.size w)); have hc0 := h.s; have hc1 := h.i; clear hx0 h; go_enter Try.func75, Try.ntmps75
  go_wp2; refine start_ (n := 16) (S := (fun w' => w'.cell? ⟨g, 0, none⟩ = some (.string s) ∧ w'.cell? ⟨g, 1, none⟩ = some (.int .i64 (i : Int)))) (ds := []) #[false, false, false, false, false, false, false, false, false, false, false, false, false, false, false, false] (by kernel_rfl) rfl rfl ⟨H1.out.s, H1.out.i⟩ (fun hHeld => ?_)
  refine with_tabW lexer_escape.tab1 lexer_escape.bits1 (fun HT_ HW_ => ?_)
  generalize w.drew = w4 at H1 HB1 hHeld ⊢
  refine pus_ 0 (some 8) #[true, false, false, false, false, false, false, false, false, false, false, false, false, false, false, false] rfl rfl HT_.out ?_
  refine pus_ 1 (some 9) #[true, true, false, false, false, false, false, false, false, false, false, false, false, false, false, false] rfl rfl HT_.out ?_
  refine pus_ 2 (some 10) #[true, true, true, false, false, false, false, false, false, false, false, false, false, false, false, false] rfl rfl HT_.out ?_
  refine tas_ 3 (some 11) #[true, true, true, true, false, false, false, false, false, false, false, false, false, false, false, false] rfl rfl HT_.out HW_.out hHeld ?_
  refine pus_ 4 (some 12) #[true, true, true, true, true, false, false, false, false, false, false, false, false, false, false, false] rfl rfl HT_.out ?_
  refine pus_ 5 (some 13) #[true, true, true, true, true, true, false, false, false, false, false, false, false, false, false, false] rfl rfl HT_.out ?_
  refine pus_ 6 (some 14) #[true, true, true, true, true, true, true, false, false, false, false, false, false, false, false, false] rfl rfl HT_.out ?_
  refine tas_ 7 (some 15) #[true, true, true, true, true, true, true, true, false, false, false, false, false, false, false, false] rfl rfl HT_.out HW_.out hHeld ?_
  refine pus_ 8 (some 16) #[true, true, true, true, true, true, true, true, true, false, false, false, false, false, false, false] rfl rfl HT_.out ?_
  refine pus_ 9 (some 17) #[true, true, true, true, true, true, true, true, true, true, false, false, false, false, false, false] rfl rfl HT_.out ?_
  refine one_ (i := 10) (N := (some 18)) #[true, true, true, true, true, true, true, true, true, true, true, false, false, false, false, false] rfl rfl (one_of HT_.out (by kernel_rfl)) (by decide) (fun K hK => ?_)
  refine goes_ Try.func79 (by kernel_rfl) rfl #[.string s, .int .i64 (j : Int)] (by rfl) rfl rfl goa_ ?_
  with_reducible refine (token_Hex.calls k s (j : Int) x n _ A1.out).mono ?_
  rintro e w5 ⟨rfl, hb⟩
  refine ⟨_, rfl, ?_⟩
  have H2 := am_ (H1.out.below hb); have HB2 := am_ (below_step HB1.out hb); clear hb; refine hK.out _ _ ⟨H2.out.s, H2.out.i⟩ (fun hHeld => ?_)
  clear hK K; refine norm_ (a' := ?_) ?_ ?_
  rotate_left
  ·show Act.put _ (some 18) _ = _
   simp only [Act.put, List.setIfInBounds_toArray, List.set_cons_zero, List.set_cons_succ, i64_w, i32_w]; rfl
  refine pus_ 11 (some 7) #[true, true, true, true, true, true, true, true, true, true, true, true, false, false, false, false] rfl rfl HT_.out ?_
  refine pus_ 12 (some 19) #[true, true, true, true, true, true, true, true, true, true, true, true, true, false, false, false] rfl rfl HT_.out ?_
  refine pus_ 13 (some 20) #[true, true, true, true, true, true, true, true, true, true, true, true, true, true, false, false] rfl rfl HT_.out ?_
  refine pus_ 14 (some 5) #[true, true, true, true, true, true, true, true, true, true, true, true, true, true, true, false] rfl rfl HT_.out ?_
  refine pus_ 15 (some 6) #[true, true, true, true, true, true, true, true, true, true, true, true, true, true, true, true] rfl rfl HT_.out ?_
  refine done_ (done_of HT_.out (by kernel_rfl)) ?_
  have hd0 := H2.out.s; have hd1 := H2.out.i; have hw2 : IntKind.i64.wrap ((j : Int) + 1) = ((j + 1 : Nat) : Int) := wrapE j 1 (by omega); obtain ⟨m, hm⟩ : ∃ m, j + 1 = m := ⟨_, rfl⟩
  rw [hm] at hw2 hf; try dsimp only at hf
  by_cases hn : n > 0
  · rw [if_pos hn] at hf
    have p1 : decide (n > 0) = true := dt_ hn; have p2 : decide (0 < n) = true := dt_ hn; by_cases hlt : m < s.size
    · rw [if_pos hlt] at hf
      obtain rfl := si_ hf; have q0 : (0 ≤ (m : Int)) = True := eq_true (by omega); have q1 : ((m : Int) < (s.size : Int)) = True := eq_true (by omega); have q2 : decide ((m : Int) < (s.size : Int)) = true := dt_ (by omega); have q3 : decide (m < s.size) = true := dt_ hlt; have q4 : (m < s.size) = True := eq_true hlt; have hx : ∀ h : m < s.size, ((s[m].toNat : Nat) : Int) = bt s (m : Nat) := fun h => bt_at s (m : Int) (by simpa using h)
      clear hf hlt hs hj hn hm hc0 hc1 hHeld HT_ HW_; go_wp2; refine wp_region_quiet_lit (by kernel_rfl) (by kernel_rfl) ?_
      repeat (go_big_quiet_step (fail))
      refine wpQuiet_nil ?_
      intro _ hw'; obtain ⟨nq, hw''⟩ := hw'; subst hw''; go_wp2; go_ret
      exact ⟨rfl, below_drewN0 HB2.out _⟩
    rw [if_neg hlt] at hf; cases hf
  rw [if_neg hn] at hf; obtain rfl := si_ hf; have p1 : decide (n > 0) = false := df_ hn; have p2 : decide (0 < n) = false := df_ hn; clear hf hs hj hn hm hc0 hc1 hHeld HT_ HW_; go_wp2; refine wp_region_quiet_lit (by kernel_rfl) (by kernel_rfl) ?_
  repeat (go_big_quiet_step (fail))
  refine wpQuiet_nil ?_
  intro _ hw'; obtain ⟨nq, hw''⟩ := hw'; subst hw''; go_wp2; go_ret
  exact ⟨rfl, below_drewN0 HB2.out _⟩
end Go.Proofs.Ytofdhdafabmhmaa.Giv
end
section
namespace Go.Proofs.Ytofdhdafabmhmaa.Giv
open Go.RowKit Go.Proofs.YtofdhdafabmhmaaW.PrintWords Go.Proofs.YtofdhdafabmhmaaW.PrintLast Go.Proofs.YtofdhdafabmhmaaW.PrintMore Go.Proofs.Ytofdhdafabmhmaa.PLr
open Go.Proofs.Ytofdhdafabmhmaa.Opn Go.BigFrame
/-- Does an identifier begin at a place? -/
def begF (k : Nat) (s : ByteArray) (i : Nat) : Option Bool := (isF token_lexer_begins_1.f s i).bind fun m => if m = true then ((isF token_lexer_begins_1.f s (i + 1)).bind fun a => if a = true then some true else ((isF token_Letter.f s (i + 1)).bind fun b => if b = true then some true else escF k s (i + 1)))
    else ((isF token_Letter.f s i).bind fun a => if a = true then some true else escF k s i)
theorem begF.mono : ∀ s i k, LeO (begF k s i) (begF (k + 1) s i) := by
  intro s i k; unfold begF; repeat' first
      | (with_reducible exact escF.mono _ _ _)
      | (with_reducible first | exact LeO.refl _ | exact LeO.none _ | refine LeO.ite ?_ ?_ | refine LeO.bind ?_ (fun _ => ?_))
set_option maxHeartbeats 8000000 in
set_option maxRecDepth 100000 in
theorem begins_calls (k : Nat) (s : ByteArray) (g i : Nat) (hs : s.size ≤ 140737488351232) (hi : i ≤ s.size) (r : Bool) (w : World) (h : Lx w g s i) (hf : begF k s i = some r) :
    Calls Try.prog 58 #[.pointer (some ⟨g, 0, none⟩)] w fun e w' => e = .returned (.bool r) ∧ Below w.heap.size w w' := by
  have HS := am_ hs; have HX := am_ h; have HB := am_ (Below.refl w.heap.size w); have HJ0 := am_ (show i ≤ 140737488351300 by omega); have HJ1 := am_ (show i + 1 ≤ 140737488351300 by omega); have HW0 := am_ (show IntKind.i64.wrap (i : Int) = (i : Int) from wrapE i 0 (by omega)); have HW1 := am_ (show IntKind.i64.wrap ((i : Int) + 1) = ((i + 1 : Nat) : Int) from wrapE i 1 (by omega)); unfold begF at hf; obtain ⟨m, hm, hf⟩ := bs_ hf; have A1 := am_ hm; clear hm h hs hi; cases m
  · rw [if_neg (by decide)] at hf
    obtain ⟨a, ha, hf⟩ := bs_ hf; have A2 := am_ ha; clear ha; cases a
    · rw [if_neg (by decide)] at hf
      have A3 := am_ hf; clear hf; go_enter Try.func58, Try.ntmps58
      go_wp2_with (first | (go_at_call 56; with_reducible refine (is_minus0 s g i i HS.out HW0.out _ _ ?lx A1.out).mono ?_; (case lx => exact (by repeat (first | (with_reducible first | exact HX.out | apply Lx.drewN | apply Lx.drew)))); rintro e wi ⟨rfl, ⟨ni, rfl⟩⟩) | (go_at_call 56; with_reducible refine (is_letter0 s g i i HS.out HW0.out _ _ ?lx A2.out).mono ?_; (case lx => exact (by repeat (first | (with_reducible first | exact HX.out | apply Lx.drewN | apply Lx.drew)))); rintro e wi ⟨rfl, ⟨ni, rfl⟩⟩) | (go_at_call 75; with_reducible refine (escape_0 k s g i i HS.out HJ0.out HW0.out _ _ ?lx A3.out).mono ?_; (case lx => exact (by repeat (first | (with_reducible first | exact HX.out | apply Lx.drewN | apply Lx.drew)))); rintro e wi ⟨rfl, hb⟩; have HX2 := am_ (Lx.below (by repeat (first | (with_reducible first | exact HX.out | apply Lx.drewN | apply Lx.drew))) hb); have HB2 := am_ (below_step (by repeat (first | (with_reducible first | exact HB.out | apply below_drewN0 | apply below_drew1))) hb); clear hb HX HB; have HX := HX2; have HB := HB2; clear HX2 HB2))
      go_ret
      exact ⟨rfl, (by repeat (first | (with_reducible first | exact HB.out | apply below_drewN0 | apply below_drew1)))⟩
    rw [if_pos rfl] at hf; obtain rfl := si_ hf; clear hf; go_enter Try.func58, Try.ntmps58
    go_wp2_with (first | (go_at_call 56; with_reducible refine (is_minus0 s g i i HS.out HW0.out _ _ ?lx A1.out).mono ?_; (case lx => exact (by repeat (first | (with_reducible first | exact HX.out | apply Lx.drewN | apply Lx.drew)))); rintro e wi ⟨rfl, ⟨ni, rfl⟩⟩) | (go_at_call 56; with_reducible refine (is_letter0 s g i i HS.out HW0.out _ _ ?lx A2.out).mono ?_; (case lx => exact (by repeat (first | (with_reducible first | exact HX.out | apply Lx.drewN | apply Lx.drew)))); rintro e wi ⟨rfl, ⟨ni, rfl⟩⟩))
    go_ret
    exact ⟨rfl, (by repeat (first | (with_reducible first | exact HB.out | apply below_drewN0 | apply below_drew1)))⟩
  rw [if_pos rfl] at hf; obtain ⟨a, ha, hf⟩ := bs_ hf; have A2 := am_ ha; clear ha; cases a
  · rw [if_neg (by decide)] at hf
    obtain ⟨b, hb, hf⟩ := bs_ hf; have A3 := am_ hb; clear hb; cases b
    · rw [if_neg (by decide)] at hf
      have A4 := am_ hf; clear hf; go_enter Try.func58, Try.ntmps58
      go_wp2_with (first | (go_at_call 56; with_reducible refine (is_minus0 s g i i HS.out HW0.out _ _ ?lx A1.out).mono ?_; (case lx => exact (by repeat (first | (with_reducible first | exact HX.out | apply Lx.drewN | apply Lx.drew)))); rintro e wi ⟨rfl, ⟨ni, rfl⟩⟩) | (go_at_call 56; with_reducible refine (is_minus1 s g i (i + 1) HS.out HW1.out _ _ ?lx A2.out).mono ?_; (case lx => exact (by repeat (first | (with_reducible first | exact HX.out | apply Lx.drewN | apply Lx.drew)))); rintro e wi ⟨rfl, ⟨ni, rfl⟩⟩) | (go_at_call 56; with_reducible refine (is_letter1 s g i (i + 1) HS.out HW1.out _ _ ?lx A3.out).mono ?_; (case lx => exact (by repeat (first | (with_reducible first | exact HX.out | apply Lx.drewN | apply Lx.drew)))); rintro e wi ⟨rfl, ⟨ni, rfl⟩⟩) | (go_at_call 75; with_reducible refine (escape_1 k s g i (i + 1) HS.out HJ1.out HW1.out _ _ ?lx A4.out).mono ?_; (case lx => exact (by repeat (first | (with_reducible first | exact HX.out | apply Lx.drewN | apply Lx.drew)))); rintro e wi ⟨rfl, hb⟩; have HX2 := am_ (Lx.below (by repeat (first | (with_reducible first | exact HX.out | apply Lx.drewN | apply Lx.drew))) hb); have HB2 := am_ (below_step (by repeat (first | (with_reducible first | exact HB.out | apply below_drewN0 | apply below_drew1))) hb); clear hb HX HB; have HX := HX2; have HB := HB2; clear HX2 HB2))
      go_ret
      exact ⟨rfl, (by repeat (first | (with_reducible first | exact HB.out | apply below_drewN0 | apply below_drew1)))⟩
    rw [if_pos rfl] at hf; obtain rfl := si_ hf; clear hf; go_enter Try.func58, Try.ntmps58
    go_wp2_with (first | (go_at_call 56; with_reducible refine (is_minus0 s g i i HS.out HW0.out _ _ ?lx A1.out).mono ?_; (case lx => exact (by repeat (first | (with_reducible first | exact HX.out | apply Lx.drewN | apply Lx.drew)))); rintro e wi ⟨rfl, ⟨ni, rfl⟩⟩) | (go_at_call 56; with_reducible refine (is_minus1 s g i (i + 1) HS.out HW1.out _ _ ?lx A2.out).mono ?_; (case lx => exact (by repeat (first | (with_reducible first | exact HX.out | apply Lx.drewN | apply Lx.drew)))); rintro e wi ⟨rfl, ⟨ni, rfl⟩⟩) | (go_at_call 56; with_reducible refine (is_letter1 s g i (i + 1) HS.out HW1.out _ _ ?lx A3.out).mono ?_; (case lx => exact (by repeat (first | (with_reducible first | exact HX.out | apply Lx.drewN | apply Lx.drew)))); rintro e wi ⟨rfl, ⟨ni, rfl⟩⟩))
    go_ret
    exact ⟨rfl, (by repeat (first | (with_reducible first | exact HB.out | apply below_drewN0 | apply below_drew1)))⟩
  rw [if_pos rfl] at hf; obtain rfl := si_ hf; clear hf; go_enter Try.func58, Try.ntmps58
  go_wp2_with (first | (go_at_call 56; with_reducible refine (is_minus0 s g i i HS.out HW0.out _ _ ?lx A1.out).mono ?_; (case lx => exact (by repeat (first | (with_reducible first | exact HX.out | apply Lx.drewN | apply Lx.drew)))); rintro e wi ⟨rfl, ⟨ni, rfl⟩⟩) | (go_at_call 56; with_reducible refine (is_minus1 s g i (i + 1) HS.out HW1.out _ _ ?lx A2.out).mono ?_; (case lx => exact (by repeat (first | (with_reducible first | exact HX.out | apply Lx.drewN | apply Lx.drew)))); rintro e wi ⟨rfl, ⟨ni, rfl⟩⟩))
  go_ret
  exact ⟨rfl, (by repeat (first | (with_reducible first | exact HB.out | apply below_drewN0 | apply below_drew1)))⟩
end Go.Proofs.Ytofdhdafabmhmaa.Giv
end
section
namespace Go.Proofs.Ytofdhdafabmhmaa.Giv
open Go.RowKit Go.Proofs.YtofdhdafabmhmaaW.PrintWords Go.Proofs.YtofdhdafabmhmaaW.PrintLast Go.Proofs.YtofdhdafabmhmaaW.PrintMore Go.Proofs.Ytofdhdafabmhmaa.PLr
open Go.Proofs.Ytofdhdafabmhmaa.Opn Go.BigFrame
/-- All is kept but the lexer's block. -/
structure Lk (g : Nat) (w w' : World) : Prop where
  os : w'.os = w.os
  tape : w'.tape = w.tape
  output : w'.output = w.output
  size : w.heap.size ≤ w'.heap.size
  heap : ∀ k, k < w.heap.size → k ≠ g → w'.heap[k]? = w.heap[k]?
theorem Lx.setv {W : World} {g : Nat} {s : ByteArray} {i : Nat} (h : Lx W g s i) {v : Int} {j : Nat} (hv : v = (j : Int)) : Lx (W.setCell ⟨g, 1, none⟩ (.int .i64 v)) g s j := by
  subst hv; exact h.set j
theorem Lk.refl (g : Nat) (w : World) : Lk g w w := ⟨rfl, rfl, rfl, Nat.le_refl _, fun _ _ _ => rfl⟩
theorem Lk.trans {g : Nat} {w w1 w2 : World} (h : Lk g w w1) (k : Lk g w1 w2) : Lk g w w2 :=
  ⟨k.os.trans h.os, k.tape.trans h.tape, k.output.trans h.output, Nat.le_trans h.size k.size, fun i hi hg => (k.heap i (Nat.lt_of_lt_of_le hi h.size) hg).trans (h.heap i hi hg)⟩
theorem Lk.of_below {g : Nat} {w w' : World} (h : Below w.heap.size w w') : Lk g w w' := ⟨h.os, h.tape, h.output, h.size, fun k hk _ => h.block k hk⟩
theorem Lk.call {g : Nat} {w w1 w2 : World} (h : Lk g w w1) (k : Below w1.heap.size w1 w2) : Lk g w w2 := h.trans (Lk.of_below k)
theorem Lk.drewN {g : Nat} {w w1 : World} (h : Lk g w w1) (n : Nat) : Lk g w (w1.drewN n) := h.trans ⟨rfl, rfl, rfl, Nat.le_refl _, fun _ _ _ => rfl⟩
theorem Lk.drew {g : Nat} {w w1 : World} (h : Lk g w w1) : Lk g w w1.drew := h.trans ⟨rfl, rfl, rfl, Nat.le_refl _, fun _ _ _ => rfl⟩
theorem Lk.set {g : Nat} {w w1 : World} (h : Lk g w w1) (o : Nat) (v : Value) : Lk g w (w1.setCell ⟨g, o, none⟩ v) :=
  h.trans ⟨rfl, rfl, rfl, by simp [World.setCell], fun k hk hg => Below.heap_setCell w1 _ v k hg⟩
theorem Lk.below {g B : Nat} {a w w' : World} (hb : Below B a w) (h : Lk g w w') (hg : B ≤ g) (hB : B ≤ w.heap.size) : Below B a w' :=
  hb.trans ⟨h.os, h.tape, h.output, h.size, fun k hk => h.heap k (Nat.lt_of_lt_of_le hk hB) (by omega)⟩
theorem Lk.at {g k : Nat} {w w' : World} {o : Obj} (h : Lk g w w') (hk : w.heap[k]? = some o) (hg : k ≠ g) : w'.heap[k]? = some o := (h.heap k (Array.getElem?_eq_some_iff.1 hk).1 hg).trans hk
/-- Where the blanks end (a comment: none). -/
def skipF : Nat → ByteArray → Nat → Option Nat
  | 0, _, _ => none
  | k + 1, s, i => if i < s.size then ((token_blank.f (bt s (i : Nat))).bind fun b => if b = true then skipF k s (i + 1) else ((strings_HasPrefix.f (s.extract i s.size) (⟨#[47, 42]⟩ : ByteArray)).bind fun p => if p = true then none else some i)) else some i
theorem skipF.mono : ∀ k s i, LeO (skipF k s i) (skipF (k + 1) s i)
  | 0, s, i => LeO.none _
  | k + 1, s, i => by
    unfold skipF; repeat' first
      | exact skipF.mono k _ _
      | (with_reducible first | exact LeO.refl _ | exact LeO.none _ | refine LeO.ite ?_ ?_ | refine LeO.bind ?_ (fun _ => ?_))
set_option maxHeartbeats 8000000 in
set_option maxRecDepth 100000 in
theorem skip_calls (k : Nat) (s : ByteArray) (g i r : Nat) (hs : s.size ≤ 140737488351232) (hi : i ≤ s.size) (w : World) (h : Lx w g s i) (hf : skipF k s i = some r) :
    Calls Try.prog 40 #[.pointer (some ⟨g, 0, none⟩)] w fun e w' => e = .returned (.tuple #[]) ∧ Lx w' g s r ∧ Lk g w w' := by
  have hu := Try.underlying77; have hut := Try.underlying9; have HS := am_ hs; have HF := am_ hf; have H1 := am_ h; have HI := am_ hi; clear hf h hs hi; go_enter Try.func40, Try.ntmps40
  go_wp2; go_loopg [] k (fun kq wr => ∃ i : Nat, Aside0 (i ≤ s.size) ∧ Aside0 (skipF kq s i = some r) ∧ Aside0 (Lx wr g s i) ∧ Aside0 (Lk g w wr))
  case atStart => exact ⟨i, HI, HF, H1, ⟨Lk.refl g w⟩⟩
  case round =>
    clear HF H1 HI; obtain ⟨i, HI, HF, HX, HK⟩ := hrel
    cases gk with
    | zero => exact absurd HF.out (by simp [skipF])
    | succ k2 =>
      have hf := HF.out; have hi := HI.out; have hs := HS.out; have hc0 := HX.out.s; have hc1 := HX.out.i; have hz1 := blk_frozen HX.out 1; clear HF; unfold skipF at hf; by_cases hlt : i < s.size
      · rw [if_pos hlt] at hf
        obtain ⟨b, hb, hf⟩ := bs_ hf; have A1 := am_ hb; have HLT := am_ hlt; have hw1 : IntKind.i64.wrap ((i : Int) + 1) = ((i + 1 : Nat) : Int) := wrapE i 1 (by omega); have hw2 : wrap64 ((i : Int) + 1) = ((i + 1 : Nat) : Int) := by rw [← i64_w]; exact hw1
        have q0 : (0 ≤ (i : Int)) = True := eq_true (by omega); have q1 : ((i : Int) < (s.size : Int)) = True := eq_true (by omega); have q2 : decide ((i : Int) < (s.size : Int)) = true := dt_ (by omega); have q3 : decide (i < s.size) = true := dt_ hlt; have q4 : (i < s.size) = True := eq_true hlt; have hx : ∀ h : i < s.size, ((s[i].toNat : Nat) : Int) = bt s (i : Nat) := fun h => bt_at s (i : Int) (by simpa using h)
        clear hb; cases b
        · rw [if_neg (by decide)] at hf
          obtain ⟨p, hp, hf⟩ := bs_ hf; have A2 := am_ hp; clear hp; cases p
          · rw [if_neg (by decide)] at hf
            obtain rfl := si_ hf; have hcut : ∀ W, (Instr.slice 9 (.string s) (some (.int .i64 (i : Int))) none none).run Try.prog W = .ok (.string (s.extract i s.size)) W := fun W => by
              have q5 : ((i : Int) ≤ (s.size : Int)) = True := eq_true (by omega); simp [go_sem, hut, q0, q5]
            clear hf hi hs hlt; go_wp2; refine wp_region_quiet_lit (by kernel_rfl) (by kernel_rfl) ?_
            repeat (go_big_quiet_step (fail))
            refine wpQuiet_nil ?_
            intro _ hw'; obtain ⟨nq, hw''⟩ := hw'; subst hw''; go_wp2; refine wp_region_quiet_lit (by kernel_rfl) (by kernel_rfl) ?_
            repeat (go_big_quiet_step (fail))
            refine qcall (some 23) rfl Try.func53 (by kernel_rfl) rfl #[.int .u8 (bt s (i : Nat))] (.bool false) (by rfl) rfl goa_ (fun w1 hw1 => ?_) ?_
            · obtain ⟨n1, rfl⟩ := hw1
              refine (token_blank.calls _ _ _ A1.out).mono ?_
              rintro e w2 ⟨rfl, ⟨m1, rfl⟩⟩
              exact ⟨rfl, ⟨n1 + m1, by simp [World.drewN, Nat.add_assoc]⟩⟩
            simp only [Act.put, List.setIfInBounds_toArray, List.set_cons_zero, List.set_cons_succ]; repeat (go_big_quiet_step (fail))
            refine wpQuiet_nil ?_
            intro _ hw'; obtain ⟨nq, hw''⟩ := hw'; subst hw''; go_wp2; refine wp_region_quiet_lit (by kernel_rfl) (by kernel_rfl) ?_
            repeat (go_big_quiet_step (fail))
            refine qcall (some 41) rfl Try.func54 (by kernel_rfl) rfl #[.string (s.extract i s.size), .string (⟨#[47, 42]⟩ : ByteArray)] (.bool false) (by rfl) rfl goa_ (fun w1 hw1 => ?_) ?_
            · obtain ⟨n1, rfl⟩ := hw1
              refine (strings_HasPrefix.calls _ _ _ _ A2.out).mono ?_
              rintro e w2 ⟨rfl, ⟨m1, rfl⟩⟩
              exact ⟨rfl, ⟨n1 + m1, by simp [World.drewN, Nat.add_assoc]⟩⟩
            simp only [Act.put, List.setIfInBounds_toArray, List.set_cons_zero, List.set_cons_succ]; repeat (go_big_quiet_step (fail))
            refine wpQuiet_nil ?_
            intro _ hw'; obtain ⟨nq, hw''⟩ := hw'; subst hw''; go_wp2; refine bodyPost_ret (results_none rfl _ _ _) rfl ?_
            exact ⟨rfl, (by repeat (first | (with_reducible first | exact HX.out | apply Lx.drewN | apply Lx.drew | apply Lx.set))), (by repeat (first | (with_reducible first | exact HK.out | apply Lk.drewN | apply Lk.drew | apply Lk.set)))⟩
          rw [if_pos rfl] at hf; cases hf
        rw [if_pos rfl] at hf; have A2 := am_ hf; clear hf hi hs hlt; go_wp2; refine wp_region_quiet_lit (by kernel_rfl) (by kernel_rfl) ?_
        repeat (go_big_quiet_step (fail))
        refine wpQuiet_nil ?_
        intro _ hw'; obtain ⟨nq, hw''⟩ := hw'; subst hw''; go_wp2; refine wp_region_quiet_lit (by kernel_rfl) (by kernel_rfl) ?_
        repeat (go_big_quiet_step (fail))
        refine qcall (some 23) rfl Try.func53 (by kernel_rfl) rfl #[.int .u8 (bt s (i : Nat))] (.bool true) (by rfl) rfl goa_ (fun w1 hw1 => ?_) ?_
        · obtain ⟨n1, rfl⟩ := hw1
          refine (token_blank.calls _ _ _ A1.out).mono ?_
          rintro e w2 ⟨rfl, ⟨m1, rfl⟩⟩
          exact ⟨rfl, ⟨n1 + m1, by simp [World.drewN, Nat.add_assoc]⟩⟩
        simp only [Act.put, List.setIfInBounds_toArray, List.set_cons_zero, List.set_cons_succ]; repeat (go_big_quiet_step (fail))
        refine wpQuiet_nil ?_
        intro _ hw'; obtain ⟨nq, hw''⟩ := hw'; subst hw''; go_wp2; go_roundg k2
        case measure => omega
        case rel => exact ⟨i + 1, ⟨HLT.out⟩, A2, ⟨Lx.setv (by repeat (first | (with_reducible first | exact HX.out | apply Lx.drewN | apply Lx.drew | apply Lx.set))) (by omega)⟩, ⟨(by repeat (first | (with_reducible first | exact HK.out | apply Lk.drewN | apply Lk.drew | apply Lk.set)))⟩⟩
      rw [if_neg hlt] at hf; obtain rfl := si_ hf; have q1 : ((i : Int) < (s.size : Int)) = False := eq_false (by omega); have q2 : decide ((i : Int) < (s.size : Int)) = false := df_ (by omega); have q3 : decide (i < s.size) = false := df_ hlt; have q4 : (i < s.size) = False := eq_false hlt; clear hf hi hs hlt; go_wp2; refine wp_region_quiet_lit (by kernel_rfl) (by kernel_rfl) ?_
      repeat (go_big_quiet_step (fail))
      refine wpQuiet_nil ?_
      intro _ hw'; obtain ⟨nq, hw''⟩ := hw'; subst hw''; go_wp2; go_end0
      exact ⟨rfl, (by repeat (first | (with_reducible first | exact HX.out | apply Lx.drewN | apply Lx.drew | apply Lx.set))), (by repeat (first | (with_reducible first | exact HK.out | apply Lk.drewN | apply Lk.drew | apply Lk.set)))⟩
end Go.Proofs.Ytofdhdafabmhmaa.Giv
end
section
/- The contracts of (*strings.Builder).copyCheck and WriteString, by hand, of a builder that the call itself has made. Condition: what is held and what is written is at most 2^47 bytes. -/
namespace Go.Proofs.Ytofdhdafabmhmaa.Giv
open Go.RowKit

theorem builder_size : (Try.prog.info? 100).map (·.size) = some 2 := by kernel_rfl
theorem builder_lies : liesAt Try.prog Try.prog.depth 100 (2 / Try.prog.cellsOf 100) 0 100 1 = true := by kernel_rfl
theorem byte_info : (Try.prog.info? 5).map (fun i => (i.zero, i.size, i.bytes)) = some (some (.int .u8 0), 1, 1) := by kernel_rfl

set_option maxHeartbeats 1000000 in
set_option maxRecDepth 100000 in
theorem copyCheck_used (b : Nat) (w : World) (h0 : w.cell? ⟨b, 0, none⟩ = some (.pointer (some ⟨b, 0, none⟩))) :
    Calls Try.prog 90 #[.pointer (some ⟨b, 0, none⟩)] w fun e w' => e = .returned (.tuple #[]) ∧ w' = w := by
  obtain ⟨j, hj, _⟩ := Option.map_eq_some_iff.1 builder_size; have ht := Try.underlying98; have hs := Lib.run_neq_ptr_same w (⟨b, 0, none⟩ : Addr) ht hj; go_enter Try.func90, Try.ntmps90
  go_wp2; go_end0
  exact ⟨rfl, rfl⟩

set_option maxHeartbeats 1000000 in
set_option maxRecDepth 100000 in
theorem copyCheck_fresh (b : Nat) (w : World) (h0 : w.cell? ⟨b, 0, none⟩ = some (.pointer none)) (hsh : w.shape? b = some (100, 2)) (hfz : w.frozen? ⟨b, 0, none⟩ = false) :
    Calls Try.prog 90 #[.pointer (some ⟨b, 0, none⟩)] w fun e w' => e = .returned (.tuple #[]) ∧ w' = w.setCell ⟨b, 0, none⟩ (.pointer (some ⟨b, 0, none⟩)) := by
  obtain ⟨j, hj, hjs⟩ := Option.map_eq_some_iff.1 builder_size; have ht := Try.underlying98; have hu := Try.underlying116; go_enter Try.func90, Try.ntmps90
  go_wp2; rw [Lib.run_to_unsafe w ⟨b, 0, none⟩ ht hu hj (by rw [hjs]; decide) hsh (Nat.zero_lt_succ 1)]
  simp only [Result.andThen]; rw [Oper.upon_value]; go_wp2; rw [run_callFunc_extern Try.func94 (by kernel_rfl) (by kernel_rfl) (by kernel_rfl) (e := Extern.AbiNoEscape.same) (by kernel_rfl)]; rw [Lib.run_noEscape]; simp only [Result.andThen]; rw [Oper.upon_value]; go_wp2; rw [Lib.run_from_unsafe w ⟨b, 0, none⟩ hu ht hj hsh builder_lies]; simp only [Result.andThen]; rw [Oper.upon_value]; go_wp2; go_end0
  exact ⟨rfl, rfl⟩

theorem copyCheck_calls (B b : Nat) (bs : List Value) (w : World) (h : Lib.IsBuilder 100 5 B b bs w) :
    Calls Try.prog 90 #[.pointer (some ⟨b, 0, none⟩)] w fun e w' => e = .returned (.tuple #[]) ∧ (Lib.BuilderAt 100 5 B b (.pointer (some ⟨b, 0, none⟩)) bs w' ∧ Below B w w') := by
  rcases h with h | h
  · refine (copyCheck_fresh b w h.cell0 h.shape h.frozen0).mono ?_
    rintro e w' ⟨rfl, rfl⟩
    exact ⟨rfl, h.used _, (Below.refl B w).setCell (p := ⟨b, 0, none⟩) h.1 _⟩
  refine (copyCheck_used b w h.cell0).mono ?_
  rintro e w' ⟨rfl, rfl⟩
  exact ⟨rfl, h, Below.refl B _⟩

set_option maxHeartbeats 2000000 in
set_option maxRecDepth 100000 in
theorem writeString_calls (B b : Nat) (bs : List Value) (s : ByteArray) (w : World) (h : Lib.IsBuilder 100 5 B b bs w) (hlen : bs.length + s.size ≤ 140737488355328) (hBw : B ≤ w.heap.size) :
    Calls Try.prog 80 #[.pointer (some ⟨b, 0, none⟩), .string s] w fun e w' => e = .returned (.tuple #[.int .i64 s.size, .nilIface]) ∧ (Lib.BuilderAt 100 5 B b (.pointer (some ⟨b, 0, none⟩)) (bs ++ Lib.strCells s) w' ∧ Below B w w') := by
  obtain ⟨i0, hi, hz0, hz1, hz2⟩ := info_parts byte_info; go_enter Try.func80, Try.ntmps80
  go_wp2_with (go_at_call 90; refine (copyCheck_calls B b bs _ h).mono ?_)
  rintro e w1 ⟨rfl, h1, hb1⟩
  have hlt := h1.lt; obtain ⟨hB, v, hbk, hown, hne⟩ := h1; have c0 : w1.cell? ⟨b, 0, none⟩ = some (.pointer (some ⟨b, 0, none⟩)) := by rw [Lib.cell_of_heap hbk]; rfl
  have c1 : w1.cell? ⟨b, 1, none⟩ = some v := by rw [Lib.cell_of_heap hbk]; rfl
  go_wp2_with (at_builtin; refine Lib.wpList_append_own_string _ rfl _ _ 65 9 rfl B 5 i0 Try.underlying65 Try.underlying9 hi hz0 hz1 hz2 _ _ _ rfl hown s rfl ?c3 ?c4 ?c5 ?_)
  case c3 => unfold maxLen; omega
  case c4 => omega
  case c5 => have := hb1.size; omega
  intro v' w2 hown' hgrow _; have hb2 : w2.heap[b]? = some (.cells #[.pointer (some ⟨b, 0, none⟩), v] 100 (0, 0)) := (hgrow.block b hlt (fun e => hne e.symm)).trans hbk; have d0 : w2.cell? ⟨b, 0, none⟩ = some (.pointer (some ⟨b, 0, none⟩)) := by rw [Lib.cell_of_heap hb2]; rfl
  have d1 : w2.cell? ⟨b, 1, none⟩ = some v := by rw [Lib.cell_of_heap hb2]; rfl
  have f1 : w2.frozen? ⟨b, 1, none⟩ = false := Lib.frozen_of_heap hb2 1; obtain ⟨ao, n', cap, rfl⟩ : ∃ ao n' cap, v' = .slice ao n' cap := by
    rcases hown'.2 with ⟨hv, _⟩ | ⟨g, cap, cur, hv, _⟩
    · exact ⟨_, _, _, hv⟩
    exact ⟨_, _, _, hv⟩
  go_wp2; go_ret2
  refine ⟨rfl, ?_, ?_⟩
  · exact Lib.BuilderAt.put (T := 100) (e := 5) hB hb2 (bs' := bs ++ Lib.strCells s) (by simpa [Lib.strCells_length] using hown') (by decide)
  exact (hb1.grown hgrow (by have := hb1.size; omega) (fun k hk => (hown.lt k hk).1)).setCell (p := ⟨b, 1, none⟩) hB _
end Go.Proofs.Ytofdhdafabmhmaa.Giv
end
section
namespace Go.Proofs.Ytofdhdafabmhmaa.Giv
open Go.RowKit Go.Proofs.YtofdhdafabmhmaaW.PrintWords Go.Proofs.YtofdhdafabmhmaaW.PrintLast Go.Proofs.YtofdhdafabmhmaaW.PrintMore Go.Proofs.Ytofdhdafabmhmaa.PLr
open Go.Proofs.Ytofdhdafabmhmaa.Opn Go.BigFrame
theorem Lx.fz {W : World} {g : Nat} {s : ByteArray} {i : Nat} (h : Lx W g s i) : W.frozen? ⟨g, 1, none⟩ = false := blk_frozen h 1
def byteAt (s : ByteArray) (i : Nat) : UInt8 := UInt8.ofNat (bt s (i : Nat)).toNat
theorem byteAt_val (s : ByteArray) (i : Nat) : ((byteAt s i).toNat : Int) = bt s (i : Nat) := by
  have := bt_range s (i : Nat)
  unfold byteAt; rw [UInt8.toNat_ofNat']; omega
theorem isB_keep {T e : TypeId} {B b : Nat} {l : List Value} {w w' : World} (h : Lib.IsBuilder T e B b l w) (hk : ∀ k, B ≤ k → k < w.heap.size → w'.heap[k]? = w.heap[k]?) : Lib.IsBuilder T e B b l w' := by
  have key : ∀ p, Lib.BuilderAt T e B b p l w → Lib.BuilderAt T e B b p l w' := by
    intro p hp; have hlt := hp.lt; obtain ⟨hB, v, hbk, hown, hne⟩ := hp; refine ⟨hB, v, (hk b hB hlt).trans hbk, ⟨hown.1, ?_⟩, hne⟩
    rcases hown.2 with h1 | ⟨g, cap, cur, hv, hg, hc, h4⟩
    · exact Or.inl h1
    exact Or.inr ⟨g, cap, cur, hv, hg, (hk g hg (Array.getElem?_eq_some_iff.1 hc).1).trans hc, h4⟩
  rcases h with h | h
  · exact Or.inl (key _ h)
  exact Or.inr (key _ h)
theorem isB_drewN {T e : TypeId} {B b : Nat} {l : List Value} {w : World} (h : Lib.IsBuilder T e B b l w) (n : Nat) : Lib.IsBuilder T e B b l (w.drewN n) := h
theorem isB_drew {T e : TypeId} {B b : Nat} {l : List Value} {w : World} (h : Lib.IsBuilder T e B b l w) : Lib.IsBuilder T e B b l w.drew := h
theorem isB_call {T e : TypeId} {B b : Nat} {l : List Value} {w w' : World} (h : Lib.IsBuilder T e B b l w) (hb : Below w.heap.size w w') : Lib.IsBuilder T e B b l w' := isB_keep h (fun k _ hk => hb.block k hk)
theorem isB_set {T e : TypeId} {B b g o : Nat} {v : Value} {l : List Value} {w : World} (h : Lib.IsBuilder T e B b l w) (hg : g < B) : Lib.IsBuilder T e B b l (w.setCell ⟨g, o, none⟩ v) :=
  isB_keep h (fun k hk _ => Below.heap_setCell w _ v k (show k ≠ g by omega))
theorem Lx.lower {W W' : World} {g B : Nat} {s : ByteArray} {i : Nat} (h : Lx W g s i) (hb : Below B W W') (hg : g < B) : Lx W' g s i := (hb.block g hg).trans h
theorem Lk.lower {g B : Nat} {w w1 w2 : World} (h : Lk g w w1) (k : Below B w1 w2) (hB : w.heap.size ≤ B) : Lk g w w2 :=
  ⟨k.os.trans h.os, k.tape.trans h.tape, k.output.trans h.output, Nat.le_trans h.size k.size, fun i hi hg => (k.block i (by omega)).trans (h.heap i hi hg)⟩
theorem built1 {T e : TypeId} {B b : Nat} {l : List UInt8} {c : UInt8} {v : Int} {w : World} (hv : v = (c.toNat : Int)) (h : Lib.BuilderAt T e B b (.pointer (some ⟨b, 0, none⟩)) (Lib.byteCells l ++ [.int .u8 v]) w) : Lib.IsBuilder T e B b (Lib.byteCells (l ++ [c])) w := Or.inr (by
  subst hv; unfold Lib.byteCells at *; rw [List.map_append]; exact h)
theorem builtS {T e : TypeId} {B b : Nat} {l : List UInt8} {r : ByteArray} {w : World} (h : Lib.BuilderAt T e B b (.pointer (some ⟨b, 0, none⟩)) (Lib.byteCells l ++ Lib.strCells r) w) : Lib.IsBuilder T e B b (Lib.byteCells (l ++ r.data.toList)) w := Or.inr (by
  unfold Lib.byteCells Lib.strCells at *; rw [List.map_append]; exact h)
set_option maxHeartbeats 2000000 in
set_option maxRecDepth 100000 in
theorem writeByte_calls (B b : Nat) (bs : List Value) (c : Int) (w : World) (h : Lib.IsBuilder 100 5 B b bs w) (hlen : bs.length + 1 ≤ 140737488355328) (hBw : B ≤ w.heap.size) :
    Calls Try.prog 78 #[.pointer (some ⟨b, 0, none⟩), .int .u8 c] w fun e w' => e = .returned .nilIface ∧ (Lib.BuilderAt 100 5 B b (.pointer (some ⟨b, 0, none⟩)) (bs ++ [.int .u8 c]) w' ∧ Below B w w') := by
  obtain ⟨i0, hi, hz0, hz1, hz2⟩ := info_parts byte_info; go_enter Try.func78, Try.ntmps78
  go_wp2_with (go_at_call 90; refine (copyCheck_calls B b bs _ h).mono ?_)
  rintro e w1 ⟨rfl, h1, hb1⟩
  have hlt := h1.lt; obtain ⟨hB, v, hbk, hown, hne⟩ := h1; have c0 : w1.cell? ⟨b, 0, none⟩ = some (.pointer (some ⟨b, 0, none⟩)) := by rw [Lib.cell_of_heap hbk]; rfl
  have c1 : w1.cell? ⟨b, 1, none⟩ = some v := by rw [Lib.cell_of_heap hbk]; rfl
  go_wp2_with (at_builtin; refine wpList_append_own _ rfl _ _ 65 rfl B 5 i0 (.int .u8 0) 1 1 Try.underlying65 hi hz0 hz1 hz2 rfl (by decide) _ _ _ rfl (hown.alloc _) ⟨w1.heap.size, 0, none⟩ 1 1 [.int .u8 c] rfl rfl ?c1 ?c2 ?c3 ?c4 ?c5 ?_)
  case c1 =>
    intro j u hj; match j, hj with
    | 0, hj => simp at hj; subst hj; simp [Addr.add]
  case c2 => intro u hu; simp at hu; subst hu; rfl
  case c3 => unfold maxLen; omega
  case c4 => omega
  case c5 => have := hb1.size; simp; omega
  intro v' w2 hown' hgrow _; have hb2 : w2.heap[b]? = some (.cells #[.pointer (some ⟨b, 0, none⟩), v] 100 (0, 0)) := by
    rw [hgrow.block b (by simp; omega) (fun e => hne e.symm), Lib.alloc_old w1 _ b hlt]; exact hbk
  have d0 : w2.cell? ⟨b, 0, none⟩ = some (.pointer (some ⟨b, 0, none⟩)) := by rw [Lib.cell_of_heap hb2]; rfl
  have d1 : w2.cell? ⟨b, 1, none⟩ = some v := by rw [Lib.cell_of_heap hb2]; rfl
  have f1 : w2.frozen? ⟨b, 1, none⟩ = false := Lib.frozen_of_heap hb2 1; obtain ⟨g, cap, rfl⟩ : ∃ g cap, v' = .slice (some ⟨g, 0, none⟩) (bs.length + 1) cap := by
    rcases hown'.2 with ⟨_, h0⟩ | ⟨g, cap, cur, hv, _⟩
    · omega
    exact ⟨g, cap, hv⟩
  go_wp2; go_ret
  refine ⟨rfl, ?_, ?_⟩
  · exact Lib.BuilderAt.put (T := 100) (e := 5) hB hb2 (bs' := bs ++ [.int .u8 c]) (by simpa using hown') (by decide)
  exact ((hb1.alloc (by have := hb1.size; omega) _).grown hgrow (by have := hb1.size; simp; omega) (fun k hk => (hown.lt k hk).1)).setCell (p := ⟨b, 1, none⟩) hB _
end Go.Proofs.Ytofdhdafabmhmaa.Giv
end
