-- Written by a program of this session (wip/p2) out of the translation; Lean checks it.
import Derived.Test.YtdjfdhnmbimkoaaSq
import Derived.Test.YtdjfdhnmbimkoaaPRsx0
import Derived.Test.YtdjfdhnmbimkoaaPRsx13
import Derived.Test.YtdjfdhnmbimkoaaPRsx14
import Derived.Test.YtdjfdhnmbimkoaaPRsx15
import Derived.Test.YtdjfdhnmbimkoaaPRsx18
namespace Go.Proofs.Ytdjfdhnmbimkoaa.PRs
open Go.RowKit Go.Proofs.YtdjfdhnmbimkoaaW.PrintWords Go.Proofs.YtdjfdhnmbimkoaaW.PrintLast Go.Proofs.YtdjfdhnmbimkoaaW.PrintMore
attribute [local go_sem] max2_int min2_int max_two min_two max_three min_three max_four min_four   -- for this text's walks alone
set_option linter.unusedVariables false
set_option linter.unusedSimpArgs false
open Go.Proofs.Ytdjfdhnmbimkoaa.Opn Go.Proofs.Ytdjfdhnmbimkoaa.Giv

/-! ### parterreref18_Span: function 59 -/
mutual
def parterreref18_Span.j0 : Nat → List (List ByteArray) → Bool → Int → Int → ByteArray → Int → Int → ByteArray → Option (Bool × Int × Int × Int × Int)
 | 0, _, _, _, _, _, _, _, _ => none
 | k + 1, x0, x29, x292000, x292001, x292002, x293000, x293001, x293002 => if x29 = true then (some (false, 0, 0, 0, 2)) else (if x292000 = 4 then (parterreref18_Span.j1 k x0 (x293000 == 4) x292000 x292001 x292002 x293000 x293001 x293002) else (parterreref18_Span.j1 k x0 false x292000 x292001 x292002 x293000 x293001 x293002))
def parterreref18_Span.j1 : Nat → List (List ByteArray) → Bool → Int → Int → ByteArray → Int → Int → ByteArray → Option (Bool × Int × Int × Int × Int)
 | 0, _, _, _, _, _, _, _, _ => none
 | k + 1, x0, x38, x292000, x292001, x292002, x293000, x293001, x293002 => if x38 = true then (parterreref18_Span.j2 k x0 x292000 x292001 x292002 1 0 (⟨#[]⟩ : ByteArray)) else (parterreref18_Span.j2 k x0 x292000 x292001 x292002 x293000 x293001 x293002)
def parterreref18_Span.j2 : Nat → List (List ByteArray) → Int → Int → ByteArray → Int → Int → ByteArray → Option (Bool × Int × Int × Int × Int)
 | 0, _, _, _, _, _, _, _ => none
 | k + 1, x0, x292000, x292001, x292002, x293000, x293001, x293002 => (parterreref18_certain.f x292000 x292001 x292002).bind fun t296 => (if t296 = true then (parterreref18_Span.j3 k x0 false x292000 x292001 x292002 x293000 x293001 x293002) else ((parterreref18_certain.f x293000 x293001 x293002).bind fun t297 => (parterreref18_Span.j3 k x0 (!t297) x292000 x292001 x292002 x293000 x293001 x293002)))
def parterreref18_Span.j3 : Nat → List (List ByteArray) → Bool → Int → Int → ByteArray → Int → Int → ByteArray → Option (Bool × Int × Int × Int × Int)
 | 0, _, _, _, _, _, _, _, _ => none
 | k + 1, x0, x47, x292000, x292001, x292002, x293000, x293001, x293002 => if x47 = true then ((parterreref18_many.f k x292000 x292001 x292002 x293000 x293001 x293002).bind fun t298 => (some (true, 0, 0, t298, 0))) else ((parterreref18_certain.f x292000 x292001 x292002).bind fun t299 => (if t299 = true then ((parterreref18_certain.f x293000 x293001 x293002).bind fun t300 => (parterreref18_Span.j4 k x0 t300 x292000 x292001 x292002 x293000 x293001 x293002)) else (parterreref18_Span.j4 k x0 false x292000 x292001 x292002 x293000 x293001 x293002)))
def parterreref18_Span.j4 : Nat → List (List ByteArray) → Bool → Int → Int → ByteArray → Int → Int → ByteArray → Option (Bool × Int × Int × Int × Int)
 | 0, _, _, _, _, _, _, _, _ => none
 | k + 1, x0, x57, x292000, x292001, x292002, x293000, x293001, x293002 => if x57 = true then ((parterreref18_at.f k x0 x292000 x292001 x292002 false).bind fun t301 => ((parterreref18_at.f k x0 x293000 x293001 x293002 true).bind fun t302 => (if (mn t301 t302) = (mx t301 t302) then ((parterreref18_Clamp.f (mn t301 t302) (wrap64 ((mx t301 t302) + 1))).bind fun bt303 => (some (false, bt303.1, bt303.2, 0, 0))) else ((parterreref18_Clamp.f (mn t301 t302) (mx t301 t302)).bind fun bt305 => (some (false, bt305.1, bt305.2, 0, 0)))))) else ((parterreref18_certain.f x292000 x292001 x292002).bind fun t307 => (if t307 = true then ((parterreref18_at.f k x0 x292000 x292001 x292002 false).bind fun t308 => ((parterreref18_far.f k x0 t308 x293000 x293001 x293002 1).bind fun t309 => ((parterreref18_Clamp.f t308 t309).bind fun bt310 => (some (false, bt310.1, bt310.2, 0, 0))))) else ((parterreref18_at.f k x0 x293000 x293001 x293002 true).bind fun t312 => ((parterreref18_far.f k x0 t312 x292000 x292001 x292002 (-1)).bind fun t313 => ((parterreref18_Clamp.f t313 t312).bind fun bt314 => (some (false, bt314.1, bt314.2, 0, 0)))))))
end
def parterreref18_Span.f (k : Nat) (l0 : List (List ByteArray)) (a1_0 : Int) (a1_1 : Int) (a1_2 : ByteArray) (a2_0 : Int) (a2_1 : Int) (a2_2 : ByteArray) : Option (Bool × Int × Int × Int × Int) := if (l0.length : Int) = 0 then (parterreref18_Span.j0 k l0 true a1_0 a1_1 a1_2 a2_0 a2_1 a2_2) else (if (l0.length : Int) > 10001 then (parterreref18_Span.j0 k l0 true a1_0 a1_1 a1_2 a2_0 a2_1 a2_2) else ((parterreref07_Good.f k a1_0 a1_1 a1_2).bind fun t294 => (if t294 = true then ((parterreref07_Good.f k a2_0 a2_1 a2_2).bind fun t295 => (parterreref18_Span.j0 k l0 (!t295) a1_0 a1_1 a1_2 a2_0 a2_1 a2_2)) else (parterreref18_Span.j0 k l0 true a1_0 a1_1 a1_2 a2_0 a2_1 a2_2))))
theorem parterreref18_Span.mono_l : ∀ k, (∀ y0 y1 y2 y3 y4 y5 y6 y7, LeO (parterreref18_Span.j0 k y0 y1 y2 y3 y4 y5 y6 y7) (parterreref18_Span.j0 (k + 1) y0 y1 y2 y3 y4 y5 y6 y7)) ∧ (∀ y0 y1 y2 y3 y4 y5 y6 y7, LeO (parterreref18_Span.j1 k y0 y1 y2 y3 y4 y5 y6 y7) (parterreref18_Span.j1 (k + 1) y0 y1 y2 y3 y4 y5 y6 y7)) ∧ (∀ y0 y1 y2 y3 y4 y5 y6, LeO (parterreref18_Span.j2 k y0 y1 y2 y3 y4 y5 y6) (parterreref18_Span.j2 (k + 1) y0 y1 y2 y3 y4 y5 y6)) ∧ (∀ y0 y1 y2 y3 y4 y5 y6 y7, LeO (parterreref18_Span.j3 k y0 y1 y2 y3 y4 y5 y6 y7) (parterreref18_Span.j3 (k + 1) y0 y1 y2 y3 y4 y5 y6 y7)) ∧ (∀ y0 y1 y2 y3 y4 y5 y6 y7, LeO (parterreref18_Span.j4 k y0 y1 y2 y3 y4 y5 y6 y7) (parterreref18_Span.j4 (k + 1) y0 y1 y2 y3 y4 y5 y6 y7))
 | 0 => ⟨fun _ _ _ _ _ _ _ _ r h => by simp [parterreref18_Span.j0] at h, fun _ _ _ _ _ _ _ _ r h => by simp [parterreref18_Span.j1] at h, fun _ _ _ _ _ _ _ r h => by simp [parterreref18_Span.j2] at h, fun _ _ _ _ _ _ _ _ r h => by simp [parterreref18_Span.j3] at h, fun _ _ _ _ _ _ _ _ r h => by simp [parterreref18_Span.j4] at h⟩
 | k + 1 => by
  obtain ⟨ih0, ih1, ih2, ih3, ih4⟩ := parterreref18_Span.mono_l k
  refine ⟨?_, ?_, ?_, ?_, ?_⟩
  ·intro y0 y1 y2 y3 y4 y5 y6 y7
   unfold parterreref18_Span.j0
   repeat' first
   | (with_reducible exact ih0 _ _ _ _ _ _ _ _)
   | (with_reducible exact ih1 _ _ _ _ _ _ _ _)
   | (with_reducible exact ih2 _ _ _ _ _ _ _)
   | (with_reducible exact ih3 _ _ _ _ _ _ _ _)
   | (with_reducible exact ih4 _ _ _ _ _ _ _ _)
   | (with_reducible exact parterreref07_Good.mono _ _ _ _)
   | (with_reducible exact parterreref18_at.mono _ _ _ _ _ _)
   | (with_reducible exact parterreref18_far.mono _ _ _ _ _ _ _)
   | (with_reducible exact parterreref18_many.mono _ _ _ _ _ _ _)
   | (with_reducible exact LeO.refl _)
   | (with_reducible exact LeO.none _)
   | (with_reducible refine LeO.ite ?_ ?_)
   | (with_reducible refine LeO.bind ?_ (fun _ => ?_))
  ·intro y0 y1 y2 y3 y4 y5 y6 y7
   unfold parterreref18_Span.j1
   repeat' first
   | (with_reducible exact ih0 _ _ _ _ _ _ _ _)
   | (with_reducible exact ih1 _ _ _ _ _ _ _ _)
   | (with_reducible exact ih2 _ _ _ _ _ _ _)
   | (with_reducible exact ih3 _ _ _ _ _ _ _ _)
   | (with_reducible exact ih4 _ _ _ _ _ _ _ _)
   | (with_reducible exact parterreref07_Good.mono _ _ _ _)
   | (with_reducible exact parterreref18_at.mono _ _ _ _ _ _)
   | (with_reducible exact parterreref18_far.mono _ _ _ _ _ _ _)
   | (with_reducible exact parterreref18_many.mono _ _ _ _ _ _ _)
   | (with_reducible exact LeO.refl _)
   | (with_reducible exact LeO.none _)
   | (with_reducible refine LeO.ite ?_ ?_)
   | (with_reducible refine LeO.bind ?_ (fun _ => ?_))
  ·intro y0 y1 y2 y3 y4 y5 y6
   unfold parterreref18_Span.j2
   repeat' first
   | (with_reducible exact ih0 _ _ _ _ _ _ _ _)
   | (with_reducible exact ih1 _ _ _ _ _ _ _ _)
   | (with_reducible exact ih2 _ _ _ _ _ _ _)
   | (with_reducible exact ih3 _ _ _ _ _ _ _ _)
   | (with_reducible exact ih4 _ _ _ _ _ _ _ _)
   | (with_reducible exact parterreref07_Good.mono _ _ _ _)
   | (with_reducible exact parterreref18_at.mono _ _ _ _ _ _)
   | (with_reducible exact parterreref18_far.mono _ _ _ _ _ _ _)
   | (with_reducible exact parterreref18_many.mono _ _ _ _ _ _ _)
   | (with_reducible exact LeO.refl _)
   | (with_reducible exact LeO.none _)
   | (with_reducible refine LeO.ite ?_ ?_)
   | (with_reducible refine LeO.bind ?_ (fun _ => ?_))
  ·intro y0 y1 y2 y3 y4 y5 y6 y7
   unfold parterreref18_Span.j3
   repeat' first
   | (with_reducible exact ih0 _ _ _ _ _ _ _ _)
   | (with_reducible exact ih1 _ _ _ _ _ _ _ _)
   | (with_reducible exact ih2 _ _ _ _ _ _ _)
   | (with_reducible exact ih3 _ _ _ _ _ _ _ _)
   | (with_reducible exact ih4 _ _ _ _ _ _ _ _)
   | (with_reducible exact parterreref07_Good.mono _ _ _ _)
   | (with_reducible exact parterreref18_at.mono _ _ _ _ _ _)
   | (with_reducible exact parterreref18_far.mono _ _ _ _ _ _ _)
   | (with_reducible exact parterreref18_many.mono _ _ _ _ _ _ _)
   | (with_reducible exact LeO.refl _)
   | (with_reducible exact LeO.none _)
   | (with_reducible refine LeO.ite ?_ ?_)
   | (with_reducible refine LeO.bind ?_ (fun _ => ?_))
  ·intro y0 y1 y2 y3 y4 y5 y6 y7
   unfold parterreref18_Span.j4
   repeat' first
   | (with_reducible exact ih0 _ _ _ _ _ _ _ _)
   | (with_reducible exact ih1 _ _ _ _ _ _ _ _)
   | (with_reducible exact ih2 _ _ _ _ _ _ _)
   | (with_reducible exact ih3 _ _ _ _ _ _ _ _)
   | (with_reducible exact ih4 _ _ _ _ _ _ _ _)
   | (with_reducible exact parterreref07_Good.mono _ _ _ _)
   | (with_reducible exact parterreref18_at.mono _ _ _ _ _ _)
   | (with_reducible exact parterreref18_far.mono _ _ _ _ _ _ _)
   | (with_reducible exact parterreref18_many.mono _ _ _ _ _ _ _)
   | (with_reducible exact LeO.refl _)
   | (with_reducible exact LeO.none _)
   | (with_reducible refine LeO.ite ?_ ?_)
   | (with_reducible refine LeO.bind ?_ (fun _ => ?_))
theorem parterreref18_Span.mono : ∀ a0 a1 a2 a3 a4 a5 a6 k, LeO (parterreref18_Span.f k a0 a1 a2 a3 a4 a5 a6) (parterreref18_Span.f (k + 1) a0 a1 a2 a3 a4 a5 a6) := by
 intro a0 a1 a2 a3 a4 a5 a6 k
 obtain ⟨ih0, ih1, ih2, ih3, ih4⟩ := parterreref18_Span.mono_l k
 unfold parterreref18_Span.f
 repeat' first
   | (with_reducible exact ih0 _ _ _ _ _ _ _ _)
   | (with_reducible exact ih1 _ _ _ _ _ _ _ _)
   | (with_reducible exact ih2 _ _ _ _ _ _ _)
   | (with_reducible exact ih3 _ _ _ _ _ _ _ _)
   | (with_reducible exact ih4 _ _ _ _ _ _ _ _)
   | (with_reducible exact parterreref07_Good.mono _ _ _ _)
   | (with_reducible exact parterreref18_at.mono _ _ _ _ _ _)
   | (with_reducible exact parterreref18_far.mono _ _ _ _ _ _ _)
   | (with_reducible exact parterreref18_many.mono _ _ _ _ _ _ _)
   | (with_reducible exact LeO.refl _)
   | (with_reducible exact LeO.none _)
   | (with_reducible refine LeO.ite ?_ ?_)
   | (with_reducible refine LeO.bind ?_ (fun _ => ?_))
set_option maxHeartbeats 8000000 in
set_option maxRecDepth 100000 in
theorem parterreref18_Span.calls (k : Nat) (A0 : Option Addr) (c0 : Nat) (l0 : List (List ByteArray)) (a1_0 : Int) (a1_1 : Int) (a1_2 : ByteArray) (a2_0 : Int) (a2_1 : Int) (a2_2 : ByteArray) (r1 : Bool) (r2 : Int) (r3 : Int) (r4 : Int) (r5 : Int) (w : World) (hr0 : Kd.C (Kd.slice 9 Kd.string) w A0 l0.length l0) (hc0 : l0.length ≤ c0) (h : parterreref18_Span.f k l0 a1_0 a1_1 a1_2 a2_0 a2_1 a2_2 = some (r1, r2, r3, r4, r5)) :
  Calls Try.prog 59 #[.slice A0 l0.length c0, .agg #[.int .i64 a1_0, .int .i64 a1_1, .string a1_2], .agg #[.int .i64 a2_0, .int .i64 a2_1, .string a2_2]] w fun e w' => e = .returned (.tuple #[.agg #[.bool r1, .int .i64 r2, .int .i64 r3, .int .i64 r4], .int .i64 r5]) ∧ Below w.heap.size w w' := by
 have hu69 := Try.underlying69
 have hu72 := Try.underlying72
 have HR0 := Aside0.mk hr0
 have HC0 := Aside0.mk hc0
 clear hr0 hc0
 have HB := Aside0.mk (Below.refl w.heap.size w)
 have H : (if (l0.length : Int) = 0 then (parterreref18_Span.j0 k l0 true a1_0 a1_1 a1_2 a2_0 a2_1 a2_2) else (if (l0.length : Int) > 10001 then (parterreref18_Span.j0 k l0 true a1_0 a1_1 a1_2 a2_0 a2_1 a2_2) else ((parterreref07_Good.f k a1_0 a1_1 a1_2).bind fun t294 => (if t294 = true then ((parterreref07_Good.f k a2_0 a2_1 a2_2).bind fun t295 => (parterreref18_Span.j0 k l0 (!t295) a1_0 a1_1 a1_2 a2_0 a2_1 a2_2)) else (parterreref18_Span.j0 k l0 true a1_0 a1_1 a1_2 a2_0 a2_1 a2_2))))) = some (r1, r2, r3, r4, r5) := h
 clear h
 have HC4 := Aside0.mk H
 clear H
 go_enter Try.func59, Try.ntmps59
 go_upto_region 1 with (first | ((with_reducible refine gate_dst (N := 4) rfl ?_); (try (refine gate_guard (by rfl) ?_; dsimp only)); refine box_event ?hg (N := 4) ?hd (cs := #[.int .i64 a1_0, .int .i64 a1_1, .string a1_2]) (t := 69) ?hr ?_; (case hd => rfl); (case hg => rfl); (case hr => first | (go_simp; done) | (go_simp; rfl)); intro gb291 hg w5 hbox hb; have n0_ := Aside0.mk (below_step bel_ hb); have n1_ := Aside0.mk (hbox); have n2_ := Aside0.mk ((bsz_ hg : w.heap.size ≤ gb291)); have n3_ := Aside0.mk ((bsz_ hg : w.heap.size ≤ gb291)); clear HB; have HB := n0_; have BK291 := n1_; have GW291 := n2_; have GE291 := n3_; clear n0_ n1_ n2_ n3_; clear hb hbox hg) | ((with_reducible refine gate_dst (N := 5) rfl ?_); (try (refine gate_guard (by rfl) ?_; dsimp only)); refine box_event ?hg (N := 5) ?hd (cs := #[.int .i64 a2_0, .int .i64 a2_1, .string a2_2]) (t := 69) ?hr ?_; (case hd => rfl); (case hg => rfl); (case hr => first | (go_simp; done) | (go_simp; rfl)); intro gb292 hg w6 hbox hb; have n0_ := blb_ BK291 hb; have n1_ := Aside0.mk (below_step bel_ hb); have n2_ := Aside0.mk (hbox); have n3_ := Aside0.mk ((bsz_ hg : w.heap.size ≤ gb292)); have n4_ := Aside0.mk ((bsz_ hg : w.heap.size ≤ gb292)); have n5_ := Aside0.mk (bne_ BK291 hg : gb291 ≠ gb292); have n6_ := Aside0.mk (bng_ BK291 hg : gb292 ≠ gb291); clear BK291; clear HB; have BK291 := n0_; have HB := n1_; have BK292 := n2_; have GW292 := n3_; have GE292 := n4_; have NB291_292 := n5_; have NB292_291 := n6_; clear n0_ n1_ n2_ n3_ n4_ n5_ n6_; clear hb hbox hg) | ((with_reducible refine gate_dst (N := 6) rfl ?_); (try (refine gate_guard (by rfl) ?_; dsimp only)); refine box_event ?hg (N := 6) ?hd (cs := #[.bool false, .int .i64 0, .int .i64 0, .int .i64 0]) (t := 72) ?hr ?_; (case hd => rfl); (case hg => rfl); (case hr => first | (go_simp; done) | (go_simp; rfl)); intro gb293 hg w7 hbox hb; have n0_ := blb_ BK291 hb; have n1_ := blb_ BK292 hb; have n2_ := Aside0.mk (below_step bel_ hb); have n3_ := Aside0.mk (hbox); have n4_ := Aside0.mk ((bsz_ hg : w.heap.size ≤ gb293)); have n5_ := Aside0.mk ((bsz_ hg : w.heap.size ≤ gb293)); have n6_ := Aside0.mk (bne_ BK291 hg : gb291 ≠ gb293); have n7_ := Aside0.mk (bng_ BK291 hg : gb293 ≠ gb291); have n8_ := Aside0.mk (bne_ BK292 hg : gb292 ≠ gb293); have n9_ := Aside0.mk (bng_ BK292 hg : gb293 ≠ gb292); clear BK291; clear BK292; clear HB; have BK291 := n0_; have BK292 := n1_; have HB := n2_; have BK293 := n3_; have GW293 := n4_; have GE293 := n5_; have NB291_293 := n6_; have NB293_291 := n7_; have NB292_293 := n8_; have NB293_292 := n9_; clear n0_ n1_ n2_ n3_ n4_ n5_ n6_ n7_ n8_ n9_; clear hb hbox hg))
 (try simp only [Act.put, List.setIfInBounds_toArray, List.set_cons_zero, List.set_cons_succ])
 go_cut [29] (fun v29 wc => ∃ (kq : Nat) (x29_3 : Bool), v29 = .bool x29_3 ∧ Aside0 (parterreref18_Span.j0 kq l0 x29_3 a1_0 a1_1 a1_2 a2_0 a2_1 a2_2 = some (r1, r2, r3, r4, r5)) ∧ Aside0 (kq ≤ k) ∧ Aside0 (wc.heap[gb291]? = some (.cells #[.int .i64 a1_0, .int .i64 a1_1, .string a1_2] 69 (0, 0))) ∧ Aside0 (wc.heap[gb292]? = some (.cells #[.int .i64 a2_0, .int .i64 a2_1, .string a2_2] 69 (0, 0))) ∧ Aside0 (wc.heap[gb293]? = some (.cells #[.bool false, .int .i64 0, .int .i64 0, .int .i64 0] 72 (0, 0))) ∧ Aside0 (Below w.heap.size w wc))
 case first =>
  have H := HC4.out
  clear HC4
  by_cases c8 : (l0.length : Int) = 0
  ·rw [if_pos c8] at H
   have c8b0 : ((l0.length : Int) == 0) = true := beq_iff_eq.mpr c8
   have c8b1 : ((l0.length : Int) != 0) = false := bne_eq_false_iff_eq.mpr c8
   clear c8
   (first | rw [c8b0] | (simp only [i64_w, i32_w]; rw [c8b0]) | skip)
   have H' := Aside0.mk H
   clear H
   go_wp2
   go_meet
   case rel => exact ⟨_, (true), rfs_, H', ⟨ole_⟩, ⟨blk_⟩, ⟨blk_⟩, ⟨blk_⟩, ⟨bel_⟩⟩
  ·rw [if_neg c8] at H
   have c8b0 : ((l0.length : Int) == 0) = false := beq_eq_false_iff_ne.mpr c8
   have c8b1 : ((l0.length : Int) != 0) = true := bne_iff_ne.mpr c8
   have c8b2 : ¬ (l0 = []) := fun h_ => c8 (by rw [h_]; rfl)
   (first | rw [c8b0] | (simp only [i64_w, i32_w]; rw [c8b0]) | skip)
   by_cases c9 : (l0.length : Int) > 10001
   ·rw [if_pos c9] at H
    have c9b0 : decide (10001 < (l0.length : Int)) = true := decide_eq_true c9
    have c9b1 : decide (10001 < l0.length) = true := decide_eq_true (by omega)
    clear c9
    have H' := Aside0.mk H
    clear H
    go_wp2
    go_meet
    case rel => exact ⟨_, (true), rfs_, H', ⟨ole_⟩, ⟨blk_⟩, ⟨blk_⟩, ⟨blk_⟩, ⟨bel_⟩⟩
   ·rw [if_neg c9] at H
    have c9b0 : decide (10001 < (l0.length : Int)) = false := decide_eq_false c9
    have c9b1 : decide (10001 < l0.length) = false := decide_eq_false (by omega)
    clear c9
    replace H := Option.bind_eq_some_iff.mp H
    obtain ⟨t294, A100, H⟩ := H
    try dsimp only at H
    have A10 := Aside0.mk A100
    clear A100
    by_cases c11 : t294 = true
    ·subst c11
     rw [if_pos rfl] at H
     replace H := Option.bind_eq_some_iff.mp H
     obtain ⟨t295, A120, H⟩ := H
     try dsimp only at H
     have A12 := Aside0.mk A120
     clear A120
     have H' := Aside0.mk H
     clear H
     have hnb13 := NB291_292.out
     have hnc13 := NB292_291.out
     have hnb14 := NB291_293.out
     have hnc14 := NB293_291.out
     have hcz15_0 : w7.cell? ⟨gb291, 0, none⟩ = some (.int .i64 a1_0) := (blk_cell BK291.out 0).trans rfl
     have hcz15_1 : w7.cell? ⟨gb291, 1, none⟩ = some (.int .i64 a1_1) := (blk_cell BK291.out 1).trans rfl
     have hcz15_2 : w7.cell? ⟨gb291, 2, none⟩ = some (.string a1_2) := (blk_cell BK291.out 2).trans rfl
     have hfz15_0 := blk_frozen BK291.out 0
     have hfz15_1 := blk_frozen BK291.out 1
     have hfz15_2 := blk_frozen BK291.out 2
     go_wp2_with (first | (go_at_call 89; (with_reducible refine (parterreref07_Good.calls k a1_0 a1_1 a1_2 true _ A10.out).mono ?_); rintro e w16 ⟨rfl, hb⟩; have n0_ := blb_ BK291 hb; have n1_ := blb_ BK292 hb; have n2_ := blb_ BK293 hb; have n3_ := Aside0.mk (below_step bel_ hb); clear BK291; clear BK292; clear BK293; clear HB; have BK291 := n0_; have BK292 := n1_; have BK293 := n2_; have HB := n3_; clear n0_ n1_ n2_ n3_; clear hb; have hnb17 := NB292_293.out; have hnc17 := NB293_292.out; have hcz18_0 : w16.cell? ⟨gb292, 0, none⟩ = some (.int .i64 a2_0) := (blk_cell BK292.out 0).trans rfl; have hcz18_1 : w16.cell? ⟨gb292, 1, none⟩ = some (.int .i64 a2_1) := (blk_cell BK292.out 1).trans rfl; have hcz18_2 : w16.cell? ⟨gb292, 2, none⟩ = some (.string a2_2) := (blk_cell BK292.out 2).trans rfl; have hfz18_0 := blk_frozen BK292.out 0; have hfz18_1 := blk_frozen BK292.out 1; have hfz18_2 := blk_frozen BK292.out 2) | (go_at_call 89; (with_reducible refine (parterreref07_Good.calls k a2_0 a2_1 a2_2 t295 _ A12.out).mono ?_); rintro e w19 ⟨rfl, hb⟩; have n0_ := blb_ BK291 hb; have n1_ := blb_ BK292 hb; have n2_ := blb_ BK293 hb; have n3_ := Aside0.mk (below_step bel_ hb); clear BK291; clear BK292; clear BK293; clear HB; have BK291 := n0_; have BK292 := n1_; have BK293 := n2_; have HB := n3_; clear n0_ n1_ n2_ n3_; clear hb))
     go_meet
     case rel => exact ⟨_, (!t295), rfs_, H', ⟨ole_⟩, ⟨blk_⟩, ⟨blk_⟩, ⟨blk_⟩, ⟨bel_⟩⟩
    ·replace c11 := Bool.eq_false_iff.mpr c11
     subst c11
     rw [if_neg (show ¬ (false = true) by decide)] at H
     have H' := Aside0.mk H
     clear H
     have hnb20 := NB291_292.out
     have hnc20 := NB292_291.out
     have hnb21 := NB291_293.out
     have hnc21 := NB293_291.out
     have hcz22_0 : w7.cell? ⟨gb291, 0, none⟩ = some (.int .i64 a1_0) := (blk_cell BK291.out 0).trans rfl
     have hcz22_1 : w7.cell? ⟨gb291, 1, none⟩ = some (.int .i64 a1_1) := (blk_cell BK291.out 1).trans rfl
     have hcz22_2 : w7.cell? ⟨gb291, 2, none⟩ = some (.string a1_2) := (blk_cell BK291.out 2).trans rfl
     have hfz22_0 := blk_frozen BK291.out 0
     have hfz22_1 := blk_frozen BK291.out 1
     have hfz22_2 := blk_frozen BK291.out 2
     go_wp2_with (first | (go_at_call 89; (with_reducible refine (parterreref07_Good.calls k a1_0 a1_1 a1_2 false _ A10.out).mono ?_); rintro e w23 ⟨rfl, hb⟩; have n0_ := blb_ BK291 hb; have n1_ := blb_ BK292 hb; have n2_ := blb_ BK293 hb; have n3_ := Aside0.mk (below_step bel_ hb); clear BK291; clear BK292; clear BK293; clear HB; have BK291 := n0_; have BK292 := n1_; have BK293 := n2_; have HB := n3_; clear n0_ n1_ n2_ n3_; clear hb))
     go_meet
     case rel => exact ⟨_, (true), rfs_, H', ⟨ole_⟩, ⟨blk_⟩, ⟨blk_⟩, ⟨blk_⟩, ⟨bel_⟩⟩
 case rest =>
  clear HC4
  try clear c1
  try clear c2
  try clear p2
  try clear c5
  try clear c8
  try clear c8b0
  try clear c8b1
  try clear c8b2
  try clear c9
  try clear c9b0
  try clear c9b1
  try clear c11
  try clear c13
  try clear c14
  try clear c17
  try clear c20
  try clear c21
  try clear hcz15_0
  try clear hcz15_1
  try clear hcz15_2
  try clear hcz18_0
  try clear hcz18_1
  try clear hcz18_2
  try clear hcz22_0
  try clear hcz22_1
  try clear hcz22_2
  try clear hfz15_0
  try clear hfz15_1
  try clear hfz15_2
  try clear hfz18_0
  try clear hfz18_1
  try clear hfz18_2
  try clear hfz22_0
  try clear hfz22_1
  try clear hfz22_2
  obtain ⟨kq, x29_3, rfl, HA, HJ3, BK291, BK292, BK293, HB⟩ := hcut
  cases kq with
  | zero => exact absurd HA.out (by simp [parterreref18_Span.j0])
  | succ kj3 =>
   have H := HA.out
   clear HA
   simp only [parterreref18_Span.j0] at H
   by_cases c24 : x29_3 = true
   ·subst c24
    rw [if_pos rfl] at H
    simp only [Option.some.injEq, Prod.mk.injEq] at H
    obtain ⟨rfl, rfl, rfl, rfl, rfl⟩ := H
    have hnb25 := NB293_291.out
    have hnc25 := NB291_293.out
    have hnb26 := NB293_292.out
    have hnc26 := NB292_293.out
    have hcz27_0 : wc.cell? ⟨gb293, 0, none⟩ = some (.bool false) := (blk_cell BK293.out 0).trans rfl
    have hcz27_1 : wc.cell? ⟨gb293, 1, none⟩ = some (.int .i64 0) := (blk_cell BK293.out 1).trans rfl
    have hcz27_2 : wc.cell? ⟨gb293, 2, none⟩ = some (.int .i64 0) := (blk_cell BK293.out 2).trans rfl
    have hcz27_3 : wc.cell? ⟨gb293, 3, none⟩ = some (.int .i64 0) := (blk_cell BK293.out 3).trans rfl
    have hfz27_0 := blk_frozen BK293.out 0
    have hfz27_1 := blk_frozen BK293.out 1
    have hfz27_2 := blk_frozen BK293.out 2
    have hfz27_3 := blk_frozen BK293.out 3
    go_wp2
    refine bodyPost_ret (results_ct rfl _ _ gb293 72 #[.bool false, .int .i64 0, .int .i64 0, .int .i64 0] (0, 0) _ rfl (by (with_reducible repeat (first | refine blk_drewN ?_ _ | refine blk_drew ?_ | refine blk_alloc ?_ _)); refine blk_put (cs := #[.bool false, .int .i64 0, .int .i64 0, .int .i64 0]) ?_ 3 _ rfl; (with_reducible repeat (first | refine blk_drewN ?_ _ | refine blk_drew ?_ | refine blk_alloc ?_ _)); refine blk_put (cs := #[.bool false, .int .i64 0, .int .i64 0, .int .i64 0]) ?_ 2 _ rfl; (with_reducible repeat (first | refine blk_drewN ?_ _ | refine blk_drew ?_ | refine blk_alloc ?_ _)); refine blk_put (cs := #[.bool false, .int .i64 0, .int .i64 0, .int .i64 0]) ?_ 1 _ rfl; (with_reducible repeat (first | refine blk_drewN ?_ _ | refine blk_drew ?_ | refine blk_alloc ?_ _)); refine blk_put (cs := #[.bool false, .int .i64 0, .int .i64 0, .int .i64 0]) ?_ 0 _ rfl; (with_reducible repeat (first | refine blk_drewN ?_ _ | refine blk_drew ?_ | refine blk_alloc ?_ _)); exact BK293.out) Try.underlying72 rfl (by kernel_rfl)) rfl ?_
    exact ⟨rsl_, bel_⟩
   ·replace c24 := Bool.eq_false_iff.mpr c24
    subst c24
    rw [if_neg (show ¬ (false = true) by decide)] at H
    have HC28 := Aside0.mk H
    clear H
    go_upto_region 3 with (fail)
    go_cut [38] (fun v38 wc => ∃ (kq : Nat) (x38_27 : Bool), v38 = .bool x38_27 ∧ Aside0 (parterreref18_Span.j1 kq l0 x38_27 a1_0 a1_1 a1_2 a2_0 a2_1 a2_2 = some (r1, r2, r3, r4, r5)) ∧ Aside0 (kq ≤ kj3) ∧ Aside0 (wc.heap[gb291]? = some (.cells #[.int .i64 a1_0, .int .i64 a1_1, .string a1_2] 69 (0, 0))) ∧ Aside0 (wc.heap[gb292]? = some (.cells #[.int .i64 a2_0, .int .i64 a2_1, .string a2_2] 69 (0, 0))) ∧ Aside0 (wc.heap[gb293]? = some (.cells #[.bool false, .int .i64 0, .int .i64 0, .int .i64 0] 72 (0, 0))) ∧ Aside0 (Below w.heap.size w wc))
    case first =>
     have H := HC28.out
     clear HC28
     by_cases c29 : a1_0 = 4
     ·rw [if_pos c29] at H
      have c29b0 : (a1_0 == 4) = true := beq_iff_eq.mpr c29
      have c29b1 : (a1_0 != 4) = false := bne_eq_false_iff_eq.mpr c29
      clear c29
      (first | rw [c29b0] | (simp only [i64_w, i32_w]; rw [c29b0]) | skip)
      have H' := Aside0.mk H
      clear H
      have hnb30 := NB291_292.out
      have hnc30 := NB292_291.out
      have hnb31 := NB291_293.out
      have hnc31 := NB293_291.out
      have hcz32_0 : wc.cell? ⟨gb291, 0, none⟩ = some (.int .i64 a1_0) := (blk_cell BK291.out 0).trans rfl
      have hcz32_1 : wc.cell? ⟨gb291, 1, none⟩ = some (.int .i64 a1_1) := (blk_cell BK291.out 1).trans rfl
      have hcz32_2 : wc.cell? ⟨gb291, 2, none⟩ = some (.string a1_2) := (blk_cell BK291.out 2).trans rfl
      have hfz32_0 := blk_frozen BK291.out 0
      have hfz32_1 := blk_frozen BK291.out 1
      have hfz32_2 := blk_frozen BK291.out 2
      have hnb33 := NB292_293.out
      have hnc33 := NB293_292.out
      have hcz34_0 : wc.cell? ⟨gb292, 0, none⟩ = some (.int .i64 a2_0) := (blk_cell BK292.out 0).trans rfl
      have hcz34_1 : wc.cell? ⟨gb292, 1, none⟩ = some (.int .i64 a2_1) := (blk_cell BK292.out 1).trans rfl
      have hcz34_2 : wc.cell? ⟨gb292, 2, none⟩ = some (.string a2_2) := (blk_cell BK292.out 2).trans rfl
      have hfz34_0 := blk_frozen BK292.out 0
      have hfz34_1 := blk_frozen BK292.out 1
      have hfz34_2 := blk_frozen BK292.out 2
      go_wp2
      go_meet
      case rel => exact ⟨_, ((a2_0 == 4)), rfs_, H', ⟨by have := HJ3.out; first | omega | exact Nat.le_refl _⟩, ⟨blk_⟩, ⟨blk_⟩, ⟨blk_⟩, ⟨bel_⟩⟩
     ·rw [if_neg c29] at H
      have c29b0 : (a1_0 == 4) = false := beq_eq_false_iff_ne.mpr c29
      have c29b1 : (a1_0 != 4) = true := bne_iff_ne.mpr c29
      (first | rw [c29b0] | (simp only [i64_w, i32_w]; rw [c29b0]) | skip)
      have H' := Aside0.mk H
      clear H
      have hnb35 := NB291_292.out
      have hnc35 := NB292_291.out
      have hnb36 := NB291_293.out
      have hnc36 := NB293_291.out
      have hcz37_0 : wc.cell? ⟨gb291, 0, none⟩ = some (.int .i64 a1_0) := (blk_cell BK291.out 0).trans rfl
      have hcz37_1 : wc.cell? ⟨gb291, 1, none⟩ = some (.int .i64 a1_1) := (blk_cell BK291.out 1).trans rfl
      have hcz37_2 : wc.cell? ⟨gb291, 2, none⟩ = some (.string a1_2) := (blk_cell BK291.out 2).trans rfl
      have hfz37_0 := blk_frozen BK291.out 0
      have hfz37_1 := blk_frozen BK291.out 1
      have hfz37_2 := blk_frozen BK291.out 2
      go_wp2
      go_meet
      case rel => exact ⟨_, (false), rfs_, H', ⟨by have := HJ3.out; first | omega | exact Nat.le_refl _⟩, ⟨blk_⟩, ⟨blk_⟩, ⟨blk_⟩, ⟨bel_⟩⟩
    case rest =>
     clear HC28
     try clear c1
     try clear c2
     try clear p2
     try clear c3
     try clear c5
     try clear c8
     try clear c8b0
     try clear c8b1
     try clear c8b2
     try clear c9
     try clear c9b0
     try clear c9b1
     try clear c11
     try clear c13
     try clear c14
     try clear c17
     try clear c20
     try clear c21
     try clear c24
     try clear c25
     try clear c26
     try clear c29
     try clear c29b0
     try clear c29b1
     try clear c30
     try clear c31
     try clear c33
     try clear c35
     try clear c36
     try clear hcz15_0
     try clear hcz15_1
     try clear hcz15_2
     try clear hcz18_0
     try clear hcz18_1
     try clear hcz18_2
     try clear hcz22_0
     try clear hcz22_1
     try clear hcz22_2
     try clear hcz27_0
     try clear hcz27_1
     try clear hcz27_2
     try clear hcz27_3
     try clear hcz32_0
     try clear hcz32_1
     try clear hcz32_2
     try clear hcz34_0
     try clear hcz34_1
     try clear hcz34_2
     try clear hcz37_0
     try clear hcz37_1
     try clear hcz37_2
     try clear hfz15_0
     try clear hfz15_1
     try clear hfz15_2
     try clear hfz18_0
     try clear hfz18_1
     try clear hfz18_2
     try clear hfz22_0
     try clear hfz22_1
     try clear hfz22_2
     try clear hfz27_0
     try clear hfz27_1
     try clear hfz27_2
     try clear hfz27_3
     try clear hfz32_0
     try clear hfz32_1
     try clear hfz32_2
     try clear hfz34_0
     try clear hfz34_1
     try clear hfz34_2
     try clear hfz37_0
     try clear hfz37_1
     try clear hfz37_2
     try clear p2
     obtain ⟨kq, x38_27, rfl, HA, HJ27, BK291, BK292, BK293, HB⟩ := hcut
     cases kq with
     | zero => exact absurd HA.out (by simp [parterreref18_Span.j1])
     | succ kj27 =>
      have H := HA.out
      clear HA
      simp only [parterreref18_Span.j1] at H
      have HC38 := Aside0.mk H
      clear H
      go_upto_if 38 with (fail)
      go_cut [] (fun wc => ∃ (kq : Nat) (x293000_37 : Int) (x293001_37 : Int) (x293002_37 : ByteArray), Aside0 (parterreref18_Span.j2 kq l0 a1_0 a1_1 a1_2 x293000_37 x293001_37 x293002_37 = some (r1, r2, r3, r4, r5)) ∧ Aside0 (kq ≤ kj27) ∧ Aside0 (wc.heap[gb291]? = some (.cells #[.int .i64 a1_0, .int .i64 a1_1, .string a1_2] 69 (0, 0))) ∧ Aside0 (wc.heap[gb292]? = some (.cells #[.int .i64 x293000_37, .int .i64 x293001_37, .string x293002_37] 69 (0, 0))) ∧ Aside0 (wc.heap[gb293]? = some (.cells #[.bool false, .int .i64 0, .int .i64 0, .int .i64 0] 72 (0, 0))) ∧ Aside0 (Below w.heap.size w wc))
      case first =>
       have H := HC38.out
       clear HC38
       by_cases c39 : x38_27 = true
       ·subst c39
        rw [if_pos rfl] at H
        have H' := Aside0.mk H
        clear H
        have hnb40 := NB292_291.out
        have hnc40 := NB291_292.out
        have hnb41 := NB292_293.out
        have hnc41 := NB293_292.out
        have hcz42_0 : wc.cell? ⟨gb292, 0, none⟩ = some (.int .i64 a2_0) := (blk_cell BK292.out 0).trans rfl
        have hcz42_1 : wc.cell? ⟨gb292, 1, none⟩ = some (.int .i64 a2_1) := (blk_cell BK292.out 1).trans rfl
        have hcz42_2 : wc.cell? ⟨gb292, 2, none⟩ = some (.string a2_2) := (blk_cell BK292.out 2).trans rfl
        have hfz42_0 := blk_frozen BK292.out 0
        have hfz42_1 := blk_frozen BK292.out 1
        have hfz42_2 := blk_frozen BK292.out 2
        go_wp2
        go_meet
        case rel => exact ⟨_, (1), (0), ((⟨#[]⟩ : ByteArray)), H', ⟨by have := HJ3.out; have := HJ27.out; first | omega | exact Nat.le_refl _⟩, ⟨by (with_reducible repeat (first | refine blk_drewN ?_ _ | refine blk_drew ?_ | refine blk_alloc ?_ _)); refine blk_far ?_ NB291_292.out _; (with_reducible repeat (first | refine blk_drewN ?_ _ | refine blk_drew ?_ | refine blk_alloc ?_ _)); refine blk_far ?_ NB291_292.out _; (with_reducible repeat (first | refine blk_drewN ?_ _ | refine blk_drew ?_ | refine blk_alloc ?_ _)); refine blk_far ?_ NB291_292.out _; (with_reducible repeat (first | refine blk_drewN ?_ _ | refine blk_drew ?_ | refine blk_alloc ?_ _)); exact BK291.out⟩, ⟨by (with_reducible repeat (first | refine blk_drewN ?_ _ | refine blk_drew ?_ | refine blk_alloc ?_ _)); refine blk_put (cs := #[.int .i64 1, .int .i64 0, .string a2_2]) ?_ 2 _ rfl; (with_reducible repeat (first | refine blk_drewN ?_ _ | refine blk_drew ?_ | refine blk_alloc ?_ _)); refine blk_put (cs := #[.int .i64 1, .int .i64 a2_1, .string a2_2]) ?_ 1 _ rfl; (with_reducible repeat (first | refine blk_drewN ?_ _ | refine blk_drew ?_ | refine blk_alloc ?_ _)); refine blk_put (cs := #[.int .i64 a2_0, .int .i64 a2_1, .string a2_2]) ?_ 0 _ rfl; (with_reducible repeat (first | refine blk_drewN ?_ _ | refine blk_drew ?_ | refine blk_alloc ?_ _)); exact BK292.out⟩, ⟨by (with_reducible repeat (first | refine blk_drewN ?_ _ | refine blk_drew ?_ | refine blk_alloc ?_ _)); refine blk_far ?_ NB293_292.out _; (with_reducible repeat (first | refine blk_drewN ?_ _ | refine blk_drew ?_ | refine blk_alloc ?_ _)); refine blk_far ?_ NB293_292.out _; (with_reducible repeat (first | refine blk_drewN ?_ _ | refine blk_drew ?_ | refine blk_alloc ?_ _)); refine blk_far ?_ NB293_292.out _; (with_reducible repeat (first | refine blk_drewN ?_ _ | refine blk_drew ?_ | refine blk_alloc ?_ _)); exact BK293.out⟩, ⟨bel_⟩⟩
       ·replace c39 := Bool.eq_false_iff.mpr c39
        subst c39
        rw [if_neg (show ¬ (false = true) by decide)] at H
        have H' := Aside0.mk H
        clear H
        go_wp2
        go_meet
        case rel => exact ⟨_, (a2_0), (a2_1), (a2_2), H', ⟨by have := HJ3.out; have := HJ27.out; first | omega | exact Nat.le_refl _⟩, ⟨blk_⟩, ⟨blk_⟩, ⟨blk_⟩, ⟨bel_⟩⟩
      case rest =>
       clear HC38
       try clear c1
       try clear c2
       try clear p2
       try clear c3
       try clear c4
       try clear c5
       try clear c8
       try clear c8b0
       try clear c8b1
       try clear c8b2
       try clear c9
       try clear c9b0
       try clear c9b1
       try clear c11
       try clear c13
       try clear c14
       try clear c17
       try clear c20
       try clear c21
       try clear c24
       try clear c25
       try clear c26
       try clear c29
       try clear c29b0
       try clear c29b1
       try clear c30
       try clear c31
       try clear c33
       try clear c35
       try clear c36
       try clear c39
       try clear c40
       try clear c41
       try clear hcz15_0
       try clear hcz15_1
       try clear hcz15_2
       try clear hcz18_0
       try clear hcz18_1
       try clear hcz18_2
       try clear hcz22_0
       try clear hcz22_1
       try clear hcz22_2
       try clear hcz27_0
       try clear hcz27_1
       try clear hcz27_2
       try clear hcz27_3
       try clear hcz32_0
       try clear hcz32_1
       try clear hcz32_2
       try clear hcz34_0
       try clear hcz34_1
       try clear hcz34_2
       try clear hcz37_0
       try clear hcz37_1
       try clear hcz37_2
       try clear hcz42_0
       try clear hcz42_1
       try clear hcz42_2
       try clear hfz15_0
       try clear hfz15_1
       try clear hfz15_2
       try clear hfz18_0
       try clear hfz18_1
       try clear hfz18_2
       try clear hfz22_0
       try clear hfz22_1
       try clear hfz22_2
       try clear hfz27_0
       try clear hfz27_1
       try clear hfz27_2
       try clear hfz27_3
       try clear hfz32_0
       try clear hfz32_1
       try clear hfz32_2
       try clear hfz34_0
       try clear hfz34_1
       try clear hfz34_2
       try clear hfz37_0
       try clear hfz37_1
       try clear hfz37_2
       try clear hfz42_0
       try clear hfz42_1
       try clear hfz42_2
       try clear p2
       obtain ⟨kq, x293000_37, x293001_37, x293002_37, HA, HJ37, BK291, BK292, BK293, HB⟩ := hcut
       cases kq with
       | zero => exact absurd HA.out (by simp [parterreref18_Span.j2])
       | succ kj37 =>
        have H := HA.out
        clear HA
        simp only [parterreref18_Span.j2] at H
        have HC43 := Aside0.mk H
        clear H
        go_upto_region 5 with (fail)
        go_cut [47] (fun v47 wc => ∃ (kq : Nat) (x47_42 : Bool), v47 = .bool x47_42 ∧ Aside0 (parterreref18_Span.j3 kq l0 x47_42 a1_0 a1_1 a1_2 x293000_37 x293001_37 x293002_37 = some (r1, r2, r3, r4, r5)) ∧ Aside0 (kq ≤ kj37) ∧ Aside0 (wc.heap[gb291]? = some (.cells #[.int .i64 a1_0, .int .i64 a1_1, .string a1_2] 69 (0, 0))) ∧ Aside0 (wc.heap[gb292]? = some (.cells #[.int .i64 x293000_37, .int .i64 x293001_37, .string x293002_37] 69 (0, 0))) ∧ Aside0 (wc.heap[gb293]? = some (.cells #[.bool false, .int .i64 0, .int .i64 0, .int .i64 0] 72 (0, 0))) ∧ Aside0 (Below w.heap.size w wc))
        case first =>
         have H := HC43.out
         clear HC43
         replace H := Option.bind_eq_some_iff.mp H
         obtain ⟨t296, A440, H⟩ := H
         try dsimp only at H
         have A44 := Aside0.mk A440
         clear A440
         by_cases c45 : t296 = true
         ·subst c45
          rw [if_pos rfl] at H
          have H' := Aside0.mk H
          clear H
          have hnb46 := NB291_292.out
          have hnc46 := NB292_291.out
          have hnb47 := NB291_293.out
          have hnc47 := NB293_291.out
          have hcz48_0 : wc.cell? ⟨gb291, 0, none⟩ = some (.int .i64 a1_0) := (blk_cell BK291.out 0).trans rfl
          have hcz48_1 : wc.cell? ⟨gb291, 1, none⟩ = some (.int .i64 a1_1) := (blk_cell BK291.out 1).trans rfl
          have hcz48_2 : wc.cell? ⟨gb291, 2, none⟩ = some (.string a1_2) := (blk_cell BK291.out 2).trans rfl
          have hfz48_0 := blk_frozen BK291.out 0
          have hfz48_1 := blk_frozen BK291.out 1
          have hfz48_2 := blk_frozen BK291.out 2
          go_wp2_with (first | ((with_reducible refine gate_callee (f := 90) rfl ?_); refine goesL_ (some 41) rfl rfl Try.func90 (by kernel_rfl) rfl #[.agg #[.int .i64 a1_0, .int .i64 a1_1, .string a1_2]] rfl goa_ ?_; (with_reducible refine (parterreref18_certain.calls a1_0 a1_1 a1_2 true _ A44.out).mono ?_); rintro e w49 ⟨rfl, hb⟩; refine ⟨_, rfl, ?_⟩; have n0_ := blb_ BK291 hb; have n1_ := blb_ BK292 hb; have n2_ := blb_ BK293 hb; have n3_ := Aside0.mk (below_step bel_ hb); clear BK291; clear BK292; clear BK293; clear HB; have BK291 := n0_; have BK292 := n1_; have BK293 := n2_; have HB := n3_; clear n0_ n1_ n2_ n3_; clear hb))
          go_meet
          case rel => exact ⟨_, (false), rfs_, H', ⟨by have := HJ3.out; have := HJ27.out; have := HJ37.out; first | omega | exact Nat.le_refl _⟩, ⟨blk_⟩, ⟨blk_⟩, ⟨blk_⟩, ⟨bel_⟩⟩
         ·replace c45 := Bool.eq_false_iff.mpr c45
          subst c45
          rw [if_neg (show ¬ (false = true) by decide)] at H
          replace H := Option.bind_eq_some_iff.mp H
          obtain ⟨t297, A500, H⟩ := H
          try dsimp only at H
          have A50 := Aside0.mk A500
          clear A500
          have H' := Aside0.mk H
          clear H
          have hnb51 := NB291_292.out
          have hnc51 := NB292_291.out
          have hnb52 := NB291_293.out
          have hnc52 := NB293_291.out
          have hcz53_0 : wc.cell? ⟨gb291, 0, none⟩ = some (.int .i64 a1_0) := (blk_cell BK291.out 0).trans rfl
          have hcz53_1 : wc.cell? ⟨gb291, 1, none⟩ = some (.int .i64 a1_1) := (blk_cell BK291.out 1).trans rfl
          have hcz53_2 : wc.cell? ⟨gb291, 2, none⟩ = some (.string a1_2) := (blk_cell BK291.out 2).trans rfl
          have hfz53_0 := blk_frozen BK291.out 0
          have hfz53_1 := blk_frozen BK291.out 1
          have hfz53_2 := blk_frozen BK291.out 2
          go_wp2_with (first | ((with_reducible refine gate_callee (f := 90) rfl ?_); refine goesL_ (some 41) rfl rfl Try.func90 (by kernel_rfl) rfl #[.agg #[.int .i64 a1_0, .int .i64 a1_1, .string a1_2]] rfl goa_ ?_; (with_reducible refine (parterreref18_certain.calls a1_0 a1_1 a1_2 false _ A44.out).mono ?_); rintro e w54 ⟨rfl, hb⟩; refine ⟨_, rfl, ?_⟩; have n0_ := blb_ BK291 hb; have n1_ := blb_ BK292 hb; have n2_ := blb_ BK293 hb; have n3_ := Aside0.mk (below_step bel_ hb); clear BK291; clear BK292; clear BK293; clear HB; have BK291 := n0_; have BK292 := n1_; have BK293 := n2_; have HB := n3_; clear n0_ n1_ n2_ n3_; clear hb; have hnb55 := NB292_293.out; have hnc55 := NB293_292.out; have hcz56_0 : w54.cell? ⟨gb292, 0, none⟩ = some (.int .i64 x293000_37) := (blk_cell BK292.out 0).trans rfl; have hcz56_1 : w54.cell? ⟨gb292, 1, none⟩ = some (.int .i64 x293001_37) := (blk_cell BK292.out 1).trans rfl; have hcz56_2 : w54.cell? ⟨gb292, 2, none⟩ = some (.string x293002_37) := (blk_cell BK292.out 2).trans rfl; have hfz56_0 := blk_frozen BK292.out 0; have hfz56_1 := blk_frozen BK292.out 1; have hfz56_2 := blk_frozen BK292.out 2) | (go_at_call 90; (with_reducible refine (parterreref18_certain.calls x293000_37 x293001_37 x293002_37 t297 _ A50.out).mono ?_); rintro e w57 ⟨rfl, hb⟩; have n0_ := blb_ BK291 hb; have n1_ := blb_ BK292 hb; have n2_ := blb_ BK293 hb; have n3_ := Aside0.mk (below_step bel_ hb); clear BK291; clear BK292; clear BK293; clear HB; have BK291 := n0_; have BK292 := n1_; have BK293 := n2_; have HB := n3_; clear n0_ n1_ n2_ n3_; clear hb))
          go_meet
          case rel => exact ⟨_, (!t297), rfs_, H', ⟨by have := HJ3.out; have := HJ27.out; have := HJ37.out; first | omega | exact Nat.le_refl _⟩, ⟨blk_⟩, ⟨blk_⟩, ⟨blk_⟩, ⟨bel_⟩⟩
        case rest =>
         clear HC43
         try clear c1
         try clear c2
         try clear p2
         try clear c3
         try clear c4
         try clear c5
         try clear c8
         try clear c8b0
         try clear c8b1
         try clear c8b2
         try clear c9
         try clear c9b0
         try clear c9b1
         try clear c11
         try clear c13
         try clear c14
         try clear c17
         try clear c20
         try clear c21
         try clear c24
         try clear c25
         try clear c26
         try clear c29
         try clear c29b0
         try clear c29b1
         try clear c30
         try clear c31
         try clear c33
         try clear c35
         try clear c36
         try clear c39
         try clear c40
         try clear c41
         try clear c45
         try clear c46
         try clear c47
         try clear c51
         try clear c52
         try clear c55
         try clear hcz15_0
         try clear hcz15_1
         try clear hcz15_2
         try clear hcz18_0
         try clear hcz18_1
         try clear hcz18_2
         try clear hcz22_0
         try clear hcz22_1
         try clear hcz22_2
         try clear hcz27_0
         try clear hcz27_1
         try clear hcz27_2
         try clear hcz27_3
         try clear hcz32_0
         try clear hcz32_1
         try clear hcz32_2
         try clear hcz34_0
         try clear hcz34_1
         try clear hcz34_2
         try clear hcz37_0
         try clear hcz37_1
         try clear hcz37_2
         try clear hcz42_0
         try clear hcz42_1
         try clear hcz42_2
         try clear hcz48_0
         try clear hcz48_1
         try clear hcz48_2
         try clear hcz53_0
         try clear hcz53_1
         try clear hcz53_2
         try clear hcz56_0
         try clear hcz56_1
         try clear hcz56_2
         try clear hfz15_0
         try clear hfz15_1
         try clear hfz15_2
         try clear hfz18_0
         try clear hfz18_1
         try clear hfz18_2
         try clear hfz22_0
         try clear hfz22_1
         try clear hfz22_2
         try clear hfz27_0
         try clear hfz27_1
         try clear hfz27_2
         try clear hfz27_3
         try clear hfz32_0
         try clear hfz32_1
         try clear hfz32_2
         try clear hfz34_0
         try clear hfz34_1
         try clear hfz34_2
         try clear hfz37_0
         try clear hfz37_1
         try clear hfz37_2
         try clear hfz42_0
         try clear hfz42_1
         try clear hfz42_2
         try clear hfz48_0
         try clear hfz48_1
         try clear hfz48_2
         try clear hfz53_0
         try clear hfz53_1
         try clear hfz53_2
         try clear hfz56_0
         try clear hfz56_1
         try clear hfz56_2
         try clear p2
         obtain ⟨kq, x47_42, rfl, HA, HJ42, BK291, BK292, BK293, HB⟩ := hcut
         cases kq with
         | zero => exact absurd HA.out (by simp [parterreref18_Span.j3])
         | succ kj42 =>
          have H := HA.out
          clear HA
          simp only [parterreref18_Span.j3] at H
          by_cases c58 : x47_42 = true
          ·subst c58
           rw [if_pos rfl] at H
           replace H := Option.bind_eq_some_iff.mp H
           obtain ⟨t298, A590, H⟩ := H
           try dsimp only at H
           have A59 := Aside0.mk A590
           clear A590
           simp only [Option.some.injEq, Prod.mk.injEq] at H
           obtain ⟨rfl, rfl, rfl, rfl, rfl⟩ := H
           have hnb60 := NB291_292.out
           have hnc60 := NB292_291.out
           have hnb61 := NB291_293.out
           have hnc61 := NB293_291.out
           have hcz62_0 : wc.cell? ⟨gb291, 0, none⟩ = some (.int .i64 a1_0) := (blk_cell BK291.out 0).trans rfl
           have hcz62_1 : wc.cell? ⟨gb291, 1, none⟩ = some (.int .i64 a1_1) := (blk_cell BK291.out 1).trans rfl
           have hcz62_2 : wc.cell? ⟨gb291, 2, none⟩ = some (.string a1_2) := (blk_cell BK291.out 2).trans rfl
           have hfz62_0 := blk_frozen BK291.out 0
           have hfz62_1 := blk_frozen BK291.out 1
           have hfz62_2 := blk_frozen BK291.out 2
           have hnb63 := NB292_293.out
           have hnc63 := NB293_292.out
           have hcz64_0 : wc.cell? ⟨gb292, 0, none⟩ = some (.int .i64 x293000_37) := (blk_cell BK292.out 0).trans rfl
           have hcz64_1 : wc.cell? ⟨gb292, 1, none⟩ = some (.int .i64 x293001_37) := (blk_cell BK292.out 1).trans rfl
           have hcz64_2 : wc.cell? ⟨gb292, 2, none⟩ = some (.string x293002_37) := (blk_cell BK292.out 2).trans rfl
           have hfz64_0 := blk_frozen BK292.out 0
           have hfz64_1 := blk_frozen BK292.out 1
           have hfz64_2 := blk_frozen BK292.out 2
           go_wp2_with (first | ((with_reducible refine gate_callee (f := 91) rfl ?_); refine goesL_ (some 50) rfl rfl Try.func91 (by kernel_rfl) rfl #[.agg #[.int .i64 a1_0, .int .i64 a1_1, .string a1_2], .agg #[.int .i64 x293000_37, .int .i64 x293001_37, .string x293002_37]] rfl goa_ ?_; (with_reducible refine (parterreref18_many.calls kj42 a1_0 a1_1 a1_2 x293000_37 x293001_37 x293002_37 t298 _ A59.out).mono ?_); rintro e w65 ⟨rfl, hb⟩; refine ⟨_, rfl, ?_⟩; have n0_ := blb_ BK291 hb; have n1_ := blb_ BK292 hb; have n2_ := blb_ BK293 hb; have n3_ := Aside0.mk (below_step bel_ hb); clear BK291; clear BK292; clear BK293; clear HB; have BK291 := n0_; have BK292 := n1_; have BK293 := n2_; have HB := n3_; clear n0_ n1_ n2_ n3_; clear hb; have hcz66_0 : w65.cell? ⟨gb293, 0, none⟩ = some (.bool false) := (blk_cell BK293.out 0).trans rfl; have hcz66_1 : w65.cell? ⟨gb293, 1, none⟩ = some (.int .i64 0) := (blk_cell BK293.out 1).trans rfl; have hcz66_2 : w65.cell? ⟨gb293, 2, none⟩ = some (.int .i64 0) := (blk_cell BK293.out 2).trans rfl; have hcz66_3 : w65.cell? ⟨gb293, 3, none⟩ = some (.int .i64 0) := (blk_cell BK293.out 3).trans rfl; have hfz66_0 := blk_frozen BK293.out 0; have hfz66_1 := blk_frozen BK293.out 1; have hfz66_2 := blk_frozen BK293.out 2; have hfz66_3 := blk_frozen BK293.out 3))
           refine bodyPost_ret (results_ct rfl _ _ gb293 72 #[.bool true, .int .i64 0, .int .i64 0, .int .i64 t298] (0, 0) _ rfl (by (with_reducible repeat (first | refine blk_drewN ?_ _ | refine blk_drew ?_ | refine blk_alloc ?_ _)); refine blk_put (cs := #[.bool true, .int .i64 0, .int .i64 0, .int .i64 0]) ?_ 3 _ rfl; (with_reducible repeat (first | refine blk_drewN ?_ _ | refine blk_drew ?_ | refine blk_alloc ?_ _)); refine blk_put (cs := #[.bool true, .int .i64 0, .int .i64 0, .int .i64 0]) ?_ 2 _ rfl; (with_reducible repeat (first | refine blk_drewN ?_ _ | refine blk_drew ?_ | refine blk_alloc ?_ _)); refine blk_put (cs := #[.bool true, .int .i64 0, .int .i64 0, .int .i64 0]) ?_ 1 _ rfl; (with_reducible repeat (first | refine blk_drewN ?_ _ | refine blk_drew ?_ | refine blk_alloc ?_ _)); refine blk_put (cs := #[.bool false, .int .i64 0, .int .i64 0, .int .i64 0]) ?_ 0 _ rfl; (with_reducible repeat (first | refine blk_drewN ?_ _ | refine blk_drew ?_ | refine blk_alloc ?_ _)); exact BK293.out) Try.underlying72 rfl (by kernel_rfl)) rfl ?_
           exact ⟨rsl_, bel_⟩
          ·replace c58 := Bool.eq_false_iff.mpr c58
           subst c58
           rw [if_neg (show ¬ (false = true) by decide)] at H
           have HC67 := Aside0.mk H
           clear H
           go_upto_region 9 with (fail)
           go_cut [57] (fun v57 wc => ∃ (kq : Nat) (x57_66 : Bool), v57 = .bool x57_66 ∧ Aside0 (parterreref18_Span.j4 kq l0 x57_66 a1_0 a1_1 a1_2 x293000_37 x293001_37 x293002_37 = some (r1, r2, r3, r4, r5)) ∧ Aside0 (kq ≤ kj42) ∧ Aside0 (wc.heap[gb291]? = some (.cells #[.int .i64 a1_0, .int .i64 a1_1, .string a1_2] 69 (0, 0))) ∧ Aside0 (wc.heap[gb292]? = some (.cells #[.int .i64 x293000_37, .int .i64 x293001_37, .string x293002_37] 69 (0, 0))) ∧ Aside0 (wc.heap[gb293]? = some (.cells #[.bool false, .int .i64 0, .int .i64 0, .int .i64 0] 72 (0, 0))) ∧ Aside0 (Below w.heap.size w wc))
           case first =>
            have H := HC67.out
            clear HC67
            replace H := Option.bind_eq_some_iff.mp H
            obtain ⟨t299, A680, H⟩ := H
            try dsimp only at H
            have A68 := Aside0.mk A680
            clear A680
            by_cases c69 : t299 = true
            ·subst c69
             rw [if_pos rfl] at H
             replace H := Option.bind_eq_some_iff.mp H
             obtain ⟨t300, A700, H⟩ := H
             try dsimp only at H
             have A70 := Aside0.mk A700
             clear A700
             have H' := Aside0.mk H
             clear H
             have hnb71 := NB291_292.out
             have hnc71 := NB292_291.out
             have hnb72 := NB291_293.out
             have hnc72 := NB293_291.out
             have hcz73_0 : wc.cell? ⟨gb291, 0, none⟩ = some (.int .i64 a1_0) := (blk_cell BK291.out 0).trans rfl
             have hcz73_1 : wc.cell? ⟨gb291, 1, none⟩ = some (.int .i64 a1_1) := (blk_cell BK291.out 1).trans rfl
             have hcz73_2 : wc.cell? ⟨gb291, 2, none⟩ = some (.string a1_2) := (blk_cell BK291.out 2).trans rfl
             have hfz73_0 := blk_frozen BK291.out 0
             have hfz73_1 := blk_frozen BK291.out 1
             have hfz73_2 := blk_frozen BK291.out 2
             go_wp2_with (first | ((with_reducible refine gate_callee (f := 90) rfl ?_); refine goesL_ (some 53) rfl rfl Try.func90 (by kernel_rfl) rfl #[.agg #[.int .i64 a1_0, .int .i64 a1_1, .string a1_2]] rfl goa_ ?_; (with_reducible refine (parterreref18_certain.calls a1_0 a1_1 a1_2 true _ A68.out).mono ?_); rintro e w74 ⟨rfl, hb⟩; refine ⟨_, rfl, ?_⟩; have n0_ := blb_ BK291 hb; have n1_ := blb_ BK292 hb; have n2_ := blb_ BK293 hb; have n3_ := Aside0.mk (below_step bel_ hb); clear BK291; clear BK292; clear BK293; clear HB; have BK291 := n0_; have BK292 := n1_; have BK293 := n2_; have HB := n3_; clear n0_ n1_ n2_ n3_; clear hb; have hnb75 := NB292_293.out; have hnc75 := NB293_292.out; have hcz76_0 : w74.cell? ⟨gb292, 0, none⟩ = some (.int .i64 x293000_37) := (blk_cell BK292.out 0).trans rfl; have hcz76_1 : w74.cell? ⟨gb292, 1, none⟩ = some (.int .i64 x293001_37) := (blk_cell BK292.out 1).trans rfl; have hcz76_2 : w74.cell? ⟨gb292, 2, none⟩ = some (.string x293002_37) := (blk_cell BK292.out 2).trans rfl; have hfz76_0 := blk_frozen BK292.out 0; have hfz76_1 := blk_frozen BK292.out 1; have hfz76_2 := blk_frozen BK292.out 2) | (go_at_call 90; (with_reducible refine (parterreref18_certain.calls x293000_37 x293001_37 x293002_37 t300 _ A70.out).mono ?_); rintro e w77 ⟨rfl, hb⟩; have n0_ := blb_ BK291 hb; have n1_ := blb_ BK292 hb; have n2_ := blb_ BK293 hb; have n3_ := Aside0.mk (below_step bel_ hb); clear BK291; clear BK292; clear BK293; clear HB; have BK291 := n0_; have BK292 := n1_; have BK293 := n2_; have HB := n3_; clear n0_ n1_ n2_ n3_; clear hb))
             go_meet
             case rel => exact ⟨_, (t300), rfs_, H', ⟨by have := HJ3.out; have := HJ27.out; have := HJ37.out; have := HJ42.out; first | omega | exact Nat.le_refl _⟩, ⟨blk_⟩, ⟨blk_⟩, ⟨blk_⟩, ⟨bel_⟩⟩
            ·replace c69 := Bool.eq_false_iff.mpr c69
             subst c69
             rw [if_neg (show ¬ (false = true) by decide)] at H
             have H' := Aside0.mk H
             clear H
             have hnb78 := NB291_292.out
             have hnc78 := NB292_291.out
             have hnb79 := NB291_293.out
             have hnc79 := NB293_291.out
             have hcz80_0 : wc.cell? ⟨gb291, 0, none⟩ = some (.int .i64 a1_0) := (blk_cell BK291.out 0).trans rfl
             have hcz80_1 : wc.cell? ⟨gb291, 1, none⟩ = some (.int .i64 a1_1) := (blk_cell BK291.out 1).trans rfl
             have hcz80_2 : wc.cell? ⟨gb291, 2, none⟩ = some (.string a1_2) := (blk_cell BK291.out 2).trans rfl
             have hfz80_0 := blk_frozen BK291.out 0
             have hfz80_1 := blk_frozen BK291.out 1
             have hfz80_2 := blk_frozen BK291.out 2
             go_wp2_with (first | ((with_reducible refine gate_callee (f := 90) rfl ?_); refine goesL_ (some 53) rfl rfl Try.func90 (by kernel_rfl) rfl #[.agg #[.int .i64 a1_0, .int .i64 a1_1, .string a1_2]] rfl goa_ ?_; (with_reducible refine (parterreref18_certain.calls a1_0 a1_1 a1_2 false _ A68.out).mono ?_); rintro e w81 ⟨rfl, hb⟩; refine ⟨_, rfl, ?_⟩; have n0_ := blb_ BK291 hb; have n1_ := blb_ BK292 hb; have n2_ := blb_ BK293 hb; have n3_ := Aside0.mk (below_step bel_ hb); clear BK291; clear BK292; clear BK293; clear HB; have BK291 := n0_; have BK292 := n1_; have BK293 := n2_; have HB := n3_; clear n0_ n1_ n2_ n3_; clear hb))
             go_meet
             case rel => exact ⟨_, (false), rfs_, H', ⟨by have := HJ3.out; have := HJ27.out; have := HJ37.out; have := HJ42.out; first | omega | exact Nat.le_refl _⟩, ⟨blk_⟩, ⟨blk_⟩, ⟨blk_⟩, ⟨bel_⟩⟩
           case rest =>
            clear HC67
            try clear c1
            try clear c2
            try clear p2
            try clear c3
            try clear c4
            try clear c5
            try clear c6
            try clear c7
            try clear c8
            try clear c8b0
            try clear c8b1
            try clear c8b2
            try clear c9
            try clear c9b0
            try clear c9b1
            try clear c11
            try clear c13
            try clear c14
            try clear c17
            try clear c20
            try clear c21
            try clear c24
            try clear c25
            try clear c26
            try clear c29
            try clear c29b0
            try clear c29b1
            try clear c30
            try clear c31
            try clear c33
            try clear c35
            try clear c36
            try clear c39
            try clear c40
            try clear c41
            try clear c45
            try clear c46
            try clear c47
            try clear c51
            try clear c52
            try clear c55
            try clear c58
            try clear c60
            try clear c61
            try clear c63
            try clear c69
            try clear c71
            try clear c72
            try clear c75
            try clear c78
            try clear c79
            try clear hcz15_0
            try clear hcz15_1
            try clear hcz15_2
            try clear hcz18_0
            try clear hcz18_1
            try clear hcz18_2
            try clear hcz22_0
            try clear hcz22_1
            try clear hcz22_2
            try clear hcz27_0
            try clear hcz27_1
            try clear hcz27_2
            try clear hcz27_3
            try clear hcz32_0
            try clear hcz32_1
            try clear hcz32_2
            try clear hcz34_0
            try clear hcz34_1
            try clear hcz34_2
            try clear hcz37_0
            try clear hcz37_1
            try clear hcz37_2
            try clear hcz42_0
            try clear hcz42_1
            try clear hcz42_2
            try clear hcz48_0
            try clear hcz48_1
            try clear hcz48_2
            try clear hcz53_0
            try clear hcz53_1
            try clear hcz53_2
            try clear hcz56_0
            try clear hcz56_1
            try clear hcz56_2
            try clear hcz62_0
            try clear hcz62_1
            try clear hcz62_2
            try clear hcz64_0
            try clear hcz64_1
            try clear hcz64_2
            try clear hcz66_0
            try clear hcz66_1
            try clear hcz66_2
            try clear hcz66_3
            try clear hcz73_0
            try clear hcz73_1
            try clear hcz73_2
            try clear hcz76_0
            try clear hcz76_1
            try clear hcz76_2
            try clear hcz80_0
            try clear hcz80_1
            try clear hcz80_2
            try clear hfz15_0
            try clear hfz15_1
            try clear hfz15_2
            try clear hfz18_0
            try clear hfz18_1
            try clear hfz18_2
            try clear hfz22_0
            try clear hfz22_1
            try clear hfz22_2
            try clear hfz27_0
            try clear hfz27_1
            try clear hfz27_2
            try clear hfz27_3
            try clear hfz32_0
            try clear hfz32_1
            try clear hfz32_2
            try clear hfz34_0
            try clear hfz34_1
            try clear hfz34_2
            try clear hfz37_0
            try clear hfz37_1
            try clear hfz37_2
            try clear hfz42_0
            try clear hfz42_1
            try clear hfz42_2
            try clear hfz48_0
            try clear hfz48_1
            try clear hfz48_2
            try clear hfz53_0
            try clear hfz53_1
            try clear hfz53_2
            try clear hfz56_0
            try clear hfz56_1
            try clear hfz56_2
            try clear hfz62_0
            try clear hfz62_1
            try clear hfz62_2
            try clear hfz64_0
            try clear hfz64_1
            try clear hfz64_2
            try clear hfz66_0
            try clear hfz66_1
            try clear hfz66_2
            try clear hfz66_3
            try clear hfz73_0
            try clear hfz73_1
            try clear hfz73_2
            try clear hfz76_0
            try clear hfz76_1
            try clear hfz76_2
            try clear hfz80_0
            try clear hfz80_1
            try clear hfz80_2
            try clear p2
            obtain ⟨kq, x57_66, rfl, HA, HJ66, BK291, BK292, BK293, HB⟩ := hcut
            cases kq with
            | zero => exact absurd HA.out (by simp [parterreref18_Span.j4])
            | succ kj66 =>
             have H := HA.out
             clear HA
             simp only [parterreref18_Span.j4] at H
             by_cases c82 : x57_66 = true
             ·subst c82
              rw [if_pos rfl] at H
              replace H := Option.bind_eq_some_iff.mp H
              obtain ⟨t301, A830, H⟩ := H
              try dsimp only at H
              have A83 := Aside0.mk A830
              clear A830
              replace H := Option.bind_eq_some_iff.mp H
              obtain ⟨t302, A840, H⟩ := H
              try dsimp only at H
              have A84 := Aside0.mk A840
              clear A840
              obtain ⟨ji85, hji85⟩ : ∃ j_ : Int, (mn t301 t302) = j_ := ⟨_, rfl⟩
              replace H : (if (ji85) = (mx t301 t302) then ((parterreref18_Clamp.f (ji85) (wrap64 ((mx t301 t302) + 1))).bind fun bt303 => (some (false, bt303.1, bt303.2, 0, 0))) else ((parterreref18_Clamp.f (ji85) (mx t301 t302)).bind fun bt305 => (some (false, bt305.1, bt305.2, 0, 0)))) = some (r1, r2, r3, r4, r5) := by first | (rw [hji85] at H; exact H) | (simp only [hji85] at H ⊢; exact H)
              (try rw [hji85] at A83)
              (try rw [hji85] at A84)
              have hji85_ : (if t302 < t301 then t302 else t301) = ji85 := hji85
              obtain ⟨ji86, hji86⟩ : ∃ j_ : Int, (mx t301 t302) = j_ := ⟨_, rfl⟩
              replace H : (if (ji85) = (ji86) then ((parterreref18_Clamp.f (ji85) (wrap64 ((ji86) + 1))).bind fun bt303 => (some (false, bt303.1, bt303.2, 0, 0))) else ((parterreref18_Clamp.f (ji85) (ji86)).bind fun bt305 => (some (false, bt305.1, bt305.2, 0, 0)))) = some (r1, r2, r3, r4, r5) := by first | (rw [hji86] at H; exact H) | (simp only [hji86] at H ⊢; exact H)
              (try rw [hji86] at A83)
              (try rw [hji86] at A84)
              have hji86_ : (if t301 < t302 then t302 else t301) = ji86 := hji86
              by_cases c87 : (ji85) = (ji86)
              ·rw [if_pos c87] at H
               have c87b0 : ((ji85) == (ji86)) = true := beq_iff_eq.mpr c87
               have c87b1 : ((ji85) != (ji86)) = false := bne_eq_false_iff_eq.mpr c87
               clear c87
               replace H := Option.bind_eq_some_iff.mp H
               obtain ⟨⟨t303, t304⟩, A880, H⟩ := H
               try dsimp only at H
               have A88 := Aside0.mk A880
               clear A880
               simp only [Option.some.injEq, Prod.mk.injEq] at H
               obtain ⟨rfl, rfl, rfl, rfl, rfl⟩ := H
               have hnb89 := NB291_292.out
               have hnc89 := NB292_291.out
               have hnb90 := NB291_293.out
               have hnc90 := NB293_291.out
               have hcz91_0 : wc.cell? ⟨gb291, 0, none⟩ = some (.int .i64 a1_0) := (blk_cell BK291.out 0).trans rfl
               have hcz91_1 : wc.cell? ⟨gb291, 1, none⟩ = some (.int .i64 a1_1) := (blk_cell BK291.out 1).trans rfl
               have hcz91_2 : wc.cell? ⟨gb291, 2, none⟩ = some (.string a1_2) := (blk_cell BK291.out 2).trans rfl
               have hfz91_0 := blk_frozen BK291.out 0
               have hfz91_1 := blk_frozen BK291.out 1
               have hfz91_2 := blk_frozen BK291.out 2
               go_wp2_with (first | ((with_reducible refine gate_callee (f := 92) rfl ?_); refine goesL_ (some 60) rfl rfl Try.func92 (by kernel_rfl) rfl #[.slice A0 l0.length c0, .agg #[.int .i64 a1_0, .int .i64 a1_1, .string a1_2], .bool false] rfl goa_ ?_; (with_reducible refine (parterreref18_at.calls kj66 _ _ l0 a1_0 a1_1 a1_2 false t301 _ ?side1 ?side2 A83.out).mono ?_); (case side1 => repeat (first | exact (Kd.C_below HR0.out HB.out) | (with_reducible refine Kd.C_alloc ?_ _) | (with_reducible refine Kd.C_drewN ?_ _) | (with_reducible refine Kd.C_drew ?_))); (case side2 => exact HC0.out); rintro e w92 ⟨rfl, hb⟩; refine ⟨_, rfl, ?_⟩; have n0_ := blb_ BK291 hb; have n1_ := blb_ BK292 hb; have n2_ := blb_ BK293 hb; have n3_ := Aside0.mk (below_step bel_ hb); clear BK291; clear BK292; clear BK293; clear HB; have BK291 := n0_; have BK292 := n1_; have BK293 := n2_; have HB := n3_; clear n0_ n1_ n2_ n3_; clear hb; have hnb93 := NB292_293.out; have hnc93 := NB293_292.out; have hcz94_0 : w92.cell? ⟨gb292, 0, none⟩ = some (.int .i64 x293000_37) := (blk_cell BK292.out 0).trans rfl; have hcz94_1 : w92.cell? ⟨gb292, 1, none⟩ = some (.int .i64 x293001_37) := (blk_cell BK292.out 1).trans rfl; have hcz94_2 : w92.cell? ⟨gb292, 2, none⟩ = some (.string x293002_37) := (blk_cell BK292.out 2).trans rfl; have hfz94_0 := blk_frozen BK292.out 0; have hfz94_1 := blk_frozen BK292.out 1; have hfz94_2 := blk_frozen BK292.out 2) | ((with_reducible refine gate_callee (f := 92) rfl ?_); refine goesL_ (some 63) rfl rfl Try.func92 (by kernel_rfl) rfl #[.slice A0 l0.length c0, .agg #[.int .i64 x293000_37, .int .i64 x293001_37, .string x293002_37], .bool true] rfl goa_ ?_; (with_reducible refine (parterreref18_at.calls kj66 _ _ l0 x293000_37 x293001_37 x293002_37 true t302 _ ?side1 ?side2 A84.out).mono ?_); (case side1 => repeat (first | exact (Kd.C_below HR0.out HB.out) | (with_reducible refine Kd.C_alloc ?_ _) | (with_reducible refine Kd.C_drewN ?_ _) | (with_reducible refine Kd.C_drew ?_))); (case side2 => exact HC0.out); rintro e w95 ⟨rfl, hb⟩; refine ⟨_, rfl, ?_⟩; have n0_ := blb_ BK291 hb; have n1_ := blb_ BK292 hb; have n2_ := blb_ BK293 hb; have n3_ := Aside0.mk (below_step bel_ hb); clear BK291; clear BK292; clear BK293; clear HB; have BK291 := n0_; have BK292 := n1_; have BK293 := n2_; have HB := n3_; clear n0_ n1_ n2_ n3_; clear hb) | ((with_reducible refine gate_callee (f := 62) rfl ?_); refine goesL_ (some 94) rfl rfl Try.func62 (by kernel_rfl) rfl #[.int .i64 ji85, .int .i64 (wrap64 ((ji86) + 1))] rfl (by (try simp only [List.map_toArray, List.map_cons, List.map_nil]); first | done | (simp only [hji85, hji86]; rfl) | rfl | (simp only [List.length_drop, List.length_take]; rfl)) ?_; (with_reducible refine (parterreref18_Clamp.calls ji85 (wrap64 ((ji86) + 1)) t303 t304 _ A88.out).mono ?_); rintro e w96 ⟨rfl, hb⟩; refine ⟨_, rfl, ?_⟩; have n0_ := blb_ BK291 hb; have n1_ := blb_ BK292 hb; have n2_ := blb_ BK293 hb; have n3_ := Aside0.mk (below_step bel_ hb); clear BK291; clear BK292; clear BK293; clear HB; have BK291 := n0_; have BK292 := n1_; have BK293 := n2_; have HB := n3_; clear n0_ n1_ n2_ n3_; clear hb; have hcz97_0 : w96.cell? ⟨gb293, 0, none⟩ = some (.bool false) := (blk_cell BK293.out 0).trans rfl; have hcz97_1 : w96.cell? ⟨gb293, 1, none⟩ = some (.int .i64 0) := (blk_cell BK293.out 1).trans rfl; have hcz97_2 : w96.cell? ⟨gb293, 2, none⟩ = some (.int .i64 0) := (blk_cell BK293.out 2).trans rfl; have hcz97_3 : w96.cell? ⟨gb293, 3, none⟩ = some (.int .i64 0) := (blk_cell BK293.out 3).trans rfl; have hfz97_0 := blk_frozen BK293.out 0; have hfz97_1 := blk_frozen BK293.out 1; have hfz97_2 := blk_frozen BK293.out 2; have hfz97_3 := blk_frozen BK293.out 3))
               refine bodyPost_ret (results_ct rfl _ _ gb293 72 #[.bool false, .int .i64 t303, .int .i64 t304, .int .i64 0] (0, 0) _ rfl (by (with_reducible repeat (first | refine blk_drewN ?_ _ | refine blk_drew ?_ | refine blk_alloc ?_ _)); refine blk_put (cs := #[.bool false, .int .i64 t303, .int .i64 t304, .int .i64 0]) ?_ 3 _ rfl; (with_reducible repeat (first | refine blk_drewN ?_ _ | refine blk_drew ?_ | refine blk_alloc ?_ _)); refine blk_put (cs := #[.bool false, .int .i64 t303, .int .i64 0, .int .i64 0]) ?_ 2 _ rfl; (with_reducible repeat (first | refine blk_drewN ?_ _ | refine blk_drew ?_ | refine blk_alloc ?_ _)); refine blk_put (cs := #[.bool false, .int .i64 0, .int .i64 0, .int .i64 0]) ?_ 1 _ rfl; (with_reducible repeat (first | refine blk_drewN ?_ _ | refine blk_drew ?_ | refine blk_alloc ?_ _)); refine blk_put (cs := #[.bool false, .int .i64 0, .int .i64 0, .int .i64 0]) ?_ 0 _ rfl; (with_reducible repeat (first | refine blk_drewN ?_ _ | refine blk_drew ?_ | refine blk_alloc ?_ _)); exact BK293.out) Try.underlying72 rfl (by kernel_rfl)) rfl ?_
               exact ⟨by first | rfl | (simp [errW_none, errW_some] <;> rfl) | (simp only [← hji85, ← hji86]; first | rfl | (simp [errW_none, errW_some] <;> rfl)) | (simp [*, errW_none, errW_some] <;> rfl), bel_⟩
              ·rw [if_neg c87] at H
               have c87b0 : ((ji85) == (ji86)) = false := beq_eq_false_iff_ne.mpr c87
               have c87b1 : ((ji85) != (ji86)) = true := bne_iff_ne.mpr c87
               replace H := Option.bind_eq_some_iff.mp H
               obtain ⟨⟨t305, t306⟩, A980, H⟩ := H
               try dsimp only at H
               have A98 := Aside0.mk A980
               clear A980
               simp only [Option.some.injEq, Prod.mk.injEq] at H
               obtain ⟨rfl, rfl, rfl, rfl, rfl⟩ := H
               have hnb99 := NB291_292.out
               have hnc99 := NB292_291.out
               have hnb100 := NB291_293.out
               have hnc100 := NB293_291.out
               have hcz101_0 : wc.cell? ⟨gb291, 0, none⟩ = some (.int .i64 a1_0) := (blk_cell BK291.out 0).trans rfl
               have hcz101_1 : wc.cell? ⟨gb291, 1, none⟩ = some (.int .i64 a1_1) := (blk_cell BK291.out 1).trans rfl
               have hcz101_2 : wc.cell? ⟨gb291, 2, none⟩ = some (.string a1_2) := (blk_cell BK291.out 2).trans rfl
               have hfz101_0 := blk_frozen BK291.out 0
               have hfz101_1 := blk_frozen BK291.out 1
               have hfz101_2 := blk_frozen BK291.out 2
               go_wp2_with (first | ((with_reducible refine gate_callee (f := 92) rfl ?_); refine goesL_ (some 60) rfl rfl Try.func92 (by kernel_rfl) rfl #[.slice A0 l0.length c0, .agg #[.int .i64 a1_0, .int .i64 a1_1, .string a1_2], .bool false] rfl goa_ ?_; (with_reducible refine (parterreref18_at.calls kj66 _ _ l0 a1_0 a1_1 a1_2 false t301 _ ?side1 ?side2 A83.out).mono ?_); (case side1 => repeat (first | exact (Kd.C_below HR0.out HB.out) | (with_reducible refine Kd.C_alloc ?_ _) | (with_reducible refine Kd.C_drewN ?_ _) | (with_reducible refine Kd.C_drew ?_))); (case side2 => exact HC0.out); rintro e w102 ⟨rfl, hb⟩; refine ⟨_, rfl, ?_⟩; have n0_ := blb_ BK291 hb; have n1_ := blb_ BK292 hb; have n2_ := blb_ BK293 hb; have n3_ := Aside0.mk (below_step bel_ hb); clear BK291; clear BK292; clear BK293; clear HB; have BK291 := n0_; have BK292 := n1_; have BK293 := n2_; have HB := n3_; clear n0_ n1_ n2_ n3_; clear hb; have hnb103 := NB292_293.out; have hnc103 := NB293_292.out; have hcz104_0 : w102.cell? ⟨gb292, 0, none⟩ = some (.int .i64 x293000_37) := (blk_cell BK292.out 0).trans rfl; have hcz104_1 : w102.cell? ⟨gb292, 1, none⟩ = some (.int .i64 x293001_37) := (blk_cell BK292.out 1).trans rfl; have hcz104_2 : w102.cell? ⟨gb292, 2, none⟩ = some (.string x293002_37) := (blk_cell BK292.out 2).trans rfl; have hfz104_0 := blk_frozen BK292.out 0; have hfz104_1 := blk_frozen BK292.out 1; have hfz104_2 := blk_frozen BK292.out 2) | ((with_reducible refine gate_callee (f := 92) rfl ?_); refine goesL_ (some 63) rfl rfl Try.func92 (by kernel_rfl) rfl #[.slice A0 l0.length c0, .agg #[.int .i64 x293000_37, .int .i64 x293001_37, .string x293002_37], .bool true] rfl goa_ ?_; (with_reducible refine (parterreref18_at.calls kj66 _ _ l0 x293000_37 x293001_37 x293002_37 true t302 _ ?side1 ?side2 A84.out).mono ?_); (case side1 => repeat (first | exact (Kd.C_below HR0.out HB.out) | (with_reducible refine Kd.C_alloc ?_ _) | (with_reducible refine Kd.C_drewN ?_ _) | (with_reducible refine Kd.C_drew ?_))); (case side2 => exact HC0.out); rintro e w105 ⟨rfl, hb⟩; refine ⟨_, rfl, ?_⟩; have n0_ := blb_ BK291 hb; have n1_ := blb_ BK292 hb; have n2_ := blb_ BK293 hb; have n3_ := Aside0.mk (below_step bel_ hb); clear BK291; clear BK292; clear BK293; clear HB; have BK291 := n0_; have BK292 := n1_; have BK293 := n2_; have HB := n3_; clear n0_ n1_ n2_ n3_; clear hb) | ((with_reducible refine gate_callee (f := 62) rfl ?_); refine goesL_ (some 94) rfl rfl Try.func62 (by kernel_rfl) rfl #[.int .i64 ji85, .int .i64 ji86] rfl (by (try simp only [List.map_toArray, List.map_cons, List.map_nil]); first | done | (simp only [hji85, hji86]; rfl) | rfl | (simp only [List.length_drop, List.length_take]; rfl)) ?_; (with_reducible refine (parterreref18_Clamp.calls ji85 ji86 t305 t306 _ A98.out).mono ?_); rintro e w106 ⟨rfl, hb⟩; refine ⟨_, rfl, ?_⟩; have n0_ := blb_ BK291 hb; have n1_ := blb_ BK292 hb; have n2_ := blb_ BK293 hb; have n3_ := Aside0.mk (below_step bel_ hb); clear BK291; clear BK292; clear BK293; clear HB; have BK291 := n0_; have BK292 := n1_; have BK293 := n2_; have HB := n3_; clear n0_ n1_ n2_ n3_; clear hb; have hcz107_0 : w106.cell? ⟨gb293, 0, none⟩ = some (.bool false) := (blk_cell BK293.out 0).trans rfl; have hcz107_1 : w106.cell? ⟨gb293, 1, none⟩ = some (.int .i64 0) := (blk_cell BK293.out 1).trans rfl; have hcz107_2 : w106.cell? ⟨gb293, 2, none⟩ = some (.int .i64 0) := (blk_cell BK293.out 2).trans rfl; have hcz107_3 : w106.cell? ⟨gb293, 3, none⟩ = some (.int .i64 0) := (blk_cell BK293.out 3).trans rfl; have hfz107_0 := blk_frozen BK293.out 0; have hfz107_1 := blk_frozen BK293.out 1; have hfz107_2 := blk_frozen BK293.out 2; have hfz107_3 := blk_frozen BK293.out 3))
               refine bodyPost_ret (results_ct rfl _ _ gb293 72 #[.bool false, .int .i64 t305, .int .i64 t306, .int .i64 0] (0, 0) _ rfl (by (with_reducible repeat (first | refine blk_drewN ?_ _ | refine blk_drew ?_ | refine blk_alloc ?_ _)); refine blk_put (cs := #[.bool false, .int .i64 t305, .int .i64 t306, .int .i64 0]) ?_ 3 _ rfl; (with_reducible repeat (first | refine blk_drewN ?_ _ | refine blk_drew ?_ | refine blk_alloc ?_ _)); refine blk_put (cs := #[.bool false, .int .i64 t305, .int .i64 0, .int .i64 0]) ?_ 2 _ rfl; (with_reducible repeat (first | refine blk_drewN ?_ _ | refine blk_drew ?_ | refine blk_alloc ?_ _)); refine blk_put (cs := #[.bool false, .int .i64 0, .int .i64 0, .int .i64 0]) ?_ 1 _ rfl; (with_reducible repeat (first | refine blk_drewN ?_ _ | refine blk_drew ?_ | refine blk_alloc ?_ _)); refine blk_put (cs := #[.bool false, .int .i64 0, .int .i64 0, .int .i64 0]) ?_ 0 _ rfl; (with_reducible repeat (first | refine blk_drewN ?_ _ | refine blk_drew ?_ | refine blk_alloc ?_ _)); exact BK293.out) Try.underlying72 rfl (by kernel_rfl)) rfl ?_
               exact ⟨by first | rfl | (simp [errW_none, errW_some] <;> rfl) | (simp only [← hji85, ← hji86]; first | rfl | (simp [errW_none, errW_some] <;> rfl)) | (simp [*, errW_none, errW_some] <;> rfl), bel_⟩
             ·replace c82 := Bool.eq_false_iff.mpr c82
              subst c82
              rw [if_neg (show ¬ (false = true) by decide)] at H
              replace H := Option.bind_eq_some_iff.mp H
              obtain ⟨t307, A1080, H⟩ := H
              try dsimp only at H
              have A108 := Aside0.mk A1080
              clear A1080
              by_cases c109 : t307 = true
              ·subst c109
               rw [if_pos rfl] at H
               replace H := Option.bind_eq_some_iff.mp H
               obtain ⟨t308, A1100, H⟩ := H
               try dsimp only at H
               have A110 := Aside0.mk A1100
               clear A1100
               replace H := Option.bind_eq_some_iff.mp H
               obtain ⟨t309, A1110, H⟩ := H
               try dsimp only at H
               have A111 := Aside0.mk A1110
               clear A1110
               replace H := Option.bind_eq_some_iff.mp H
               obtain ⟨⟨t310, t311⟩, A1120, H⟩ := H
               try dsimp only at H
               have A112 := Aside0.mk A1120
               clear A1120
               simp only [Option.some.injEq, Prod.mk.injEq] at H
               obtain ⟨rfl, rfl, rfl, rfl, rfl⟩ := H
               have hnb113 := NB291_292.out
               have hnc113 := NB292_291.out
               have hnb114 := NB291_293.out
               have hnc114 := NB293_291.out
               have hcz115_0 : wc.cell? ⟨gb291, 0, none⟩ = some (.int .i64 a1_0) := (blk_cell BK291.out 0).trans rfl
               have hcz115_1 : wc.cell? ⟨gb291, 1, none⟩ = some (.int .i64 a1_1) := (blk_cell BK291.out 1).trans rfl
               have hcz115_2 : wc.cell? ⟨gb291, 2, none⟩ = some (.string a1_2) := (blk_cell BK291.out 2).trans rfl
               have hfz115_0 := blk_frozen BK291.out 0
               have hfz115_1 := blk_frozen BK291.out 1
               have hfz115_2 := blk_frozen BK291.out 2
               go_wp2_with (first | ((with_reducible refine gate_callee (f := 90) rfl ?_); refine goesL_ (some 76) rfl rfl Try.func90 (by kernel_rfl) rfl #[.agg #[.int .i64 a1_0, .int .i64 a1_1, .string a1_2]] rfl goa_ ?_; (with_reducible refine (parterreref18_certain.calls a1_0 a1_1 a1_2 true _ A108.out).mono ?_); rintro e w116 ⟨rfl, hb⟩; refine ⟨_, rfl, ?_⟩; have n0_ := blb_ BK291 hb; have n1_ := blb_ BK292 hb; have n2_ := blb_ BK293 hb; have n3_ := Aside0.mk (below_step bel_ hb); clear BK291; clear BK292; clear BK293; clear HB; have BK291 := n0_; have BK292 := n1_; have BK293 := n2_; have HB := n3_; clear n0_ n1_ n2_ n3_; clear hb; have hcz117_0 : w116.cell? ⟨gb291, 0, none⟩ = some (.int .i64 a1_0) := (blk_cell BK291.out 0).trans rfl; have hcz117_1 : w116.cell? ⟨gb291, 1, none⟩ = some (.int .i64 a1_1) := (blk_cell BK291.out 1).trans rfl; have hcz117_2 : w116.cell? ⟨gb291, 2, none⟩ = some (.string a1_2) := (blk_cell BK291.out 2).trans rfl; have hfz117_0 := blk_frozen BK291.out 0; have hfz117_1 := blk_frozen BK291.out 1; have hfz117_2 := blk_frozen BK291.out 2) | ((with_reducible refine gate_callee (f := 92) rfl ?_); refine goesL_ (some 79) rfl rfl Try.func92 (by kernel_rfl) rfl #[.slice A0 l0.length c0, .agg #[.int .i64 a1_0, .int .i64 a1_1, .string a1_2], .bool false] rfl goa_ ?_; (with_reducible refine (parterreref18_at.calls kj66 _ _ l0 a1_0 a1_1 a1_2 false t308 _ ?side1 ?side2 A110.out).mono ?_); (case side1 => repeat (first | exact (Kd.C_below HR0.out HB.out) | (with_reducible refine Kd.C_alloc ?_ _) | (with_reducible refine Kd.C_drewN ?_ _) | (with_reducible refine Kd.C_drew ?_))); (case side2 => exact HC0.out); rintro e w118 ⟨rfl, hb⟩; refine ⟨_, rfl, ?_⟩; have n0_ := blb_ BK291 hb; have n1_ := blb_ BK292 hb; have n2_ := blb_ BK293 hb; have n3_ := Aside0.mk (below_step bel_ hb); clear BK291; clear BK292; clear BK293; clear HB; have BK291 := n0_; have BK292 := n1_; have BK293 := n2_; have HB := n3_; clear n0_ n1_ n2_ n3_; clear hb; have hnb119 := NB292_293.out; have hnc119 := NB293_292.out; have hcz120_0 : w118.cell? ⟨gb292, 0, none⟩ = some (.int .i64 x293000_37) := (blk_cell BK292.out 0).trans rfl; have hcz120_1 : w118.cell? ⟨gb292, 1, none⟩ = some (.int .i64 x293001_37) := (blk_cell BK292.out 1).trans rfl; have hcz120_2 : w118.cell? ⟨gb292, 2, none⟩ = some (.string x293002_37) := (blk_cell BK292.out 2).trans rfl; have hfz120_0 := blk_frozen BK292.out 0; have hfz120_1 := blk_frozen BK292.out 1; have hfz120_2 := blk_frozen BK292.out 2) | ((with_reducible refine gate_callee (f := 93) rfl ?_); refine goesL_ (some 83) rfl rfl Try.func93 (by kernel_rfl) rfl #[.slice A0 l0.length c0, .int .i64 t308, .agg #[.int .i64 x293000_37, .int .i64 x293001_37, .string x293002_37], .int .i64 1] rfl goa_ ?_; (with_reducible refine (parterreref18_far.calls kj66 _ _ l0 t308 x293000_37 x293001_37 x293002_37 1 t309 _ ?side1 ?side2 A111.out).mono ?_); (case side1 => repeat (first | exact (Kd.C_below HR0.out HB.out) | (with_reducible refine Kd.C_alloc ?_ _) | (with_reducible refine Kd.C_drewN ?_ _) | (with_reducible refine Kd.C_drew ?_))); (case side2 => exact HC0.out); rintro e w121 ⟨rfl, hb⟩; refine ⟨_, rfl, ?_⟩; have n0_ := blb_ BK291 hb; have n1_ := blb_ BK292 hb; have n2_ := blb_ BK293 hb; have n3_ := Aside0.mk (below_step bel_ hb); clear BK291; clear BK292; clear BK293; clear HB; have BK291 := n0_; have BK292 := n1_; have BK293 := n2_; have HB := n3_; clear n0_ n1_ n2_ n3_; clear hb) | ((with_reducible refine gate_callee (f := 62) rfl ?_); refine goesL_ (some 94) rfl rfl Try.func62 (by kernel_rfl) rfl #[.int .i64 t308, .int .i64 t309] rfl goa_ ?_; (with_reducible refine (parterreref18_Clamp.calls t308 t309 t310 t311 _ A112.out).mono ?_); rintro e w122 ⟨rfl, hb⟩; refine ⟨_, rfl, ?_⟩; have n0_ := blb_ BK291 hb; have n1_ := blb_ BK292 hb; have n2_ := blb_ BK293 hb; have n3_ := Aside0.mk (below_step bel_ hb); clear BK291; clear BK292; clear BK293; clear HB; have BK291 := n0_; have BK292 := n1_; have BK293 := n2_; have HB := n3_; clear n0_ n1_ n2_ n3_; clear hb; have hcz123_0 : w122.cell? ⟨gb293, 0, none⟩ = some (.bool false) := (blk_cell BK293.out 0).trans rfl; have hcz123_1 : w122.cell? ⟨gb293, 1, none⟩ = some (.int .i64 0) := (blk_cell BK293.out 1).trans rfl; have hcz123_2 : w122.cell? ⟨gb293, 2, none⟩ = some (.int .i64 0) := (blk_cell BK293.out 2).trans rfl; have hcz123_3 : w122.cell? ⟨gb293, 3, none⟩ = some (.int .i64 0) := (blk_cell BK293.out 3).trans rfl; have hfz123_0 := blk_frozen BK293.out 0; have hfz123_1 := blk_frozen BK293.out 1; have hfz123_2 := blk_frozen BK293.out 2; have hfz123_3 := blk_frozen BK293.out 3))
               refine bodyPost_ret (results_ct rfl _ _ gb293 72 #[.bool false, .int .i64 t310, .int .i64 t311, .int .i64 0] (0, 0) _ rfl (by (with_reducible repeat (first | refine blk_drewN ?_ _ | refine blk_drew ?_ | refine blk_alloc ?_ _)); refine blk_put (cs := #[.bool false, .int .i64 t310, .int .i64 t311, .int .i64 0]) ?_ 3 _ rfl; (with_reducible repeat (first | refine blk_drewN ?_ _ | refine blk_drew ?_ | refine blk_alloc ?_ _)); refine blk_put (cs := #[.bool false, .int .i64 t310, .int .i64 0, .int .i64 0]) ?_ 2 _ rfl; (with_reducible repeat (first | refine blk_drewN ?_ _ | refine blk_drew ?_ | refine blk_alloc ?_ _)); refine blk_put (cs := #[.bool false, .int .i64 0, .int .i64 0, .int .i64 0]) ?_ 1 _ rfl; (with_reducible repeat (first | refine blk_drewN ?_ _ | refine blk_drew ?_ | refine blk_alloc ?_ _)); refine blk_put (cs := #[.bool false, .int .i64 0, .int .i64 0, .int .i64 0]) ?_ 0 _ rfl; (with_reducible repeat (first | refine blk_drewN ?_ _ | refine blk_drew ?_ | refine blk_alloc ?_ _)); exact BK293.out) Try.underlying72 rfl (by kernel_rfl)) rfl ?_
               exact ⟨rsl_, bel_⟩
              ·replace c109 := Bool.eq_false_iff.mpr c109
               subst c109
               rw [if_neg (show ¬ (false = true) by decide)] at H
               replace H := Option.bind_eq_some_iff.mp H
               obtain ⟨t312, A1240, H⟩ := H
               try dsimp only at H
               have A124 := Aside0.mk A1240
               clear A1240
               replace H := Option.bind_eq_some_iff.mp H
               obtain ⟨t313, A1250, H⟩ := H
               try dsimp only at H
               have A125 := Aside0.mk A1250
               clear A1250
               replace H := Option.bind_eq_some_iff.mp H
               obtain ⟨⟨t314, t315⟩, A1260, H⟩ := H
               try dsimp only at H
               have A126 := Aside0.mk A1260
               clear A1260
               simp only [Option.some.injEq, Prod.mk.injEq] at H
               obtain ⟨rfl, rfl, rfl, rfl, rfl⟩ := H
               have hnb127 := NB291_292.out
               have hnc127 := NB292_291.out
               have hnb128 := NB291_293.out
               have hnc128 := NB293_291.out
               have hcz129_0 : wc.cell? ⟨gb291, 0, none⟩ = some (.int .i64 a1_0) := (blk_cell BK291.out 0).trans rfl
               have hcz129_1 : wc.cell? ⟨gb291, 1, none⟩ = some (.int .i64 a1_1) := (blk_cell BK291.out 1).trans rfl
               have hcz129_2 : wc.cell? ⟨gb291, 2, none⟩ = some (.string a1_2) := (blk_cell BK291.out 2).trans rfl
               have hfz129_0 := blk_frozen BK291.out 0
               have hfz129_1 := blk_frozen BK291.out 1
               have hfz129_2 := blk_frozen BK291.out 2
               go_wp2_with (first | ((with_reducible refine gate_callee (f := 90) rfl ?_); refine goesL_ (some 76) rfl rfl Try.func90 (by kernel_rfl) rfl #[.agg #[.int .i64 a1_0, .int .i64 a1_1, .string a1_2]] rfl goa_ ?_; (with_reducible refine (parterreref18_certain.calls a1_0 a1_1 a1_2 false _ A108.out).mono ?_); rintro e w130 ⟨rfl, hb⟩; refine ⟨_, rfl, ?_⟩; have n0_ := blb_ BK291 hb; have n1_ := blb_ BK292 hb; have n2_ := blb_ BK293 hb; have n3_ := Aside0.mk (below_step bel_ hb); clear BK291; clear BK292; clear BK293; clear HB; have BK291 := n0_; have BK292 := n1_; have BK293 := n2_; have HB := n3_; clear n0_ n1_ n2_ n3_; clear hb; have hnb131 := NB292_293.out; have hnc131 := NB293_292.out; have hcz132_0 : w130.cell? ⟨gb292, 0, none⟩ = some (.int .i64 x293000_37) := (blk_cell BK292.out 0).trans rfl; have hcz132_1 : w130.cell? ⟨gb292, 1, none⟩ = some (.int .i64 x293001_37) := (blk_cell BK292.out 1).trans rfl; have hcz132_2 : w130.cell? ⟨gb292, 2, none⟩ = some (.string x293002_37) := (blk_cell BK292.out 2).trans rfl; have hfz132_0 := blk_frozen BK292.out 0; have hfz132_1 := blk_frozen BK292.out 1; have hfz132_2 := blk_frozen BK292.out 2) | ((with_reducible refine gate_callee (f := 92) rfl ?_); refine goesL_ (some 86) rfl rfl Try.func92 (by kernel_rfl) rfl #[.slice A0 l0.length c0, .agg #[.int .i64 x293000_37, .int .i64 x293001_37, .string x293002_37], .bool true] rfl goa_ ?_; (with_reducible refine (parterreref18_at.calls kj66 _ _ l0 x293000_37 x293001_37 x293002_37 true t312 _ ?side1 ?side2 A124.out).mono ?_); (case side1 => repeat (first | exact (Kd.C_below HR0.out HB.out) | (with_reducible refine Kd.C_alloc ?_ _) | (with_reducible refine Kd.C_drewN ?_ _) | (with_reducible refine Kd.C_drew ?_))); (case side2 => exact HC0.out); rintro e w133 ⟨rfl, hb⟩; refine ⟨_, rfl, ?_⟩; have n0_ := blb_ BK291 hb; have n1_ := blb_ BK292 hb; have n2_ := blb_ BK293 hb; have n3_ := Aside0.mk (below_step bel_ hb); clear BK291; clear BK292; clear BK293; clear HB; have BK291 := n0_; have BK292 := n1_; have BK293 := n2_; have HB := n3_; clear n0_ n1_ n2_ n3_; clear hb; have hcz134_0 : w133.cell? ⟨gb291, 0, none⟩ = some (.int .i64 a1_0) := (blk_cell BK291.out 0).trans rfl; have hcz134_1 : w133.cell? ⟨gb291, 1, none⟩ = some (.int .i64 a1_1) := (blk_cell BK291.out 1).trans rfl; have hcz134_2 : w133.cell? ⟨gb291, 2, none⟩ = some (.string a1_2) := (blk_cell BK291.out 2).trans rfl; have hfz134_0 := blk_frozen BK291.out 0; have hfz134_1 := blk_frozen BK291.out 1; have hfz134_2 := blk_frozen BK291.out 2) | ((with_reducible refine gate_callee (f := 93) rfl ?_); refine goesL_ (some 90) rfl rfl Try.func93 (by kernel_rfl) rfl #[.slice A0 l0.length c0, .int .i64 t312, .agg #[.int .i64 a1_0, .int .i64 a1_1, .string a1_2], .int .i64 (-1)] rfl goa_ ?_; (with_reducible refine (parterreref18_far.calls kj66 _ _ l0 t312 a1_0 a1_1 a1_2 (-1) t313 _ ?side1 ?side2 A125.out).mono ?_); (case side1 => repeat (first | exact (Kd.C_below HR0.out HB.out) | (with_reducible refine Kd.C_alloc ?_ _) | (with_reducible refine Kd.C_drewN ?_ _) | (with_reducible refine Kd.C_drew ?_))); (case side2 => exact HC0.out); rintro e w135 ⟨rfl, hb⟩; refine ⟨_, rfl, ?_⟩; have n0_ := blb_ BK291 hb; have n1_ := blb_ BK292 hb; have n2_ := blb_ BK293 hb; have n3_ := Aside0.mk (below_step bel_ hb); clear BK291; clear BK292; clear BK293; clear HB; have BK291 := n0_; have BK292 := n1_; have BK293 := n2_; have HB := n3_; clear n0_ n1_ n2_ n3_; clear hb) | ((with_reducible refine gate_callee (f := 62) rfl ?_); refine goesL_ (some 94) rfl rfl Try.func62 (by kernel_rfl) rfl #[.int .i64 t313, .int .i64 t312] rfl goa_ ?_; (with_reducible refine (parterreref18_Clamp.calls t313 t312 t314 t315 _ A126.out).mono ?_); rintro e w136 ⟨rfl, hb⟩; refine ⟨_, rfl, ?_⟩; have n0_ := blb_ BK291 hb; have n1_ := blb_ BK292 hb; have n2_ := blb_ BK293 hb; have n3_ := Aside0.mk (below_step bel_ hb); clear BK291; clear BK292; clear BK293; clear HB; have BK291 := n0_; have BK292 := n1_; have BK293 := n2_; have HB := n3_; clear n0_ n1_ n2_ n3_; clear hb; have hcz137_0 : w136.cell? ⟨gb293, 0, none⟩ = some (.bool false) := (blk_cell BK293.out 0).trans rfl; have hcz137_1 : w136.cell? ⟨gb293, 1, none⟩ = some (.int .i64 0) := (blk_cell BK293.out 1).trans rfl; have hcz137_2 : w136.cell? ⟨gb293, 2, none⟩ = some (.int .i64 0) := (blk_cell BK293.out 2).trans rfl; have hcz137_3 : w136.cell? ⟨gb293, 3, none⟩ = some (.int .i64 0) := (blk_cell BK293.out 3).trans rfl; have hfz137_0 := blk_frozen BK293.out 0; have hfz137_1 := blk_frozen BK293.out 1; have hfz137_2 := blk_frozen BK293.out 2; have hfz137_3 := blk_frozen BK293.out 3))
               refine bodyPost_ret (results_ct rfl _ _ gb293 72 #[.bool false, .int .i64 t314, .int .i64 t315, .int .i64 0] (0, 0) _ rfl (by (with_reducible repeat (first | refine blk_drewN ?_ _ | refine blk_drew ?_ | refine blk_alloc ?_ _)); refine blk_put (cs := #[.bool false, .int .i64 t314, .int .i64 t315, .int .i64 0]) ?_ 3 _ rfl; (with_reducible repeat (first | refine blk_drewN ?_ _ | refine blk_drew ?_ | refine blk_alloc ?_ _)); refine blk_put (cs := #[.bool false, .int .i64 t314, .int .i64 0, .int .i64 0]) ?_ 2 _ rfl; (with_reducible repeat (first | refine blk_drewN ?_ _ | refine blk_drew ?_ | refine blk_alloc ?_ _)); refine blk_put (cs := #[.bool false, .int .i64 0, .int .i64 0, .int .i64 0]) ?_ 1 _ rfl; (with_reducible repeat (first | refine blk_drewN ?_ _ | refine blk_drew ?_ | refine blk_alloc ?_ _)); refine blk_put (cs := #[.bool false, .int .i64 0, .int .i64 0, .int .i64 0]) ?_ 0 _ rfl; (with_reducible repeat (first | refine blk_drewN ?_ _ | refine blk_drew ?_ | refine blk_alloc ?_ _)); exact BK293.out) Try.underlying72 rfl (by kernel_rfl)) rfl ?_
               exact ⟨rsl_, bel_⟩

end Go.Proofs.Ytdjfdhnmbimkoaa.PRs
